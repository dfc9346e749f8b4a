/- A part of the proof, without conditions. -/
import Derived.Test.YtkhbpmhagpljiaaGreatDoorEvT
set_option linter.unusedVariables false
set_option linter.unusedSimpArgs false
set_option linter.deprecated false
set_option maxRecDepth 100000
namespace Go.Proofs.YtkhbpmhagpljiaaGreatDoor.X
open Go Go.Ev
theorem IV (x0 : Value) (w : World) : Bq P (EV P) 3 #[x0] w =
 (vl (.bool false) w).bind fun r1 =>
 (vl x0 r1.2).bind fun r2 =>
 (Au P #[22] 3 #[r2.1] r2.2).bind fun r3 =>
 (bo P .gtr 3 (.tmp 8) (.const (.int .i64 1048576)) r3.1 (.int .i64 1048576) r3.2).bind fun r4 =>
 AK r4.1 (
 (vl (.bool true) r4.2).bind fun r5 =>
 some (r5.1, r5.2)) (
 (vl x0 r4.2).bind fun r6 =>
 (EV P 5 #[r6.1] r6.2).bind fun r7 =>
 (vl r7.1 r7.2).bind fun r8 =>
 (vl r8.1 r8.2).bind fun r9 =>
 (EV P 6 #[r9.1] r9.2).bind fun r10 =>
 (vl r10.1 r10.2).bind fun r11 =>
 (vl r11.1 r11.2).bind fun r12 =>
 (vl r8.1 r12.2).bind fun r13 =>
 (EV P 7 #[r13.1] r13.2).bind fun r14 =>
 (bo P .neq 9 (.tmp 14) (.tmp 16) r12.1 r14.1 r14.2).bind fun r15 =>
 (vl r15.1 r15.2).bind fun r16 =>
 (Am r16.1 false (vl r11.1 r16.2) r16.2).bind fun r17 =>
 (Am r16.1 false (bo P .eql 9 (.tmp 19) (.const (Go.Value.string { data := #[] })) r17.1 (Go.Value.string { data := #[] }) r17.2) r17.2).bind fun r18 =>
 (Ax r16.1 (.bool true) r18.1 r18.2).bind fun r19 =>
 AK r19.1 (
 (vl r11.1 r19.2).bind fun r20 =>
 (vl r8.1 r20.2).bind fun r21 =>
 (EV P 7 #[r21.1] r21.2).bind fun r22 =>
 (bo P .eql 9 (.tmp 22) (.tmp 24) r20.1 r22.1 r22.2).bind fun r23 =>
 (vl r23.1 r23.2).bind fun r24 =>
 some (r24.1, r24.2)) (
 (vl r11.1 r19.2).bind fun r25 =>
 (EV P 8 #[r25.1] r25.2).bind fun r26 =>
 (vl r26.1 r26.2).bind fun r27 =>
 (xt P r27.1 0 r27.2).bind fun r28 =>
 (xt P r27.1 1 r28.2).bind fun r29 =>
 (vl r28.1 r29.2).bind fun r30 =>
 (vl r29.1 r30.2).bind fun r31 =>
 (vl r31.1 r31.2).bind fun r32 =>
 (vl r32.1 r32.2).bind fun r33 =>
 (Am r33.1 true (vl r30.1 r33.2) r33.2).bind fun r34 =>
 (Am r33.1 true (vl r8.1 r34.2) r34.2).bind fun r35 =>
 (Am r33.1 true (EV P 9 #[r34.1, r35.1] r35.2) r35.2).bind fun r36 =>
 (Ax r33.1 r36.1 (.bool false) r36.2).bind fun r37 =>
 (vl r37.1 r37.2).bind fun r38 =>
 some (r38.1, r38.2))) := by kernel_rfl
theorem HX (x0 : Value) (w : World) : Bq P (EV P) 5 #[x0] w =
 (vl (Go.Value.slice none 0 0) w).bind fun r1 =>
 (vl x0 r1.2).bind fun r2 =>
 (EV P 13 #[r2.1] r2.2).bind fun r3 =>
 (EV P 12 #[r3.1] r3.2).bind fun r4 =>
 (vl r4.1 r4.2).bind fun r5 =>
 some (r5.1, r5.2) := by kernel_rfl
noncomputable def Db (e : Env) (w : World) : Option (Value × World) := BB P (EV P) 6 39 (.loop (cA (cA (cB (cA (cB (cB (cB (Af P 6))))))))) e w (An 0 (AB P (EV P) 6 39 (cB (cB (cB (cB (Af P 6))))) (Bl P (AA P 6))))
theorem Fh (e : Env) (w : World) : Db e w =
 (bo P .lss 3 (.tmp 11) (.tmp 10) (e 11) (e 10) w).bind fun r1 =>
 AK r1.1 (
 (ia P 23 (e 9) (e 11) r1.2).bind fun r2 =>
 (ld P 41 r2.1 r2.2).bind fun r3 =>
 (al P 41 r3.2).bind fun r4 =>
 (st P 41 r4.1 r3.1 r4.2).bind fun r5 =>
 (fa P 41 r4.1 0 (dw r5.2)).bind fun r7 =>
 Ag (r7.2 = (dw r5.2)) <|
 (ld P 3 r7.1 (dw r5.2)).bind fun r8 =>
 Ag (r8.2 = (dw r5.2)) <|
 (fa P 41 r4.1 1 (dw r5.2)).bind fun r9 =>
 Ag (r9.2 = (dw r5.2)) <|
 (ld P 3 r9.1 (dw r5.2)).bind fun r10 =>
 Ag (r10.2 = (dw r5.2)) <|
 (fa P 41 r4.1 2 (dw r5.2)).bind fun r11 =>
 Ag (r11.2 = (dw r5.2)) <|
 (ld P 3 r11.1 (dw r5.2)).bind fun r12 =>
 Ag (r12.2 = (dw r5.2)) <|
 (fa P 41 r4.1 3 (dw r5.2)).bind fun r13 =>
 Ag (r13.2 = (dw r5.2)) <|
 (ld P 39 r13.1 (dw r5.2)).bind fun r14 =>
 Ag (r14.2 = (dw r5.2)) <|
 (EV P 16 #[r8.1] (dw r5.2)).bind fun r15 =>
 Ag (ld P 39 r13.1 r15.2 = some (r14.1, r15.2) ∧ fa P 41 r4.1 3 r15.2 = some (r13.1, r15.2) ∧ ld P 3 r11.1 r15.2 = some (r12.1, r15.2) ∧ fa P 41 r4.1 2 r15.2 = some (r11.1, r15.2) ∧ ld P 3 r9.1 r15.2 = some (r10.1, r15.2) ∧ fa P 41 r4.1 1 r15.2 = some (r9.1, r15.2) ∧ True ∧ True ∧ True) <|
 (bo P .add 9 (.tmp 17) (.const (Go.Value.string { data := #[32] })) r15.1 (Go.Value.string { data := #[32] }) r15.2).bind fun r16 =>
 Ag (r16.2 = r15.2) <|
 (EV P 17 #[] r15.2).bind fun r17 =>
 Ag (bo P .add 9 (.tmp 17) (.const (Go.Value.string { data := #[32] })) r15.1 (Go.Value.string { data := #[32] }) r17.2 = some (r16.1, r17.2) ∧ ld P 39 r13.1 r17.2 = some (r14.1, r17.2) ∧ fa P 41 r4.1 3 r17.2 = some (r13.1, r17.2) ∧ ld P 3 r11.1 r17.2 = some (r12.1, r17.2) ∧ fa P 41 r4.1 2 r17.2 = some (r11.1, r17.2) ∧ ld P 3 r9.1 r17.2 = some (r10.1, r17.2) ∧ fa P 41 r4.1 1 r17.2 = some (r9.1, r17.2) ∧ True ∧ True ∧ True) <|
 (ia P 47 r17.1 r10.1 r17.2).bind fun r18 =>
 Ag (r18.2 = r17.2) <|
 (ld P 9 r18.1 r17.2).bind fun r19 =>
 Ag (r19.2 = r17.2) <|
 (bo P .add 9 (.tmp 18) (.tmp 23) r16.1 r19.1 r17.2).bind fun r20 =>
 Ag (r20.2 = r17.2) <|
 (bo P .add 9 (.tmp 24) (.const (Go.Value.string { data := #[32] })) r20.1 (Go.Value.string { data := #[32] }) r17.2).bind fun r21 =>
 Ag (r21.2 = r17.2) <|
 (EV P 16 #[r12.1] r17.2).bind fun r22 =>
 Ag (bo P .add 9 (.tmp 24) (.const (Go.Value.string { data := #[32] })) r20.1 (Go.Value.string { data := #[32] }) r22.2 = some (r21.1, r22.2) ∧ bo P .add 9 (.tmp 18) (.tmp 23) r16.1 r19.1 r22.2 = some (r20.1, r22.2) ∧ ld P 9 r18.1 r22.2 = some (r19.1, r22.2) ∧ ia P 47 r17.1 r10.1 r22.2 = some (r18.1, r22.2) ∧ bo P .add 9 (.tmp 17) (.const (Go.Value.string { data := #[32] })) r15.1 (Go.Value.string { data := #[32] }) r22.2 = some (r16.1, r22.2) ∧ ld P 39 r13.1 r22.2 = some (r14.1, r22.2) ∧ fa P 41 r4.1 3 r22.2 = some (r13.1, r22.2) ∧ True ∧ True ∧ ld P 3 r9.1 r22.2 = some (r10.1, r22.2) ∧ fa P 41 r4.1 1 r22.2 = some (r9.1, r22.2) ∧ True ∧ True ∧ True) <|
 (bo P .add 9 (.tmp 25) (.tmp 28) r21.1 r22.1 r22.2).bind fun r23 =>
 Ag (r23.2 = r22.2) <|
 (bo P .add 9 (.tmp 29) (.const (Go.Value.string { data := #[32] })) r23.1 (Go.Value.string { data := #[32] }) r22.2).bind fun r24 =>
 Ag (r24.2 = r22.2) <|
 (EV P 18 #[r14.1] r22.2).bind fun r25 =>
 Ag (bo P .add 9 (.tmp 29) (.const (Go.Value.string { data := #[32] })) r23.1 (Go.Value.string { data := #[32] }) r25.2 = some (r24.1, r25.2) ∧ bo P .add 9 (.tmp 25) (.tmp 28) r21.1 r22.1 r25.2 = some (r23.1, r25.2) ∧ bo P .add 9 (.tmp 24) (.const (Go.Value.string { data := #[32] })) r20.1 (Go.Value.string { data := #[32] }) r25.2 = some (r21.1, r25.2) ∧ bo P .add 9 (.tmp 18) (.tmp 23) r16.1 r19.1 r25.2 = some (r20.1, r25.2) ∧ ld P 9 r18.1 r25.2 = some (r19.1, r25.2) ∧ ia P 47 r17.1 r10.1 r25.2 = some (r18.1, r25.2) ∧ bo P .add 9 (.tmp 17) (.const (Go.Value.string { data := #[32] })) r15.1 (Go.Value.string { data := #[32] }) r25.2 = some (r16.1, r25.2) ∧ True ∧ True ∧ True ∧ True ∧ ld P 3 r9.1 r25.2 = some (r10.1, r25.2) ∧ fa P 41 r4.1 1 r25.2 = some (r9.1, r25.2) ∧ True ∧ True ∧ True) <|
 (bo P .add 9 (.tmp 30) (.tmp 33) r24.1 r25.1 r25.2).bind fun r26 =>
 Ag (r26.2 = r25.2) <|
 (bo P .add 9 (.tmp 34) (.const (Go.Value.string { data := #[10] })) r26.1 (Go.Value.string { data := #[10] }) r25.2).bind fun r27 =>
 Ag (r27.2 = r25.2) <|
 (EV P 15 #[(e 3), r27.1] r25.2).bind fun r28 =>
 Ag (True ∧ True ∧ True ∧ True ∧ True ∧ True ∧ True ∧ True ∧ True ∧ True ∧ True ∧ True ∧ True ∧ True ∧ True ∧ True ∧ True ∧ True) <|
 (bo P .add 3 (.tmp 11) (.const (.int .i64 1)) (e 11) (.int .i64 1) r28.2).bind fun r29 =>
 (vl r29.1 r29.2).bind fun r30 =>
 Db (AG e [(12, r1.1), (13, r2.1), (14, r3.1), (5, r4.1), (15, r7.1), (16, r8.1), (20, r9.1), (21, r10.1), (26, r11.1), (27, r12.1), (31, r13.1), (32, r14.1), (17, r15.1), (18, r16.1), (19, r17.1), (22, r18.1), (23, r19.1), (24, r20.1), (25, r21.1), (28, r22.1), (29, r23.1), (30, r24.1), (33, r25.1), (34, r26.1), (35, r27.1), (36, r28.1), (37, r29.1), (11, r30.1)]) r30.2) (
 (EV P 19 #[(e 3)] r1.2).bind fun r31 =>
 (vl r31.1 r31.2).bind fun r32 =>
 some (r32.1, r32.2)) := (AD P (EV P) 6 39 (cA (cA (cB (cA (cB (cB (cB (Af P 6)))))))) e w (An 0 (AB P (EV P) 6 39 (cB (cB (cB (cB (Af P 6))))) (Bl P (AA P 6))))).trans (by kernel_rfl)
theorem Ku (x0 : Value) (w : World) : Bq P (EV P) 6 #[x0] w =
 (vl (Go.Value.string { data := #[] }) w).bind fun r1 =>
 (vl x0 r1.2).bind fun r2 =>
 (EV P 14 #[r2.1] r2.2).bind fun r3 =>
 (uo P .not r3.1 r3.2).bind fun r4 =>
 AK r4.1 (
 (vl (Go.Value.string { data := #[] }) r4.2).bind fun r5 =>
 some (r5.1, r5.2)) (
 (al P 37 r4.2).bind fun r6 =>
 (vl x0 r6.2).bind fun r7 =>
 (Au P #[23] 3 #[r7.1] r7.2).bind fun r8 =>
 (vl (.int .i64 0) r8.2).bind fun r9 =>
 Db (AG (AL #[x0]) [(2, r1.1), (6, r2.1), (7, r3.1), (8, r4.1), (3, r6.1), (9, r7.1), (10, r8.1), (11, r9.1)]) r9.2) := by kernel_rfl
noncomputable def Dc (e : Env) (w : World) : Option (Value × World) := BB P (EV P) 7 23 (.loop (cA (cA (cB (cA (cB (cB (Af P 7)))))))) e w (An 0 (AB P (EV P) 7 23 (cB (cB (cB (Af P 7)))) (Bl P (AA P 7))))
theorem Di (e : Env) (w : World) : Dc e w =
 (vl (e 4) w).bind fun r1 =>
 (vl (e 0) r1.2).bind fun r2 =>
 (Au P #[23] 3 #[r2.1] r2.2).bind fun r3 =>
 (bo P .lss 3 (.tmp 5) (.tmp 7) r1.1 r3.1 r3.2).bind fun r4 =>
 (vl r4.1 r4.2).bind fun r5 =>
 (Am r5.1 true (vl (e 0) r5.2) r5.2).bind fun r6 =>
 (Am r5.1 true (EV P 20 #[r6.1] r6.2) r6.2).bind fun r7 =>
 (Ax r5.1 r7.1 (.bool false) r7.2).bind fun r8 =>
 AK r8.1 (
 (vl (e 3) r8.2).bind fun r9 =>
 (vl (e 0) r9.2).bind fun r10 =>
 (vl (e 4) r10.2).bind fun r11 =>
 (ia P 23 r10.1 r11.1 r11.2).bind fun r12 =>
 (ld P 41 r12.1 r12.2).bind fun r13 =>
 (EV P 21 #[r13.1] r13.2).bind fun r14 =>
 (bo P .add 9 (.tmp 15) (.tmp 20) r9.1 r14.1 r14.2).bind fun r15 =>
 (vl r15.1 r15.2).bind fun r16 =>
 (vl (e 4) r16.2).bind fun r17 =>
 (bo P .add 3 (.tmp 13) (.const (.int .i64 1)) r17.1 (.int .i64 1) r17.2).bind fun r18 =>
 (vl r18.1 r18.2).bind fun r19 =>
 Dc (AG e [(5, r1.1), (6, r2.1), (7, r3.1), (8, r4.1), (9, r5.1), (10, r6.1), (11, r7.1), (12, r8.1), (15, r9.1), (16, r10.1), (17, r11.1), (18, r12.1), (19, r13.1), (20, r14.1), (21, r15.1), (3, r16.1), (13, r17.1), (14, r18.1), (4, r19.1)]) r19.2) (
 (vl (e 3) r8.2).bind fun r20 =>
 (vl r20.1 r20.2).bind fun r21 =>
 some (r21.1, r21.2)) := (AD P (EV P) 7 23 (cA (cA (cB (cA (cB (cB (Af P 7))))))) e w (An 0 (AB P (EV P) 7 23 (cB (cB (cB (Af P 7)))) (Bl P (AA P 7))))).trans (by kernel_rfl)
theorem Kv (x0 : Value) (w : World) : Bq P (EV P) 7 #[x0] w =
 (vl (Go.Value.string { data := #[] }) w).bind fun r1 =>
 (vl (Go.Value.string { data := #[] }) r1.2).bind fun r2 =>
 (vl (.int .i64 0) r2.2).bind fun r3 =>
 Dc (AG (AL #[x0]) [(2, r1.1), (3, r2.1), (4, r3.1)]) r3.2 := by kernel_rfl
noncomputable def Co (e : Env) (w : World) : Option (Value × World) := BB P (EV P) 8 49 (.loop (cA (cA (cB (cA (cB (cB (Af P 8)))))))) e w (An 0 (AB P (EV P) 8 49 (cB (cB (cB (Af P 8)))) (Bl P (AA P 8))))
theorem Fi (e : Env) (w : World) : Co e w =
 (vl (e 5) w).bind fun r1 =>
 (bo P .neq 9 (.tmp 13) (.const (Go.Value.string { data := #[] })) r1.1 (Go.Value.string { data := #[] }) r1.2).bind fun r2 =>
 (vl r2.1 r2.2).bind fun r3 =>
 (Am r3.1 true (vl (e 4) r3.2) r3.2).bind fun r4 =>
 (Am r3.1 true (Au P #[23] 3 #[r4.1] r4.2) r4.2).bind fun r5 =>
 (Am r3.1 true (bo P .leq 3 (.tmp 17) (.const (.int .i64 80)) r5.1 (.int .i64 80) r5.2) r5.2).bind fun r6 =>
 (Ax r3.1 r6.1 (.bool false) r6.2).bind fun r7 =>
 AK r7.1 (
 (vl (e 5) r7.2).bind fun r8 =>
 (EV P 22 #[r8.1, (Go.Value.string { data := #[10] })] r8.2).bind fun r9 =>
 (vl r9.1 r9.2).bind fun r10 =>
 (xt P r10.1 0 r10.2).bind fun r11 =>
 (xt P r10.1 1 r11.2).bind fun r12 =>
 (xt P r10.1 2 r12.2).bind fun r13 =>
 (vl r11.1 r13.2).bind fun r14 =>
 (vl r12.1 r14.2).bind fun r15 =>
 (vl r13.1 r15.2).bind fun r16 =>
 (vl r14.1 r16.2).bind fun r17 =>
 (EV P 23 #[r17.1] r17.2).bind fun r18 =>
 (vl r18.1 r18.2).bind fun r19 =>
 (xt P r19.1 0 r19.2).bind fun r20 =>
 (xt P r19.1 1 r20.2).bind fun r21 =>
 (al P 41 r21.2).bind fun r22 =>
 (st P 41 r22.1 r20.1 r22.2).bind fun r23 =>
 (vl r21.1 r23.2).bind fun r24 =>
 (vl r24.1 r24.2).bind fun r25 =>
 (uo P .not r25.1 r25.2).bind fun r26 =>
 AK r26.1 (
 (vl (Go.Value.slice none 0 0) r26.2).bind fun r27 =>
 (vl (.bool false) r27.2).bind fun r28 =>
 some (.tuple #[r27.1, r28.1], r28.2)) (
 (vl (e 4) r26.2).bind fun r29 =>
 (ld P 41 r22.1 r29.2).bind fun r30 =>
 (bs P 23 1 #[(0, r30.1)] r30.2).bind fun r31 =>
 (Aq P #[23, 23] 23 #[r29.1, r31.1] r31.2).bind fun r32 =>
 (vl r32.1 r32.2).bind fun r33 =>
 (vl r15.1 r33.2).bind fun r34 =>
 (vl r34.1 r34.2).bind fun r35 =>
 Co (AG e [(13, r1.1), (14, r2.1), (15, r3.1), (16, r4.1), (17, r5.1), (18, r6.1), (19, r7.1), (21, r8.1), (22, r9.1), (20, r10.1), (23, r11.1), (24, r12.1), (25, r13.1), (6, r14.1), (7, r15.1), (8, r16.1), (27, r17.1), (28, r18.1), (26, r19.1), (29, r20.1), (30, r21.1), (9, r22.1), (10, r24.1), (31, r25.1), (32, r26.1), (33, r29.1), (34, r30.1), (35, r31.1), (36, r32.1), (4, r33.1), (37, r34.1), (5, r35.1)]) r35.2)) (
 (vl (e 4) r7.2).bind fun r36 =>
 (EV P 14 #[r36.1] r36.2).bind fun r37 =>
 (uo P .not r37.1 r37.2).bind fun r38 =>
 (vl r38.1 r38.2).bind fun r39 =>
 (Am r39.1 false (vl (e 4) r39.2) r39.2).bind fun r40 =>
 (Am r39.1 false (EV P 6 #[r40.1] r40.2) r40.2).bind fun r41 =>
 (Am r39.1 false (vl (e 0) r41.2) r41.2).bind fun r42 =>
 (Am r39.1 false (bo P .neq 9 (.tmp 43) (.tmp 44) r41.1 r42.1 r42.2) r42.2).bind fun r43 =>
 (Ax r39.1 (.bool true) r43.1 r43.2).bind fun r44 =>
 AK r44.1 (
 (vl (Go.Value.slice none 0 0) r44.2).bind fun r45 =>
 (vl (.bool false) r45.2).bind fun r46 =>
 some (.tuple #[r45.1, r46.1], r46.2)) (
 (vl (e 4) r44.2).bind fun r47 =>
 (EV P 24 #[r47.1] r47.2).bind fun r48 =>
 (vl r48.1 r48.2).bind fun r49 =>
 (vl (.bool true) r49.2).bind fun r50 =>
 some (.tuple #[r49.1, r50.1], r50.2))) := (AD P (EV P) 8 49 (cA (cA (cB (cA (cB (cB (Af P 8))))))) e w (An 0 (AB P (EV P) 8 49 (cB (cB (cB (Af P 8)))) (Bl P (AA P 8))))).trans (by kernel_rfl)
theorem Kw (x0 : Value) (w : World) : Bq P (EV P) 8 #[x0] w =
 (vl (Go.Value.slice none 0 0) w).bind fun r1 =>
 (vl (.bool false) r1.2).bind fun r2 =>
 (bs P 23 0 #[] r2.2).bind fun r3 =>
 (vl r3.1 r3.2).bind fun r4 =>
 (vl x0 r4.2).bind fun r5 =>
 (vl r5.1 r5.2).bind fun r6 =>
 Co (AG (AL #[x0]) [(2, r1.1), (3, r2.1), (11, r3.1), (4, r4.1), (12, r5.1), (5, r6.1)]) r6.2 := by kernel_rfl
noncomputable def Dx (e : Env) (w : World) : Option (Value × World) := BB P (EV P) 9 26 (.loop (cA (cA (cB (cA (cB (cB (Af P 9)))))))) e w (An 0 (AB P (EV P) 9 26 (cB (cB (cB (Af P 9)))) (Bl P (AA P 9))))
theorem FD (e : Env) (w : World) : Dx e w =
 (vl (e 5) w).bind fun r1 =>
 (vl (e 0) r1.2).bind fun r2 =>
 (Au P #[23] 3 #[r2.1] r2.2).bind fun r3 =>
 (bo P .lss 3 (.tmp 11) (.tmp 13) r1.1 r3.1 r3.2).bind fun r4 =>
 AK r4.1 (
 (vl (e 0) (dw r4.2)).bind fun r6 =>
 Ag (r6.2 = (dw r4.2)) <|
 (vl (e 5) (dw r4.2)).bind fun r7 =>
 Ag (r7.2 = (dw r4.2)) <|
 (ia P 23 r6.1 r7.1 (dw r4.2)).bind fun r8 =>
 Ag (r8.2 = (dw r4.2)) <|
 (ld P 41 r8.1 (dw r4.2)).bind fun r9 =>
 Ag (r9.2 = (dw r4.2)) <|
 (vl (e 1) (dw r4.2)).bind fun r10 =>
 Ag (r10.2 = (dw r4.2)) <|
 (vl (e 5) (dw r4.2)).bind fun r11 =>
 Ag (r11.2 = (dw r4.2)) <|
 (ia P 23 r10.1 r11.1 (dw r4.2)).bind fun r12 =>
 Ag (r12.2 = (dw r4.2)) <|
 (ld P 41 r12.1 (dw r4.2)).bind fun r13 =>
 Ag (r13.2 = (dw r4.2)) <|
 (bo P .neq 41 (.tmp 20) (.tmp 24) r9.1 r13.1 (dw r4.2)).bind fun r14 =>
 Ag (r14.2 = (dw r4.2)) <|
 AK r14.1 (
 (vl (.bool false) (dw r4.2)).bind fun r15 =>
 some (r15.1, r15.2)) (
 (vl (e 5) (dw r4.2)).bind fun r16 =>
 (bo P .add 3 (.tmp 15) (.const (.int .i64 1)) r16.1 (.int .i64 1) r16.2).bind fun r17 =>
 (vl r17.1 r17.2).bind fun r18 =>
 Dx (AG e [(11, r1.1), (12, r2.1), (13, r3.1), (14, r4.1), (17, r6.1), (18, r7.1), (19, r8.1), (20, r9.1), (21, r10.1), (22, r11.1), (23, r12.1), (24, r13.1), (25, r14.1), (15, r16.1), (16, r17.1), (5, r18.1)]) r18.2)) (
 (vl (.bool true) r4.2).bind fun r19 =>
 some (r19.1, r19.2)) := (AD P (EV P) 9 26 (cA (cA (cB (cA (cB (cB (Af P 9))))))) e w (An 0 (AB P (EV P) 9 26 (cB (cB (cB (Af P 9)))) (Bl P (AA P 9))))).trans (by kernel_rfl)
theorem Lf (x0 x1 : Value) (w : World) : Bq P (EV P) 9 #[x0, x1] w =
 (vl (.bool false) w).bind fun r1 =>
 (vl x0 r1.2).bind fun r2 =>
 (Au P #[23] 3 #[r2.1] r2.2).bind fun r3 =>
 (vl x1 r3.2).bind fun r4 =>
 (Au P #[23] 3 #[r4.1] r4.2).bind fun r5 =>
 (bo P .neq 3 (.tmp 7) (.tmp 9) r3.1 r5.1 r5.2).bind fun r6 =>
 AK r6.1 (
 (vl (.bool false) r6.2).bind fun r7 =>
 some (r7.1, r7.2)) (
 (vl (.int .i64 0) r6.2).bind fun r8 =>
 Dx (AG (AL #[x0, x1]) [(4, r1.1), (6, r2.1), (7, r3.1), (8, r4.1), (9, r5.1), (10, r6.1), (5, r8.1)]) r8.2) := by kernel_rfl
noncomputable def Bj (e : Env) (w : World) : Option (Value × World) := BB P (EV P) 12 65 (cB (cB (cB (Af P 12)))) e w (Bl P (AA P 12))
theorem Ix (e : Env) (w : World) : Bj e w =
 (vl (e 3) w).bind fun r1 =>
 (vl r1.1 r1.2).bind fun r2 =>
 some (r2.1, r2.2) := by kernel_rfl
theorem Kx (x0 : Value) (w : World) : Bq P (EV P) 12 #[x0] w =
 (vl (Go.Value.slice none 0 0) w).bind fun r1 =>
 (bs P 23 0 #[] r1.2).bind fun r2 =>
 (vl x0 r2.2).bind fun r3 =>
 (EV P 32 #[r3.1] r3.2).bind fun r4 =>
 (fv P 67 r4.1 3 r4.2).bind fun r5 =>
 (Aq P #[23, 23] 23 #[r2.1, r5.1] r5.2).bind fun r6 =>
 (vl r6.1 r6.2).bind fun r7 =>
 (vl r7.1 r7.2).bind fun r8 =>
 (Au P #[23] 3 #[r8.1] r8.2).bind fun r9 =>
 (bo P .gtr 3 (.tmp 11) (.const (.int .i64 0)) r9.1 (.int .i64 0) r9.2).bind fun r10 =>
 (vl r10.1 r10.2).bind fun r11 =>
 (Am r11.1 true (vl x0 r11.2) r11.2).bind fun r12 =>
 (Am r11.1 true (EV P 25 #[r12.1, (.int .i64 3)] r12.2) r12.2).bind fun r13 =>
 (Am r11.1 true (bo P .eql 3 (.tmp 15) (.const (.int .i64 0)) r13.1 (.int .i64 0) r13.2) r13.2).bind fun r14 =>
 (Ax r11.1 r14.1 (.bool false) r14.2).bind fun r15 =>
 AK r15.1 (
 (vl x0 r15.2).bind fun r16 =>
 (vl r7.1 r16.2).bind fun r17 =>
 (Au P #[23] 3 #[r17.1] r17.2).bind fun r18 =>
 (EV P 25 #[r16.1, r18.1] r18.2).bind fun r19 =>
 (vl r19.1 r19.2).bind fun r20 =>
 (vl x0 r20.2).bind fun r21 =>
 (EV P 25 #[r21.1, (.int .i64 5)] r21.2).bind fun r22 =>
 (bo P .eql 3 (.tmp 23) (.const (.int .i64 0)) r22.1 (.int .i64 0) r22.2).bind fun r23 =>
 (vl r23.1 r23.2).bind fun r24 =>
 AK r24.1 (
 (vl r7.1 r24.2).bind fun r25 =>
 (vl r20.1 r25.2).bind fun r26 =>
 (vl x0 r26.2).bind fun r27 =>
 (EV P 33 #[r27.1] r27.2).bind fun r28 =>
 (ia P 23 r25.1 r26.1 r28.2).bind fun r29 =>
 (fa P 41 r29.1 3 r29.2).bind fun r30 =>
 (st P 39 r30.1 r28.1 r30.2).bind fun r31 =>
 Bj (AG (AL #[x0]) [(2, r1.1), (5, r2.1), (6, r3.1), (7, r4.1), (8, r5.1), (9, r6.1), (3, r7.1), (10, r8.1), (11, r9.1), (12, r10.1), (13, r11.1), (14, r12.1), (15, r13.1), (16, r14.1), (17, r15.1), (18, r16.1), (19, r17.1), (20, r18.1), (21, r19.1), (4, r20.1), (22, r21.1), (23, r22.1), (33, r23.1), (32, r24.1), (34, r25.1), (35, r26.1), (36, r27.1), (37, r28.1), (38, r29.1), (39, r30.1)]) r31.2) (
 (bo P .eql 3 (.tmp 23) (.const (.int .i64 1)) r22.1 (.int .i64 1) r24.2).bind fun r32 =>
 (vl r32.1 r32.2).bind fun r33 =>
 AK r33.1 (
 (vl r7.1 r33.2).bind fun r34 =>
 (vl r20.1 r34.2).bind fun r35 =>
 (vl x0 r35.2).bind fun r36 =>
 (EV P 25 #[r36.1, (.int .i64 5)] r36.2).bind fun r37 =>
 (ia P 23 r34.1 r35.1 r37.2).bind fun r38 =>
 (fa P 41 r38.1 1 r38.2).bind fun r39 =>
 (st P 3 r39.1 r37.1 r39.2).bind fun r40 =>
 Bj (AG (AL #[x0]) [(2, r1.1), (5, r2.1), (6, r3.1), (7, r4.1), (8, r5.1), (9, r6.1), (3, r7.1), (10, r8.1), (11, r9.1), (12, r10.1), (13, r11.1), (14, r12.1), (15, r13.1), (16, r14.1), (17, r15.1), (18, r16.1), (19, r17.1), (20, r18.1), (21, r19.1), (4, r20.1), (22, r21.1), (23, r22.1), (33, r23.1), (32, r24.1), (41, r32.1), (40, r33.1), (42, r34.1), (43, r35.1), (44, r36.1), (45, r37.1), (46, r38.1), (47, r39.1)]) r40.2) (
 (bo P .eql 3 (.tmp 23) (.const (.int .i64 2)) r22.1 (.int .i64 2) r33.2).bind fun r41 =>
 (vl r41.1 r41.2).bind fun r42 =>
 AK r42.1 (
 (vl r7.1 r42.2).bind fun r43 =>
 (vl r20.1 r43.2).bind fun r44 =>
 (vl x0 r44.2).bind fun r45 =>
 (EV P 25 #[r45.1, (.int .i64 5)] r45.2).bind fun r46 =>
 (ia P 23 r43.1 r44.1 r46.2).bind fun r47 =>
 (fa P 41 r47.1 2 r47.2).bind fun r48 =>
 (st P 3 r48.1 r46.1 r48.2).bind fun r49 =>
 Bj (AG (AL #[x0]) [(2, r1.1), (5, r2.1), (6, r3.1), (7, r4.1), (8, r5.1), (9, r6.1), (3, r7.1), (10, r8.1), (11, r9.1), (12, r10.1), (13, r11.1), (14, r12.1), (15, r13.1), (16, r14.1), (17, r15.1), (18, r16.1), (19, r17.1), (20, r18.1), (21, r19.1), (4, r20.1), (22, r21.1), (23, r22.1), (33, r23.1), (32, r24.1), (41, r32.1), (40, r33.1), (49, r41.1), (48, r42.1), (50, r43.1), (51, r44.1), (52, r45.1), (53, r46.1), (54, r47.1), (55, r48.1)]) r49.2) (
 (bo P .eql 3 (.tmp 23) (.const (.int .i64 3)) r22.1 (.int .i64 3) r42.2).bind fun r50 =>
 (vl r50.1 r50.2).bind fun r51 =>
 AK r51.1 (
 (vl r7.1 r51.2).bind fun r52 =>
 (vl r20.1 r52.2).bind fun r53 =>
 (vl x0 r53.2).bind fun r54 =>
 (EV P 25 #[r54.1, (.int .i64 5)] r54.2).bind fun r55 =>
 (ia P 23 r52.1 r53.1 r55.2).bind fun r56 =>
 (fa P 41 r56.1 0 r56.2).bind fun r57 =>
 (st P 3 r57.1 r55.1 r57.2).bind fun r58 =>
 Bj (AG (AL #[x0]) [(2, r1.1), (5, r2.1), (6, r3.1), (7, r4.1), (8, r5.1), (9, r6.1), (3, r7.1), (10, r8.1), (11, r9.1), (12, r10.1), (13, r11.1), (14, r12.1), (15, r13.1), (16, r14.1), (17, r15.1), (18, r16.1), (19, r17.1), (20, r18.1), (21, r19.1), (4, r20.1), (22, r21.1), (23, r22.1), (33, r23.1), (32, r24.1), (41, r32.1), (40, r33.1), (49, r41.1), (48, r42.1), (57, r50.1), (56, r51.1), (58, r52.1), (59, r53.1), (60, r54.1), (61, r55.1), (62, r56.1), (63, r57.1)]) r58.2) (
 (vl r7.1 (dw r51.2)).bind fun r60 =>
 Ag (r60.2 = (dw r51.2)) <|
 (vl r20.1 (dw r51.2)).bind fun r61 =>
 Ag (r61.2 = (dw r51.2)) <|
 (sl P 23 r60.1 none (some r61.1) none (dw r51.2)).bind fun r62 =>
 Ag (r62.2 = (dw r51.2)) <|
 (vl r7.1 (dw r51.2)).bind fun r63 =>
 Ag (r63.2 = (dw r51.2)) <|
 (vl r20.1 (dw r51.2)).bind fun r64 =>
 Ag (r64.2 = (dw r51.2)) <|
 (bo P .add 3 (.tmp 28) (.const (.int .i64 1)) r64.1 (.int .i64 1) (dw r51.2)).bind fun r65 =>
 Ag (r65.2 = (dw r51.2)) <|
 (sl P 23 r63.1 (some r65.1) none none (dw r51.2)).bind fun r66 =>
 Ag (r66.2 = (dw r51.2)) <|
 (Aq P #[23, 23] 23 #[r62.1, r66.1] (dw r51.2)).bind fun r67 =>
 Ag (True ∧ True ∧ True ∧ True) <|
 (vl r67.1 r67.2).bind fun r68 =>
 Ag (r68.2 = r67.2) <|
 Bj (AG (AL #[x0]) [(2, r1.1), (5, r2.1), (6, r3.1), (7, r4.1), (8, r5.1), (9, r6.1), (3, r7.1), (10, r8.1), (11, r9.1), (12, r10.1), (13, r11.1), (14, r12.1), (15, r13.1), (16, r14.1), (17, r15.1), (18, r16.1), (19, r17.1), (20, r18.1), (21, r19.1), (4, r20.1), (22, r21.1), (23, r22.1), (33, r23.1), (32, r24.1), (41, r32.1), (40, r33.1), (49, r41.1), (48, r42.1), (57, r50.1), (56, r51.1), (24, r60.1), (25, r61.1), (26, r62.1), (27, r63.1), (28, r64.1), (29, r65.1), (30, r66.1), (31, r67.1), (3, r68.1)]) r67.2))))) (
 Bj (AG (AL #[x0]) [(2, r1.1), (5, r2.1), (6, r3.1), (7, r4.1), (8, r5.1), (9, r6.1), (3, r7.1), (10, r8.1), (11, r9.1), (12, r10.1), (13, r11.1), (14, r12.1), (15, r13.1), (16, r14.1), (17, r15.1)]) r15.2) := by kernel_rfl
noncomputable def Dd (e : Env) (w : World) : Option (Value × World) := BB P (EV P) 13 11 (cB (cB (Af P 13))) e w (Bl P (AA P 13))
theorem Iy (e : Env) (w : World) : Dd e w =
 (vl (e 0) w).bind fun r1 =>
 (bd P 71 #[(0, r1.1)] r1.2).bind fun r2 =>
 (bx P 71 r2.1 r2.2).bind fun r3 =>
 (vl r3.1 r3.2).bind fun r4 =>
 some (r4.1, r4.2) := by kernel_rfl
theorem Ky (x0 : Value) (w : World) : Bq P (EV P) 13 #[x0] w =
 (vl (Go.Value.pointer none) w).bind fun r1 =>
 (vl x0 r1.2).bind fun r2 =>
 (Au P #[22] 3 #[r2.1] r2.2).bind fun r3 =>
 (bo P .gtr 3 (.tmp 4) (.const (.int .i64 2000)) r3.1 (.int .i64 2000) r3.2).bind fun r4 =>
 AK r4.1 (
 (vl x0 r4.2).bind fun r5 =>
 (sl P 22 r5.1 none (some (.int .i64 2000)) none r5.2).bind fun r6 =>
 (vl r6.1 r6.2).bind fun r7 =>
 Dd (AG (AL #[x0]) [(2, r1.1), (3, r2.1), (4, r3.1), (5, r4.1), (6, r5.1), (7, r6.1), (0, r7.1)]) r7.2) (
 Dd (AG (AL #[x0]) [(2, r1.1), (3, r2.1), (4, r3.1), (5, r4.1)]) r4.2) := by kernel_rfl
theorem Lg (x0 : Value) (w : World) : Bq P (EV P) 14 #[x0] w =
 (vl (.bool false) w).bind fun r1 =>
 (vl x0 r1.2).bind fun r2 =>
 (Au P #[23] 3 #[r2.1] r2.2).bind fun r3 =>
 (bo P .leq 3 (.tmp 4) (.const (.int .i64 80)) r3.1 (.int .i64 80) r3.2).bind fun r4 =>
 (vl r4.1 r4.2).bind fun r5 =>
 (Am r5.1 true (vl x0 r5.2) r5.2).bind fun r6 =>
 (Am r5.1 true (EV P 34 #[r6.1, (.func (.func 35) #[] #[])] r6.2) r6.2).bind fun r7 =>
 (Am r5.1 true (uo P .not r7.1 r7.2) r7.2).bind fun r8 =>
 (Ax r5.1 r8.1 (.bool false) r8.2).bind fun r9 =>
 (vl r9.1 r9.2).bind fun r10 =>
 some (r10.1, r10.2) := by kernel_rfl
theorem Ej (x0 x1 : Value) (w : World) : Bq P (EV P) 15 #[x0, x1] w =
 (vl (.int .i64 0) w).bind fun r1 =>
 (vl Go.Value.nilIface r1.2).bind fun r2 =>
 (vl x0 r2.2).bind fun r3 =>
 (EV P 39 #[r3.1] r3.2).bind fun r4 =>
 (vl x0 r4.2).bind fun r5 =>
 (vl x0 r5.2).bind fun r6 =>
 (nk P r6.1 r6.2).bind fun r7 =>
 (fa P 37 r7.1 1 r7.2).bind fun r8 =>
 (ld P 22 r8.1 r8.2).bind fun r9 =>
 (vl x1 r9.2).bind fun r10 =>
 (Aq P #[22, 9] 22 #[r9.1, r10.1] r10.2).bind fun r11 =>
 (nk P r5.1 r11.2).bind fun r12 =>
 (fa P 37 r12.1 1 r12.2).bind fun r13 =>
 (st P 22 r13.1 r11.1 r13.2).bind fun r14 =>
 (vl x1 r14.2).bind fun r15 =>
 (Au P #[9] 3 #[r15.1] r15.2).bind fun r16 =>
 (vl r16.1 r16.2).bind fun r17 =>
 (vl Go.Value.nilIface r17.2).bind fun r18 =>
 some (.tuple #[r17.1, r18.1], r18.2) := by kernel_rfl
theorem Kz (x0 : Value) (w : World) : Bq P (EV P) 16 #[x0] w =
 (vl (Go.Value.string { data := #[] }) w).bind fun r1 =>
 (vl x0 r1.2).bind fun r2 =>
 (EV P 40 #[r2.1] r2.2).bind fun r3 =>
 (vl r3.1 r3.2).bind fun r4 =>
 some (r4.1, r4.2) := by kernel_rfl
theorem IW (w : World) : Bq P (EV P) 17 #[] w =
 (vl (Go.Value.slice none 0 0) w).bind fun r1 =>
 (bs P 47 4 #[(0, (Go.Value.string { data := #[] })), (1, (Go.Value.string { data := #[119, 114, 105, 116, 101] })), (2, (Go.Value.string { data := #[114, 101, 97, 100] })), (3, (Go.Value.string { data := #[115, 117, 114, 101] }))] r1.2).bind fun r2 =>
 (vl r2.1 r2.2).bind fun r3 =>
 some (r3.1, r3.2) := by kernel_rfl
theorem JJ (x0 : Value) (w : World) : Bq P (EV P) 18 #[x0] w =
 (bx P 39 x0 w).bind fun r1 =>
 (vl (Go.Value.string { data := #[] }) r1.2).bind fun r2 =>
 (fa P 39 r1.1 0 (dw r2.2)).bind fun r4 =>
 Ag (r4.2 = (dw r2.2)) <|
 (ld P 3 r4.1 (dw r2.2)).bind fun r5 =>
 Ag (r5.2 = (dw r2.2)) <|
 (fa P 39 r1.1 1 (dw r2.2)).bind fun r6 =>
 Ag (r6.2 = (dw r2.2)) <|
 (ld P 3 r6.1 (dw r2.2)).bind fun r7 =>
 Ag (r7.2 = (dw r2.2)) <|
 (EV P 16 #[r5.1] (dw r2.2)).bind fun r8 =>
 Ag (ld P 3 r6.1 r8.2 = some (r7.1, r8.2) ∧ fa P 39 r1.1 1 r8.2 = some (r6.1, r8.2) ∧ True ∧ True ∧ True) <|
 (bo P .add 9 (.tmp 5) (.const (Go.Value.string { data := #[46] })) r8.1 (Go.Value.string { data := #[46] }) r8.2).bind fun r9 =>
 Ag (r9.2 = r8.2) <|
 (EV P 16 #[r7.1] r8.2).bind fun r10 =>
 Ag (bo P .add 9 (.tmp 5) (.const (Go.Value.string { data := #[46] })) r8.1 (Go.Value.string { data := #[46] }) r10.2 = some (r9.1, r10.2) ∧ True ∧ True ∧ True ∧ True ∧ True) <|
 (bo P .add 9 (.tmp 6) (.tmp 9) r9.1 r10.1 r10.2).bind fun r11 =>
 Ag (r11.2 = r10.2) <|
 (vl r11.1 r10.2).bind fun r12 =>
 Ag (r12.2 = r10.2) <|
 some (r12.1, r10.2) := by kernel_rfl
theorem Fx (x0 : Value) (w : World) : Bq P (EV P) 19 #[x0] w =
 (vl (Go.Value.string { data := #[] }) w).bind fun r1 =>
 (vl x0 (dw r1.2)).bind fun r3 =>
 Ag (r3.2 = (dw r1.2)) <|
 (nk P r3.1 (dw r1.2)).bind fun r4 =>
 Ag (r4.2 = (dw r1.2)) <|
 (fa P 37 r4.1 1 (dw r1.2)).bind fun r5 =>
 Ag (r5.2 = (dw r1.2)) <|
 (ld P 22 r5.1 (dw r1.2)).bind fun r6 =>
 Ag (r6.2 = (dw r1.2)) <|
 (vl x0 (dw r1.2)).bind fun r7 =>
 Ag (r7.2 = (dw r1.2)) <|
 (nk P r7.1 (dw r1.2)).bind fun r8 =>
 Ag (r8.2 = (dw r1.2)) <|
 (fa P 37 r8.1 1 (dw r1.2)).bind fun r9 =>
 Ag (r9.2 = (dw r1.2)) <|
 (ld P 22 r9.1 (dw r1.2)).bind fun r10 =>
 Ag (r10.2 = (dw r1.2)) <|
 (Au P #[22] 3 #[r10.1] (dw r1.2)).bind fun r11 =>
 Ag (r11.2 = (dw r1.2)) <|
 (gn P { dst := (some 7), op := (Go.Op.call { callee := (Go.Callee.builtin Go.Builtin.unsafeSliceData), args := #[(Go.Operand.tmp 6)], argTypes := #[22] }), type := 76, pos := "builder.go:47", after := #[{ on := 3, ground := Go.Ground.data }], guard := none } (AG (AL #[x0]) [(2, r1.1), (3, r3.1), (4, r4.1), (5, r5.1), (6, r6.1), (8, r7.1), (9, r8.1), (10, r9.1), (11, r10.1), (12, r11.1)]) (dw r1.2)).bind fun r12 =>
 Ag (Au P #[22] 3 #[r10.1] r12.2 = some (r11.1, r12.2) ∧ ld P 22 r9.1 r12.2 = some (r10.1, r12.2) ∧ fa P 37 r8.1 1 r12.2 = some (r9.1, r12.2) ∧ nk P r7.1 r12.2 = some (r8.1, r12.2) ∧ True ∧ True ∧ True ∧ True) <|
 (gn P { dst := (some 13), op := (Go.Op.call { callee := (Go.Callee.builtin Go.Builtin.unsafeString), args := #[(Go.Operand.tmp 7), (Go.Operand.tmp 12)], argTypes := #[76, 3] }), type := 9, pos := "builder.go:47", after := #[{ on := 4, ground := Go.Ground.data }, { on := 9, ground := Go.Ground.data }], guard := none } (AG (AL #[x0]) [(2, r1.1), (3, r3.1), (4, r4.1), (5, r5.1), (6, r6.1), (8, r7.1), (9, r8.1), (10, r9.1), (11, r10.1), (12, r11.1), (7, r12.1)]) r12.2).bind fun r13 =>
 Ag (True ∧ True ∧ True ∧ True ∧ True ∧ True ∧ True ∧ True) <|
 (vl r13.1 r13.2).bind fun r14 =>
 Ag (r14.2 = r13.2) <|
 some (r14.1, r13.2) := by kernel_rfl
noncomputable def Dy (e : Env) (w : World) : Option (Value × World) := BB P (EV P) 20 19 (.loop (cA (cA (cB (cA (cB (Af P 20))))))) e w (An 0 (AB P (EV P) 20 19 (cB (cB (Af P 20))) (Bl P (AA P 20))))
theorem FE (e : Env) (w : World) : Dy e w =
 (vl (e 3) w).bind fun r1 =>
 (vl (e 0) r1.2).bind fun r2 =>
 (Au P #[23] 3 #[r2.1] r2.2).bind fun r3 =>
 (bo P .lss 3 (.tmp 4) (.tmp 6) r1.1 r3.1 r3.2).bind fun r4 =>
 AK r4.1 (
 (vl (e 0) r4.2).bind fun r5 =>
 (vl (e 3) r5.2).bind fun r6 =>
 (ia P 23 r5.1 r6.1 r6.2).bind fun r7 =>
 (ld P 41 r7.1 r7.2).bind fun r8 =>
 (EV P 31 #[r8.1] r8.2).bind fun r9 =>
 (uo P .not r9.1 r9.2).bind fun r10 =>
 AK r10.1 (
 (vl (.bool false) r10.2).bind fun r11 =>
 some (r11.1, r11.2)) (
 (vl (e 3) r10.2).bind fun r12 =>
 (bo P .add 3 (.tmp 8) (.const (.int .i64 1)) r12.1 (.int .i64 1) r12.2).bind fun r13 =>
 (vl r13.1 r13.2).bind fun r14 =>
 Dy (AG e [(4, r1.1), (5, r2.1), (6, r3.1), (7, r4.1), (10, r5.1), (11, r6.1), (12, r7.1), (13, r8.1), (14, r9.1), (15, r10.1), (8, r12.1), (9, r13.1), (3, r14.1)]) r14.2)) (
 (vl (e 0) r4.2).bind fun r15 =>
 (Au P #[23] 3 #[r15.1] r15.2).bind fun r16 =>
 (bo P .leq 3 (.tmp 17) (.const (.int .i64 80)) r16.1 (.int .i64 80) r16.2).bind fun r17 =>
 (vl r17.1 r17.2).bind fun r18 =>
 some (r18.1, r18.2)) := (AD P (EV P) 20 19 (cA (cA (cB (cA (cB (Af P 20)))))) e w (An 0 (AB P (EV P) 20 19 (cB (cB (Af P 20))) (Bl P (AA P 20))))).trans (by kernel_rfl)
theorem Lh (x0 : Value) (w : World) : Bq P (EV P) 20 #[x0] w =
 (vl (.bool false) w).bind fun r1 =>
 (vl (.int .i64 0) r1.2).bind fun r2 =>
 Dy (AG (AL #[x0]) [(2, r1.1), (3, r2.1)]) r2.2 := by kernel_rfl
theorem Li (x0 : Value) (w : World) : Bq P (EV P) 21 #[x0] w =
 (bx P 41 x0 w).bind fun r1 =>
 (vl (Go.Value.string { data := #[] }) r1.2).bind fun r2 =>
 (fa P 41 r1.1 0 (dw r2.2)).bind fun r4 =>
 Ag (r4.2 = (dw r2.2)) <|
 (ld P 3 r4.1 (dw r2.2)).bind fun r5 =>
 Ag (r5.2 = (dw r2.2)) <|
 (fa P 41 r1.1 1 (dw r2.2)).bind fun r6 =>
 Ag (r6.2 = (dw r2.2)) <|
 (ld P 3 r6.1 (dw r2.2)).bind fun r7 =>
 Ag (r7.2 = (dw r2.2)) <|
 (fa P 41 r1.1 2 (dw r2.2)).bind fun r8 =>
 Ag (r8.2 = (dw r2.2)) <|
 (ld P 3 r8.1 (dw r2.2)).bind fun r9 =>
 Ag (r9.2 = (dw r2.2)) <|
 (fa P 41 r1.1 3 (dw r2.2)).bind fun r10 =>
 Ag (r10.2 = (dw r2.2)) <|
 (ld P 39 r10.1 (dw r2.2)).bind fun r11 =>
 Ag (r11.2 = (dw r2.2)) <|
 (EV P 41 #[r5.1] (dw r2.2)).bind fun r12 =>
 Ag (ld P 39 r10.1 r12.2 = some (r11.1, r12.2) ∧ fa P 41 r1.1 3 r12.2 = some (r10.1, r12.2) ∧ ld P 3 r8.1 r12.2 = some (r9.1, r12.2) ∧ fa P 41 r1.1 2 r12.2 = some (r8.1, r12.2) ∧ ld P 3 r6.1 r12.2 = some (r7.1, r12.2) ∧ fa P 41 r1.1 1 r12.2 = some (r6.1, r12.2) ∧ True ∧ True ∧ True) <|
 (bo P .add 9 (.tmp 5) (.const (Go.Value.string { data := #[32] })) r12.1 (Go.Value.string { data := #[32] }) r12.2).bind fun r13 =>
 Ag (r13.2 = r12.2) <|
 (EV P 30 #[] r12.2).bind fun r14 =>
 Ag (bo P .add 9 (.tmp 5) (.const (Go.Value.string { data := #[32] })) r12.1 (Go.Value.string { data := #[32] }) r14.2 = some (r13.1, r14.2) ∧ ld P 39 r10.1 r14.2 = some (r11.1, r14.2) ∧ fa P 41 r1.1 3 r14.2 = some (r10.1, r14.2) ∧ ld P 3 r8.1 r14.2 = some (r9.1, r14.2) ∧ fa P 41 r1.1 2 r14.2 = some (r8.1, r14.2) ∧ ld P 3 r6.1 r14.2 = some (r7.1, r14.2) ∧ fa P 41 r1.1 1 r14.2 = some (r6.1, r14.2) ∧ True ∧ True ∧ True) <|
 (ia P 47 r14.1 r7.1 r14.2).bind fun r15 =>
 Ag (r15.2 = r14.2) <|
 (ld P 9 r15.1 r14.2).bind fun r16 =>
 Ag (r16.2 = r14.2) <|
 (bo P .add 9 (.tmp 6) (.tmp 11) r13.1 r16.1 r14.2).bind fun r17 =>
 Ag (r17.2 = r14.2) <|
 (bo P .add 9 (.tmp 12) (.const (Go.Value.string { data := #[32] })) r17.1 (Go.Value.string { data := #[32] }) r14.2).bind fun r18 =>
 Ag (r18.2 = r14.2) <|
 (EV P 41 #[r9.1] r14.2).bind fun r19 =>
 Ag (bo P .add 9 (.tmp 12) (.const (Go.Value.string { data := #[32] })) r17.1 (Go.Value.string { data := #[32] }) r19.2 = some (r18.1, r19.2) ∧ bo P .add 9 (.tmp 6) (.tmp 11) r13.1 r16.1 r19.2 = some (r17.1, r19.2) ∧ ld P 9 r15.1 r19.2 = some (r16.1, r19.2) ∧ ia P 47 r14.1 r7.1 r19.2 = some (r15.1, r19.2) ∧ bo P .add 9 (.tmp 5) (.const (Go.Value.string { data := #[32] })) r12.1 (Go.Value.string { data := #[32] }) r19.2 = some (r13.1, r19.2) ∧ ld P 39 r10.1 r19.2 = some (r11.1, r19.2) ∧ fa P 41 r1.1 3 r19.2 = some (r10.1, r19.2) ∧ True ∧ True ∧ ld P 3 r6.1 r19.2 = some (r7.1, r19.2) ∧ fa P 41 r1.1 1 r19.2 = some (r6.1, r19.2) ∧ True ∧ True ∧ True) <|
 (bo P .add 9 (.tmp 13) (.tmp 16) r18.1 r19.1 r19.2).bind fun r20 =>
 Ag (r20.2 = r19.2) <|
 (bo P .add 9 (.tmp 17) (.const (Go.Value.string { data := #[32] })) r20.1 (Go.Value.string { data := #[32] }) r19.2).bind fun r21 =>
 Ag (r21.2 = r19.2) <|
 (EV P 42 #[r11.1] r19.2).bind fun r22 =>
 Ag (bo P .add 9 (.tmp 17) (.const (Go.Value.string { data := #[32] })) r20.1 (Go.Value.string { data := #[32] }) r22.2 = some (r21.1, r22.2) ∧ bo P .add 9 (.tmp 13) (.tmp 16) r18.1 r19.1 r22.2 = some (r20.1, r22.2) ∧ bo P .add 9 (.tmp 12) (.const (Go.Value.string { data := #[32] })) r17.1 (Go.Value.string { data := #[32] }) r22.2 = some (r18.1, r22.2) ∧ bo P .add 9 (.tmp 6) (.tmp 11) r13.1 r16.1 r22.2 = some (r17.1, r22.2) ∧ ld P 9 r15.1 r22.2 = some (r16.1, r22.2) ∧ ia P 47 r14.1 r7.1 r22.2 = some (r15.1, r22.2) ∧ bo P .add 9 (.tmp 5) (.const (Go.Value.string { data := #[32] })) r12.1 (Go.Value.string { data := #[32] }) r22.2 = some (r13.1, r22.2) ∧ True ∧ True ∧ True ∧ True ∧ ld P 3 r6.1 r22.2 = some (r7.1, r22.2) ∧ fa P 41 r1.1 1 r22.2 = some (r6.1, r22.2) ∧ True ∧ True ∧ True) <|
 (bo P .add 9 (.tmp 18) (.tmp 21) r21.1 r22.1 r22.2).bind fun r23 =>
 Ag (r23.2 = r22.2) <|
 (bo P .add 9 (.tmp 22) (.const (Go.Value.string { data := #[10] })) r23.1 (Go.Value.string { data := #[10] }) r22.2).bind fun r24 =>
 Ag (r24.2 = r22.2) <|
 (vl r24.1 r22.2).bind fun r25 =>
 Ag (r25.2 = r22.2) <|
 some (r25.1, r22.2) := by kernel_rfl
theorem Lj (x0 x1 : Value) (w : World) : Bq P (EV P) 22 #[x0, x1] w =
 (vl (Go.Value.string { data := #[] }) w).bind fun r1 =>
 (vl (Go.Value.string { data := #[] }) r1.2).bind fun r2 =>
 (vl (.bool false) r2.2).bind fun r3 =>
 (vl x0 r3.2).bind fun r4 =>
 (vl x1 r4.2).bind fun r5 =>
 (EV P 43 #[r4.1, r5.1] r5.2).bind fun r6 =>
 (xt P r6.1 0 r6.2).bind fun r7 =>
 (xt P r6.1 1 r7.2).bind fun r8 =>
 (xt P r6.1 2 r8.2).bind fun r9 =>
 (vl r7.1 r9.2).bind fun r10 =>
 (vl r8.1 r10.2).bind fun r11 =>
 (vl r9.1 r11.2).bind fun r12 =>
 some (.tuple #[r10.1, r11.1, r12.1], r12.2) := by kernel_rfl
theorem JK (x0 : Value) (w : World) : Bq P (EV P) 23 #[x0] w =
 (al P 41 w).bind fun r1 =>
 (vl (.bool false) r1.2).bind fun r2 =>
 (vl x0 r2.2).bind fun r3 =>
 (EV P 44 #[r3.1, (Go.Value.string { data := #[32] })] r3.2).bind fun r4 =>
 (vl r4.1 r4.2).bind fun r5 =>
 (vl r5.1 r5.2).bind fun r6 =>
 (Au P #[47] 3 #[r6.1] r6.2).bind fun r7 =>
 (bo P .neq 3 (.tmp 14) (.const (.int .i64 4)) r7.1 (.int .i64 4) r7.2).bind fun r8 =>
 AK r8.1 (
 (bd P 41 #[] r8.2).bind fun r9 =>
 (st P 41 r1.1 r9.1 r9.2).bind fun r10 =>
 (vl (.bool false) r10.2).bind fun r11 =>
 ((ld P 41 r1.1 r11.2).bind fun r12 => Ag (r12.2 = r11.2) (some r12.1)).bind fun v13 =>
 some (.tuple #[v13, r11.1], r11.2)) (
 (vl r5.1 r8.2).bind fun r14 =>
 (ia P 47 r14.1 (.int .i64 0) r14.2).bind fun r15 =>
 (ld P 9 r15.1 r15.2).bind fun r16 =>
 (EV P 45 #[r16.1] r16.2).bind fun r17 =>
 (vl r17.1 r17.2).bind fun r18 =>
 (xt P r18.1 0 r18.2).bind fun r19 =>
 (xt P r18.1 1 r19.2).bind fun r20 =>
 (vl r19.1 r20.2).bind fun r21 =>
 (vl r20.1 r21.2).bind fun r22 =>
 (vl r5.1 r22.2).bind fun r23 =>
 (ia P 47 r23.1 (.int .i64 2) r23.2).bind fun r24 =>
 (ld P 9 r24.1 r24.2).bind fun r25 =>
 (EV P 45 #[r25.1] r25.2).bind fun r26 =>
 (vl r26.1 r26.2).bind fun r27 =>
 (xt P r27.1 0 r27.2).bind fun r28 =>
 (xt P r27.1 1 r28.2).bind fun r29 =>
 (vl r28.1 r29.2).bind fun r30 =>
 (vl r29.1 r30.2).bind fun r31 =>
 (vl r5.1 r31.2).bind fun r32 =>
 (ia P 47 r32.1 (.int .i64 3) r32.2).bind fun r33 =>
 (ld P 9 r33.1 r33.2).bind fun r34 =>
 (EV P 46 #[r34.1] r34.2).bind fun r35 =>
 (vl r35.1 r35.2).bind fun r36 =>
 (xt P r36.1 0 r36.2).bind fun r37 =>
 (xt P r36.1 1 r37.2).bind fun r38 =>
 (al P 39 r38.2).bind fun r39 =>
 (st P 39 r39.1 r37.1 r39.2).bind fun r40 =>
 (vl r38.1 r40.2).bind fun r41 =>
 (vl r21.1 (dw r41.2)).bind fun r43 =>
 Ag (r43.2 = (dw r41.2)) <|
 (vl r5.1 (dw r41.2)).bind fun r44 =>
 Ag (r44.2 = (dw r41.2)) <|
 (ia P 47 r44.1 (.int .i64 1) (dw r41.2)).bind fun r45 =>
 Ag (r45.2 = (dw r41.2)) <|
 (ld P 9 r45.1 (dw r41.2)).bind fun r46 =>
 Ag (r46.2 = (dw r41.2)) <|
 (vl r30.1 (dw r41.2)).bind fun r47 =>
 Ag (r47.2 = (dw r41.2)) <|
 (ld P 39 r39.1 (dw r41.2)).bind fun r48 =>
 Ag (r48.2 = (dw r41.2)) <|
 (vl r22.1 (dw r41.2)).bind fun r49 =>
 Ag (r49.2 = (dw r41.2)) <|
 (bo P .eql 43 (.tmp 47) (.const Go.Value.nilIface) r49.1 Go.Value.nilIface (dw r41.2)).bind fun r50 =>
 Ag (r50.2 = (dw r41.2)) <|
 (EV P 17 #[] (dw r41.2)).bind fun r51 =>
 Ag (bo P .eql 43 (.tmp 47) (.const Go.Value.nilIface) r49.1 Go.Value.nilIface r51.2 = some (r50.1, r51.2) ∧ ld P 39 r39.1 r51.2 = some (r48.1, r51.2) ∧ ld P 9 r45.1 r51.2 = some (r46.1, r51.2) ∧ ia P 47 r44.1 (.int .i64 1) r51.2 = some (r45.1, r51.2) ∧ True) <|
 (EV P 47 #[r51.1, r46.1] r51.2).bind fun r52 =>
 Ag (bo P .eql 43 (.tmp 47) (.const Go.Value.nilIface) r49.1 Go.Value.nilIface r52.2 = some (r50.1, r52.2) ∧ ld P 39 r39.1 r52.2 = some (r48.1, r52.2) ∧ True ∧ True ∧ True) <|
 (bd P 41 #[(0, r43.1), (1, r52.1), (2, r47.1), (3, r48.1)] r52.2).bind fun r53 =>
 Ag (r53.2 = r52.2) <|
 (vl r50.1 r52.2).bind fun r54 =>
 Ag (r54.2 = r52.2) <|
 (Am r54.1 true (vl r31.1 r52.2) r52.2).bind fun r55 =>
 Ag (r55.2 = r52.2) <|
 (Am r54.1 true (bo P .eql 43 (.tmp 50) (.const Go.Value.nilIface) r55.1 Go.Value.nilIface r52.2) r52.2).bind fun r56 =>
 Ag (r56.2 = r52.2) <|
 (Ax r54.1 r56.1 (.bool false) r52.2).bind fun r57 =>
 Ag (r57.2 = r52.2) <|
 (vl r57.1 r52.2).bind fun r58 =>
 Ag (r58.2 = r52.2) <|
 (Am r58.1 true (vl r41.1 r52.2) r52.2).bind fun r59 =>
 Ag (r59.2 = r52.2) <|
 (Ax r58.1 r59.1 (.bool false) r52.2).bind fun r60 =>
 Ag (r60.2 = r52.2) <|
 (st P 41 r1.1 r53.1 r52.2).bind fun r61 =>
 Ag (True ∧ True ∧ True ∧ True ∧ True ∧ True ∧ True) <|
 (vl r60.1 r61.2).bind fun r62 =>
 Ag (r62.2 = r61.2) <|
 ((ld P 41 r1.1 r61.2).bind fun r63 => Ag (r63.2 = r61.2) (some r63.1)).bind fun v64 =>
 some (.tuple #[v64, r62.1], r61.2)) := by kernel_rfl
theorem HY (x0 : Value) (w : World) : Bq P (EV P) 24 #[x0] w =
 (vl (Go.Value.slice none 0 0) w).bind fun r1 =>
 (vl x0 r1.2).bind fun r2 =>
 (vl x0 r2.2).bind fun r3 =>
 (Au P #[23] 3 #[r3.1] r3.2).bind fun r4 =>
 (vl x0 r4.2).bind fun r5 =>
 (Au P #[23] 3 #[r5.1] r5.2).bind fun r6 =>
 (sl P 23 r2.1 none (some r4.1) (some r6.1) r6.2).bind fun r7 =>
 (vl r7.1 r7.2).bind fun r8 =>
 some (r8.1, r8.2) := by kernel_rfl
theorem Iz (x0 x1 : Value) (w : World) : Bq P (EV P) 25 #[x0, x1] w =
 (vl (.int .i64 0) w).bind fun r1 =>
 (vl x0 r1.2).bind fun r2 =>
 (vl x0 r2.2).bind fun r3 =>
 (nk P r3.1 r3.2).bind fun r4 =>
 (fa P 71 r4.1 1 r4.2).bind fun r5 =>
 (ld P 3 r5.1 r5.2).bind fun r6 =>
 (bo P .add 3 (.tmp 11) (.const (.int .i64 1)) r6.1 (.int .i64 1) r6.2).bind fun r7 =>
 (nk P r2.1 r7.2).bind fun r8 =>
 (fa P 71 r8.1 1 r8.2).bind fun r9 =>
 (st P 3 r9.1 r7.1 r9.2).bind fun r10 =>
 (vl x1 r10.2).bind fun r11 =>
 (bo P .lss 3 (.tmp 15) (.const (.int .i64 1)) r11.1 (.int .i64 1) r11.2).bind fun r12 =>
 (vl r12.1 r12.2).bind fun r13 =>
 (Am r13.1 false (vl x0 r13.2) r13.2).bind fun r14 =>
 (Am r13.1 false (nk P r14.1 r14.2) r14.2).bind fun r15 =>
 (Am r13.1 false (fa P 71 r15.1 0 r15.2) r15.2).bind fun r16 =>
 (Am r13.1 false (ld P 22 r16.1 r16.2) r16.2).bind fun r17 =>
 (Am r13.1 false (Au P #[22] 3 #[r17.1] r17.2) r17.2).bind fun r18 =>
 (Am r13.1 false (bo P .eql 3 (.tmp 22) (.const (.int .i64 0)) r18.1 (.int .i64 0) r18.2) r18.2).bind fun r19 =>
 (Ax r13.1 (.bool true) r19.1 r19.2).bind fun r20 =>
 AK r20.1 (
 (vl (.int .i64 0) r20.2).bind fun r21 =>
 some (r21.1, r21.2)) (
 (vl x0 r20.2).bind fun r22 =>
 (nk P r22.1 r22.2).bind fun r23 =>
 (fa P 71 r23.1 1 r23.2).bind fun r24 =>
 (ld P 3 r24.1 r24.2).bind fun r25 =>
 (bo P .sub 3 (.tmp 28) (.const (.int .i64 1)) r25.1 (.int .i64 1) r25.2).bind fun r26 =>
 (vl r26.1 r26.2).bind fun r27 =>
 (vl r27.1 r27.2).bind fun r28 =>
 (vl x0 r28.2).bind fun r29 =>
 (nk P r29.1 r29.2).bind fun r30 =>
 (fa P 71 r30.1 0 r30.2).bind fun r31 =>
 (ld P 22 r31.1 r31.2).bind fun r32 =>
 (Au P #[22] 3 #[r32.1] r32.2).bind fun r33 =>
 (bo P .lss 3 (.tmp 30) (.tmp 35) r28.1 r33.1 r33.2).bind fun r34 =>
 AK r34.1 (
 (vl x0 r34.2).bind fun r35 =>
 (nk P r35.1 r35.2).bind fun r36 =>
 (fa P 71 r36.1 0 r36.2).bind fun r37 =>
 (ld P 22 r37.1 r37.2).bind fun r38 =>
 (vl r27.1 r38.2).bind fun r39 =>
 (ia P 22 r38.1 r39.1 r39.2).bind fun r40 =>
 (ld P 5 r40.1 r40.2).bind fun r41 =>
 (cv P 5 3 r41.1 r41.2).bind fun r42 =>
 (vl x1 r42.2).bind fun r43 =>
 (bo P .rem 3 (.tmp 44) (.tmp 45) r42.1 r43.1 r43.2).bind fun r44 =>
 (vl r44.1 r44.2).bind fun r45 =>
 some (r45.1, r45.2)) (
 (vl x0 (dw r34.2)).bind fun r47 =>
 Ag (r47.2 = (dw r34.2)) <|
 (nk P r47.1 (dw r34.2)).bind fun r48 =>
 Ag (r48.2 = (dw r34.2)) <|
 (fa P 71 r48.1 0 (dw r34.2)).bind fun r49 =>
 Ag (r49.2 = (dw r34.2)) <|
 (ld P 22 r49.1 (dw r34.2)).bind fun r50 =>
 Ag (r50.2 = (dw r34.2)) <|
 (vl r27.1 (dw r34.2)).bind fun r51 =>
 Ag (r51.2 = (dw r34.2)) <|
 (vl x0 (dw r34.2)).bind fun r52 =>
 Ag (r52.2 = (dw r34.2)) <|
 (nk P r52.1 (dw r34.2)).bind fun r53 =>
 Ag (r53.2 = (dw r34.2)) <|
 (fa P 71 r53.1 0 (dw r34.2)).bind fun r54 =>
 Ag (r54.2 = (dw r34.2)) <|
 (ld P 22 r54.1 (dw r34.2)).bind fun r55 =>
 Ag (r55.2 = (dw r34.2)) <|
 (Au P #[22] 3 #[r55.1] (dw r34.2)).bind fun r56 =>
 Ag (r56.2 = (dw r34.2)) <|
 (bo P .rem 3 (.tmp 51) (.tmp 56) r51.1 r56.1 (dw r34.2)).bind fun r57 =>
 Ag (r57.2 = (dw r34.2)) <|
 (ia P 22 r50.1 r57.1 (dw r34.2)).bind fun r58 =>
 Ag (r58.2 = (dw r34.2)) <|
 (ld P 5 r58.1 (dw r34.2)).bind fun r59 =>
 Ag (r59.2 = (dw r34.2)) <|
 (cv P 5 3 r59.1 (dw r34.2)).bind fun r60 =>
 Ag (r60.2 = (dw r34.2)) <|
 (bo P .mul 3 (.tmp 60) (.const (.int .i64 131)) r60.1 (.int .i64 131) (dw r34.2)).bind fun r61 =>
 Ag (r61.2 = (dw r34.2)) <|
 (vl x0 (dw r34.2)).bind fun r62 =>
 Ag (r62.2 = (dw r34.2)) <|
 (nk P r62.1 (dw r34.2)).bind fun r63 =>
 Ag (r63.2 = (dw r34.2)) <|
 (fa P 71 r63.1 0 (dw r34.2)).bind fun r64 =>
 Ag (r64.2 = (dw r34.2)) <|
 (ld P 22 r64.1 (dw r34.2)).bind fun r65 =>
 Ag (r65.2 = (dw r34.2)) <|
 (vl r27.1 (dw r34.2)).bind fun r66 =>
 Ag (r66.2 = (dw r34.2)) <|
 (bo P .mul 3 (.tmp 66) (.const (.int .i64 7)) r66.1 (.int .i64 7) (dw r34.2)).bind fun r67 =>
 Ag (r67.2 = (dw r34.2)) <|
 (bo P .add 3 (.tmp 67) (.const (.int .i64 3)) r67.1 (.int .i64 3) (dw r34.2)).bind fun r68 =>
 Ag (r68.2 = (dw r34.2)) <|
 (vl x0 (dw r34.2)).bind fun r69 =>
 Ag (r69.2 = (dw r34.2)) <|
 (nk P r69.1 (dw r34.2)).bind fun r70 =>
 Ag (r70.2 = (dw r34.2)) <|
 (fa P 71 r70.1 0 (dw r34.2)).bind fun r71 =>
 Ag (r71.2 = (dw r34.2)) <|
 (ld P 22 r71.1 (dw r34.2)).bind fun r72 =>
 Ag (r72.2 = (dw r34.2)) <|
 (Au P #[22] 3 #[r72.1] (dw r34.2)).bind fun r73 =>
 Ag (r73.2 = (dw r34.2)) <|
 (bo P .rem 3 (.tmp 68) (.tmp 73) r68.1 r73.1 (dw r34.2)).bind fun r74 =>
 Ag (r74.2 = (dw r34.2)) <|
 (ia P 22 r65.1 r74.1 (dw r34.2)).bind fun r75 =>
 Ag (r75.2 = (dw r34.2)) <|
 (ld P 5 r75.1 (dw r34.2)).bind fun r76 =>
 Ag (r76.2 = (dw r34.2)) <|
 (cv P 5 3 r76.1 (dw r34.2)).bind fun r77 =>
 Ag (r77.2 = (dw r34.2)) <|
 (bo P .mul 3 (.tmp 77) (.const (.int .i64 1117)) r77.1 (.int .i64 1117) (dw r34.2)).bind fun r78 =>
 Ag (r78.2 = (dw r34.2)) <|
 (bo P .add 3 (.tmp 61) (.tmp 78) r61.1 r78.1 (dw r34.2)).bind fun r79 =>
 Ag (r79.2 = (dw r34.2)) <|
 (vl r27.1 (dw r34.2)).bind fun r80 =>
 Ag (r80.2 = (dw r34.2)) <|
 (bo P .mul 3 (.tmp 80) (.const (.int .i64 29)) r80.1 (.int .i64 29) (dw r34.2)).bind fun r81 =>
 Ag (r81.2 = (dw r34.2)) <|
 (bo P .add 3 (.tmp 79) (.tmp 81) r79.1 r81.1 (dw r34.2)).bind fun r82 =>
 Ag (r82.2 = (dw r34.2)) <|
 (vl r27.1 (dw r34.2)).bind fun r83 =>
 Ag (r83.2 = (dw r34.2)) <|
 (vl x0 (dw r34.2)).bind fun r84 =>
 Ag (r84.2 = (dw r34.2)) <|
 (nk P r84.1 (dw r34.2)).bind fun r85 =>
 Ag (r85.2 = (dw r34.2)) <|
 (fa P 71 r85.1 0 (dw r34.2)).bind fun r86 =>
 Ag (r86.2 = (dw r34.2)) <|
 (ld P 22 r86.1 (dw r34.2)).bind fun r87 =>
 Ag (r87.2 = (dw r34.2)) <|
 (Au P #[22] 3 #[r87.1] (dw r34.2)).bind fun r88 =>
 Ag (r88.2 = (dw r34.2)) <|
 (bo P .quo 3 (.tmp 83) (.tmp 88) r83.1 r88.1 (dw r34.2)).bind fun r89 =>
 Ag (r89.2 = (dw r34.2)) <|
 (bo P .mul 3 (.tmp 89) (.const (.int .i64 53)) r89.1 (.int .i64 53) (dw r34.2)).bind fun r90 =>
 Ag (r90.2 = (dw r34.2)) <|
 (bo P .add 3 (.tmp 82) (.tmp 90) r82.1 r90.1 (dw r34.2)).bind fun r91 =>
 Ag (r91.2 = (dw r34.2)) <|
 (vl r91.1 (dw r34.2)).bind fun r92 =>
 Ag (r92.2 = (dw r34.2)) <|
 (vl r92.1 (dw r34.2)).bind fun r93 =>
 (vl r92.1 r93.2).bind fun r94 =>
 (bo P .quo 3 (.tmp 93) (.const (.int .i64 64)) r94.1 (.int .i64 64) r94.2).bind fun r95 =>
 (bo P .xor 3 (.tmp 92) (.tmp 94) r93.1 r95.1 r95.2).bind fun r96 =>
 (vl r96.1 r96.2).bind fun r97 =>
 (vl r97.1 r97.2).bind fun r98 =>
 (vl x1 r98.2).bind fun r99 =>
 (bo P .rem 3 (.tmp 96) (.tmp 97) r98.1 r99.1 r99.2).bind fun r100 =>
 (vl r100.1 r100.2).bind fun r101 =>
 some (r101.1, r101.2))) := by kernel_rfl
theorem KA (w : World) : Bq P (EV P) 30 #[] w =
 (vl (Go.Value.slice none 0 0) w).bind fun r1 =>
 (bs P 47 4 #[(0, (Go.Value.string { data := #[] })), (1, (Go.Value.string { data := #[119, 114, 105, 116, 101] })), (2, (Go.Value.string { data := #[114, 101, 97, 100] })), (3, (Go.Value.string { data := #[115, 117, 114, 101] }))] r1.2).bind fun r2 =>
 (vl r2.1 r2.2).bind fun r3 =>
 some (r3.1, r3.2) := by kernel_rfl
theorem Lk (x0 : Value) (w : World) : Bq P (EV P) 31 #[x0] w =
 (bx P 41 x0 w).bind fun r1 =>
 (vl (.bool false) r1.2).bind fun r2 =>
 (fa P 41 r1.1 0 r2.2).bind fun r3 =>
 (ld P 3 r3.1 r3.2).bind fun r4 =>
 (EV P 50 #[r4.1, (.int .i64 0), (.int .i64 3)] r4.2).bind fun r5 =>
 (vl r5.1 r5.2).bind fun r6 =>
 (Am r6.1 true (fa P 41 r1.1 1 r6.2) r6.2).bind fun r7 =>
 (Am r6.1 true (ld P 3 r7.1 r7.2) r7.2).bind fun r8 =>
 (Am r6.1 true (EV P 50 #[r8.1, (.int .i64 1), (.int .i64 3)] r8.2) r8.2).bind fun r9 =>
 (Ax r6.1 r9.1 (.bool false) r9.2).bind fun r10 =>
 (vl r10.1 r10.2).bind fun r11 =>
 (Am r11.1 true (fa P 41 r1.1 2 r11.2) r11.2).bind fun r12 =>
 (Am r11.1 true (ld P 3 r12.1 r12.2) r12.2).bind fun r13 =>
 (Am r11.1 true (EV P 50 #[r13.1, (.int .i64 0), (.int .i64 3)] r13.2) r13.2).bind fun r14 =>
 (Ax r11.1 r14.1 (.bool false) r14.2).bind fun r15 =>
 (vl r15.1 r15.2).bind fun r16 =>
 (Am r16.1 true (fa P 41 r1.1 3 r16.2) r16.2).bind fun r17 =>
 (Am r16.1 true (ld P 39 r17.1 r17.2) r17.2).bind fun r18 =>
 (Am r16.1 true (EV P 49 #[r18.1] r18.2) r18.2).bind fun r19 =>
 (Ax r16.1 r19.1 (.bool false) r19.2).bind fun r20 =>
 (vl r20.1 r20.2).bind fun r21 =>
 (Am r21.1 true (fa P 41 r1.1 1 r21.2) r21.2).bind fun r22 =>
 (Am r21.1 true (ld P 3 r22.1 r22.2) r22.2).bind fun r23 =>
 (Am r21.1 true (bo P .eql 3 (.tmp 23) (.const (.int .i64 2)) r23.1 (.int .i64 2) r23.2) r23.2).bind fun r24 =>
 (Am r21.1 true (vl r24.1 r24.2) r24.2).bind fun r25 =>
 (Am r25.1 false (fa P 41 r1.1 3 r25.2) r25.2).bind fun r26 =>
 (Am r25.1 false (fa P 39 r26.1 0 r26.2) r26.2).bind fun r27 =>
 (Am r25.1 false (ld P 3 r27.1 r27.2) r27.2).bind fun r28 =>
 (Am r25.1 false (bo P .gtr 3 (.tmp 28) (.const (.int .i64 0)) r28.1 (.int .i64 0) r28.2) r28.2).bind fun r29 =>
 (Am r21.1 true (Ax r25.1 (.bool true) r29.1 r29.2) r29.2).bind fun r30 =>
 (Ax r21.1 r30.1 (.bool false) r30.2).bind fun r31 =>
 (vl r31.1 r31.2).bind fun r32 =>
 some (r32.1, r32.2) := by kernel_rfl
theorem JL (x0 : Value) (w : World) : Bq P (EV P) 32 #[x0] w =
 (al P 67 w).bind fun r1 =>
 (vl x0 r1.2).bind fun r2 =>
 (EV P 51 #[r2.1] r2.2).bind fun r3 =>
 (vl r3.1 r3.2).bind fun r4 =>
 (xt P r4.1 0 r4.2).bind fun r5 =>
 (xt P r4.1 1 r5.2).bind fun r6 =>
 (xt P r4.1 2 r6.2).bind fun r7 =>
 (vl r5.1 r7.2).bind fun r8 =>
 (vl r6.1 r8.2).bind fun r9 =>
 (vl r7.1 r9.2).bind fun r10 =>
 (vl r8.1 r10.2).bind fun r11 =>
 (vl r9.1 r11.2).bind fun r12 =>
 (vl r10.1 r12.2).bind fun r13 =>
 (EV P 53 #[r11.1, r12.1, r13.1] r13.2).bind fun r14 =>
 (EV P 52 #[r14.1] r14.2).bind fun r15 =>
 (st P 67 r1.1 r15.1 r15.2).bind fun r16 =>
 ((ld P 67 r1.1 r16.2).bind fun r17 => Ag (r17.2 = r16.2) (some r17.1)).bind fun v18 =>
 some (v18, r16.2) := by kernel_rfl
theorem IX (x0 : Value) (w : World) : Bq P (EV P) 33 #[x0] w =
 (al P 39 w).bind fun r1 =>
 (vl x0 r1.2).bind fun r2 =>
 (EV P 25 #[r2.1, (.int .i64 8)] r2.2).bind fun r3 =>
 (bo P .eql 3 (.tmp 4) (.const (.int .i64 0)) r3.1 (.int .i64 0) r3.2).bind fun r4 =>
 AK r4.1 (
 (vl x0 r4.2).bind fun r5 =>
 (bs P 87 4 #[(0, (.int .i64 0)), (1, (.int .i64 (-1))), (2, (.int .i64 1000)), (3, (.int .i64 999))] r5.2).bind fun r6 =>
 (EV P 54 #[r5.1, r6.1] r6.2).bind fun r7 =>
 (vl x0 r7.2).bind fun r8 =>
 (bs P 87 4 #[(0, (.int .i64 0)), (1, (.int .i64 1)), (2, (.int .i64 3)), (3, (.int .i64 (-1)))] r8.2).bind fun r9 =>
 (EV P 54 #[r8.1, r9.1] r9.2).bind fun r10 =>
 (bd P 39 #[(0, r7.1), (1, r10.1)] r10.2).bind fun r11 =>
 (st P 39 r1.1 r11.1 r11.2).bind fun r12 =>
 ((ld P 39 r1.1 r12.2).bind fun r13 => Ag (r13.2 = r12.2) (some r13.1)).bind fun v14 =>
 some (v14, r12.2)) (
 (vl x0 r4.2).bind fun r15 =>
 (EV P 55 #[r15.1] r15.2).bind fun r16 =>
 (st P 39 r1.1 r16.1 r16.2).bind fun r17 =>
 ((ld P 39 r1.1 r17.2).bind fun r18 => Ag (r18.2 = r17.2) (some r18.1)).bind fun v19 =>
 some (v19, r17.2)) := by kernel_rfl
theorem EZ (x0 x1 : Value) (w : World) : Bq P (EV P) 34 #[x0, x1] w =
 (vl (.bool false) w).bind fun r1 =>
 (vl x0 r1.2).bind fun r2 =>
 (vl x1 r2.2).bind fun r3 =>
 (EV P 56 #[r2.1, r3.1] r3.2).bind fun r4 =>
 (bo P .geq 3 (.tmp 7) (.const (.int .i64 0)) r4.1 (.int .i64 0) r4.2).bind fun r5 =>
 (vl r5.1 r5.2).bind fun r6 =>
 some (r6.1, r6.2) := by kernel_rfl
theorem JM (x0 : Value) (w : World) : Bq P (EV P) 35 #[x0] w =
 (bx P 41 x0 w).bind fun r1 =>
 (vl (.bool false) r1.2).bind fun r2 =>
 (fa P 41 r1.1 0 r2.2).bind fun r3 =>
 (ld P 3 r3.1 r3.2).bind fun r4 =>
 (EV P 36 #[r4.1, (.int .i64 0), (.int .i64 3)] r4.2).bind fun r5 =>
 (uo P .not r5.1 r5.2).bind fun r6 =>
 (vl r6.1 r6.2).bind fun r7 =>
 (Am r7.1 false (fa P 41 r1.1 1 r7.2) r7.2).bind fun r8 =>
 (Am r7.1 false (ld P 3 r8.1 r8.2) r8.2).bind fun r9 =>
 (Am r7.1 false (EV P 36 #[r9.1, (.int .i64 1), (.int .i64 3)] r9.2) r9.2).bind fun r10 =>
 (Am r7.1 false (uo P .not r10.1 r10.2) r10.2).bind fun r11 =>
 (Ax r7.1 (.bool true) r11.1 r11.2).bind fun r12 =>
 (vl r12.1 r12.2).bind fun r13 =>
 (Am r13.1 false (fa P 41 r1.1 2 r13.2) r13.2).bind fun r14 =>
 (Am r13.1 false (ld P 3 r14.1 r14.2) r14.2).bind fun r15 =>
 (Am r13.1 false (EV P 37 #[r15.1] r15.2) r15.2).bind fun r16 =>
 (Am r13.1 false (uo P .not r16.1 r16.2) r16.2).bind fun r17 =>
 (Ax r13.1 (.bool true) r17.1 r17.2).bind fun r18 =>
 (vl r18.1 r18.2).bind fun r19 =>
 (Am r19.1 false (fa P 41 r1.1 3 r19.2) r19.2).bind fun r20 =>
 (Am r19.1 false (ld P 39 r20.1 r20.2) r20.2).bind fun r21 =>
 (Am r19.1 false (EV P 38 #[r21.1] r21.2) r21.2).bind fun r22 =>
 (Am r19.1 false (uo P .not r22.1 r22.2) r22.2).bind fun r23 =>
 (Ax r19.1 (.bool true) r23.1 r23.2).bind fun r24 =>
 (vl r24.1 r24.2).bind fun r25 =>
 (Am r25.1 false (fa P 41 r1.1 3 r25.2) r25.2).bind fun r26 =>
 (Am r25.1 false (ld P 39 r26.1 r26.2) r26.2).bind fun r27 =>
 (Am r25.1 false (bd P 39 #[] r27.2) r27.2).bind fun r28 =>
 (Am r25.1 false (bo P .eql 39 (.tmp 27) (.tmp 28) r27.1 r28.1 r28.2) r28.2).bind fun r29 =>
 (Am r25.1 false (vl r29.1 r29.2) r29.2).bind fun r30 =>
 (Am r30.1 true (fa P 41 r1.1 1 r30.2) r30.2).bind fun r31 =>
 (Am r30.1 true (ld P 3 r31.1 r31.2) r31.2).bind fun r32 =>
 (Am r30.1 true (bo P .neq 3 (.tmp 32) (.const (.int .i64 2)) r32.1 (.int .i64 2) r32.2) r32.2).bind fun r33 =>
 (Am r25.1 false (Ax r30.1 r33.1 (.bool false) r33.2) r33.2).bind fun r34 =>
 (Ax r25.1 (.bool true) r34.1 r34.2).bind fun r35 =>
 (vl r35.1 r35.2).bind fun r36 =>
 some (r36.1, r36.2) := by kernel_rfl
theorem Ll (x0 x1 x2 : Value) (w : World) : Bq P (EV P) 36 #[x0, x1, x2] w =
 (vl (.bool false) w).bind fun r1 =>
 (vl x0 r1.2).bind fun r2 =>
 (vl x1 r2.2).bind fun r3 =>
 (bo P .geq 3 (.tmp 7) (.tmp 8) r2.1 r3.1 r3.2).bind fun r4 =>
 (vl r4.1 r4.2).bind fun r5 =>
 (Am r5.1 true (vl x0 r5.2) r5.2).bind fun r6 =>
 (Am r5.1 true (vl x2 r6.2) r6.2).bind fun r7 =>
 (Am r5.1 true (bo P .leq 3 (.tmp 11) (.tmp 12) r6.1 r7.1 r7.2) r7.2).bind fun r8 =>
 (Ax r5.1 r8.1 (.bool false) r8.2).bind fun r9 =>
 (vl r9.1 r9.2).bind fun r10 =>
 some (r10.1, r10.2) := by kernel_rfl
theorem MH (x0 : Value) (w : World) : Bq P (EV P) 37 #[x0] w =
 (vl (.bool false) w).bind fun r1 =>
 (vl x0 r1.2).bind fun r2 =>
 (EV P 36 #[r2.1, (.int .i64 0), (.int .i64 3)] r2.2).bind fun r3 =>
 (vl r3.1 r3.2).bind fun r4 =>
 some (r4.1, r4.2) := by kernel_rfl
theorem MI (x0 : Value) (w : World) : Bq P (EV P) 38 #[x0] w =
 (bx P 39 x0 w).bind fun r1 =>
 (vl (.bool false) r1.2).bind fun r2 =>
 (ld P 39 r1.1 r2.2).bind fun r3 =>
 (bd P 39 #[] r3.2).bind fun r4 =>
 (bo P .eql 39 (.tmp 3) (.tmp 4) r3.1 r4.1 r4.2).bind fun r5 =>
 (vl r5.1 r5.2).bind fun r6 =>
 (Am r6.1 false (fa P 39 r1.1 0 r6.2) r6.2).bind fun r7 =>
 (Am r6.1 false (ld P 3 r7.1 r7.2) r7.2).bind fun r8 =>
 (Am r6.1 false (EV P 36 #[r8.1, (.int .i64 1), (.int .i64 999)] r8.2) r8.2).bind fun r9 =>
 (Am r6.1 false (vl r9.1 r9.2) r9.2).bind fun r10 =>
 (Am r10.1 true (fa P 39 r1.1 1 r10.2) r10.2).bind fun r11 =>
 (Am r10.1 true (ld P 3 r11.1 r11.2) r11.2).bind fun r12 =>
 (Am r10.1 true (EV P 57 #[r12.1] r12.2) r12.2).bind fun r13 =>
 (Am r6.1 false (Ax r10.1 r13.1 (.bool false) r13.2) r13.2).bind fun r14 =>
 (Ax r6.1 (.bool true) r14.1 r14.2).bind fun r15 =>
 (vl r15.1 r15.2).bind fun r16 =>
 some (r16.1, r16.2) := by kernel_rfl
theorem EL (x0 : Value) (w : World) : Bq P (EV P) 39 #[x0] w =
 (vl x0 w).bind fun r1 =>
 (nk P r1.1 r1.2).bind fun r2 =>
 (fa P 37 r2.1 0 r2.2).bind fun r3 =>
 (ld P 35 r3.1 r3.2).bind fun r4 =>
 (bo P .eql 35 (.tmp 5) (.const (Go.Value.pointer none)) r4.1 (Go.Value.pointer none) r4.2).bind fun r5 =>
 AK r5.1 (
 (vl x0 r5.2).bind fun r6 =>
 (vl x0 r6.2).bind fun r7 =>
 (cv P 35 89 r7.1 r7.2).bind fun r8 =>
 (xf P 58 #[r8.1] r8.2).bind fun r9 =>
 (cv P 89 35 r9.1 r9.2).bind fun r10 =>
 (nk P r6.1 r10.2).bind fun r11 =>
 (fa P 37 r11.1 0 r11.2).bind fun r12 =>
 (st P 35 r12.1 r10.1 r12.2).bind fun r13 =>
 some (.tuple #[], r13.2)) (
 (vl x0 r5.2).bind fun r14 =>
 (nk P r14.1 r14.2).bind fun r15 =>
 (fa P 37 r15.1 0 r15.2).bind fun r16 =>
 (ld P 35 r16.1 r16.2).bind fun r17 =>
 (vl x0 r17.2).bind fun r18 =>
 (bo P .neq 35 (.tmp 17) (.tmp 18) r17.1 r18.1 r18.2).bind fun r19 =>
 AK r19.1 (
 (none : Option (Value × World))) (
 some (.tuple #[], r19.2))) := by kernel_rfl
theorem Gd (x0 : Value) (w : World) : Bq P (EV P) 40 #[x0] w =
 (vl (Go.Value.string { data := #[] }) w).bind fun r1 =>
 (vl x0 r1.2).bind fun r2 =>
 (EV P 59 #[r2.1, (.int .i64 10)] r2.2).bind fun r3 =>
 (vl r3.1 r3.2).bind fun r4 =>
 some (r4.1, r4.2) := by kernel_rfl
noncomputable def Ii (e : Env) (w : World) : Option (Value × World) := BB P (EV P) 41 28 (cA (cB (cB (cB (cB (Af P 41)))))) e w (AB P (EV P) 41 28 (cB (cB (cB (cB (cB (Af P 41)))))) (Bl P (AA P 41)))
noncomputable def Ge (e : Env) (w : World) : Option (Value × World) := BB P (EV P) 41 28 (cB (cB (cB (cB (cB (Af P 41)))))) e w (Bl P (AA P 41))
theorem IY (e : Env) (w : World) {Q : Value × World → Prop} (h :
 (Ad (vl (e 0) (dw w)) fun r1 => r1.2 = (dw w) ∧
 (Ad (bo P .quo 3 (.tmp 18) (.const (.int .i64 10)) r1.1 (.int .i64 10) (dw w)) fun r2 => r2.2 = (dw w) ∧
 (Ad (vl (e 0) (dw w)) fun r3 => r3.2 = (dw w) ∧
 (Ad (bo P .rem 3 (.tmp 21) (.const (.int .i64 10)) r3.1 (.int .i64 10) (dw w)) fun r4 => r4.2 = (dw w) ∧
 (Ad (bo P .add 3 (.const (.int .i64 48)) (.tmp 22) (.int .i64 48) r4.1 (dw w)) fun r5 => r5.2 = (dw w) ∧
 (Ad (cv P 3 5 r5.1 (dw w)) fun r6 => r6.2 = (dw w) ∧
 ((Ad (EV P 41 #[r2.1] (dw w)) fun r7 => (cv P 3 5 r5.1 r7.2 = some (r6.1, r7.2) ∧ bo P .add 3 (.const (.int .i64 48)) (.tmp 22) (.int .i64 48) r4.1 r7.2 = some (r5.1, r7.2) ∧ bo P .rem 3 (.tmp 21) (.const (.int .i64 10)) r3.1 (.int .i64 10) r7.2 = some (r4.1, r7.2) ∧ True ∧ True) ∧
 ((Ad (bs P 22 1 #[(0, r6.1)] r7.2) fun r8 => (True ∧ True ∧ True ∧ bo P .quo 3 (.tmp 18) (.const (.int .i64 10)) r1.1 (.int .i64 10) r8.2 = some (r2.1, r8.2) ∧ True) ∧
 (Ad (cv P 22 9 r8.1 r8.2) fun r9 => r9.2 = r8.2 ∧
 (Ad (bo P .add 9 (.tmp 20) (.tmp 26) r7.1 r9.1 r8.2) fun r10 => r10.2 = r8.2 ∧
 (Ad (vl r10.1 r8.2) fun r11 => r11.2 = r8.2 ∧
 Ad (Ge (AG e [(18, r1.1), (19, r2.1), (21, r3.1), (22, r4.1), (23, r5.1), (24, r6.1), (20, r7.1), (25, r8.1), (26, r9.1), (27, r10.1), (2, r11.1)]) r8.2) Q)))))) ∧
 (Ad (bs P 22 1 #[(0, r6.1)] (dw w)) fun r12 => (True ∧ True ∧ True ∧ bo P .quo 3 (.tmp 18) (.const (.int .i64 10)) r1.1 (.int .i64 10) r12.2 = some (r2.1, r12.2) ∧ True) ∧
 (Ad (cv P 22 9 r12.1 r12.2) fun r13 => r13.2 = r12.2 ∧
 ((Ad (EV P 41 #[r2.1] r12.2) fun r14 => (cv P 22 9 r12.1 r14.2 = some (r13.1, r14.2) ∧ cv P 3 5 r5.1 r14.2 = some (r6.1, r14.2) ∧ bo P .add 3 (.const (.int .i64 48)) (.tmp 22) (.int .i64 48) r4.1 r14.2 = some (r5.1, r14.2) ∧ bo P .rem 3 (.tmp 21) (.const (.int .i64 10)) r3.1 (.int .i64 10) r14.2 = some (r4.1, r14.2) ∧ True ∧ True) ∧
 (Ad (bo P .add 9 (.tmp 20) (.tmp 26) r14.1 r13.1 r14.2) fun r15 => r15.2 = r14.2 ∧
 (Ad (vl r15.1 r14.2) fun r16 => r16.2 = r14.2 ∧
 Ad (Ge (AG e [(18, r1.1), (19, r2.1), (21, r3.1), (22, r4.1), (23, r5.1), (24, r6.1), (25, r12.1), (26, r13.1), (20, r14.1), (27, r15.1), (2, r16.1)]) r14.2) Q)))))))))))))) : Ad (Ii e w) Q := G8 (id := 7) (ops := opsOf (cA (cB (cB (cB (cB (Af P 41))))))) (by kernel_rfl) (by kernel_rfl) (Eq.mpr (by kernel_rfl) h)
theorem Gw (e : Env) (w : World) : Ge e w =
 some ((e 2), w) := by kernel_rfl
theorem Ij (x0 : Value) (w : World) : Bq P (EV P) 41 #[x0] w =
 (vl (Go.Value.string { data := #[] }) w).bind fun r1 =>
 (vl x0 r1.2).bind fun r2 =>
 (bo P .lss 3 (.tmp 3) (.const (.int .i64 (-9223372036854775807))) r2.1 (.int .i64 (-9223372036854775807)) r2.2).bind fun r3 =>
 AK r3.1 (
 (vl (Go.Value.string { data := #[45, 57, 50, 50, 51, 51, 55, 50, 48, 51, 54, 56, 53, 52, 55, 55, 53, 56, 48, 56] }) r3.2).bind fun r4 =>
 some (r4.1, r4.2)) (
 (vl x0 r3.2).bind fun r5 =>
 (bo P .lss 3 (.tmp 5) (.const (.int .i64 0)) r5.1 (.int .i64 0) r5.2).bind fun r6 =>
 AK r6.1 (
 (vl x0 r6.2).bind fun r7 =>
 (uo P .neg r7.1 r7.2).bind fun r8 =>
 (EV P 41 #[r8.1] r8.2).bind fun r9 =>
 (bo P .add 9 (.const (Go.Value.string { data := #[45] })) (.tmp 9) (Go.Value.string { data := #[45] }) r9.1 r9.2).bind fun r10 =>
 (vl r10.1 r10.2).bind fun r11 =>
 some (r11.1, r11.2)) (
 (vl x0 r6.2).bind fun r12 =>
 (bo P .lss 3 (.tmp 11) (.const (.int .i64 10)) r12.1 (.int .i64 10) r12.2).bind fun r13 =>
 AK r13.1 (
 (vl x0 r13.2).bind fun r14 =>
 (bo P .add 3 (.const (.int .i64 48)) (.tmp 13) (.int .i64 48) r14.1 r14.2).bind fun r15 =>
 (cv P 3 5 r15.1 r15.2).bind fun r16 =>
 (bs P 22 1 #[(0, r16.1)] r16.2).bind fun r17 =>
 (cv P 22 9 r17.1 r17.2).bind fun r18 =>
 (vl r18.1 r18.2).bind fun r19 =>
 some (r19.1, r19.2)) (
 Ii (AG (AL #[x0]) [(2, r1.1), (3, r2.1), (4, r3.1), (5, r5.1), (6, r6.1), (11, r12.1), (12, r13.1)]) r13.2))) := by kernel_rfl
theorem MJ (x0 : Value) (w : World) : Bq P (EV P) 42 #[x0] w =
 (bx P 39 x0 w).bind fun r1 =>
 (vl (Go.Value.string { data := #[] }) r1.2).bind fun r2 =>
 (fa P 39 r1.1 0 (dw r2.2)).bind fun r4 =>
 Ag (r4.2 = (dw r2.2)) <|
 (ld P 3 r4.1 (dw r2.2)).bind fun r5 =>
 Ag (r5.2 = (dw r2.2)) <|
 (fa P 39 r1.1 1 (dw r2.2)).bind fun r6 =>
 Ag (r6.2 = (dw r2.2)) <|
 (ld P 3 r6.1 (dw r2.2)).bind fun r7 =>
 Ag (r7.2 = (dw r2.2)) <|
 (EV P 41 #[r5.1] (dw r2.2)).bind fun r8 =>
 Ag (ld P 3 r6.1 r8.2 = some (r7.1, r8.2) ∧ fa P 39 r1.1 1 r8.2 = some (r6.1, r8.2) ∧ True ∧ True ∧ True) <|
 (bo P .add 9 (.tmp 5) (.const (Go.Value.string { data := #[46] })) r8.1 (Go.Value.string { data := #[46] }) r8.2).bind fun r9 =>
 Ag (r9.2 = r8.2) <|
 (EV P 41 #[r7.1] r8.2).bind fun r10 =>
 Ag (bo P .add 9 (.tmp 5) (.const (Go.Value.string { data := #[46] })) r8.1 (Go.Value.string { data := #[46] }) r10.2 = some (r9.1, r10.2) ∧ True ∧ True ∧ True ∧ True ∧ True) <|
 (bo P .add 9 (.tmp 6) (.tmp 9) r9.1 r10.1 r10.2).bind fun r11 =>
 Ag (r11.2 = r10.2) <|
 (vl r11.1 r10.2).bind fun r12 =>
 Ag (r12.2 = r10.2) <|
 some (r12.1, r10.2) := by kernel_rfl
theorem E6 (x0 x1 : Value) (w : World) : Bq P (EV P) 43 #[x0, x1] w =
 (vl (Go.Value.string { data := #[] }) w).bind fun r1 =>
 (vl (Go.Value.string { data := #[] }) r1.2).bind fun r2 =>
 (vl (.bool false) r2.2).bind fun r3 =>
 (vl x0 r3.2).bind fun r4 =>
 (vl x1 r4.2).bind fun r5 =>
 (EV P 60 #[r4.1, r5.1] r5.2).bind fun r6 =>
 (vl r6.1 r6.2).bind fun r7 =>
 (vl r7.1 r7.2).bind fun r8 =>
 (bo P .geq 3 (.tmp 11) (.const (.int .i64 0)) r8.1 (.int .i64 0) r8.2).bind fun r9 =>
 AK r9.1 (
 (vl x0 (dw r9.2)).bind fun r11 =>
 Ag (r11.2 = (dw r9.2)) <|
 (vl r7.1 (dw r9.2)).bind fun r12 =>
 Ag (r12.2 = (dw r9.2)) <|
 (sl P 9 r11.1 none (some r12.1) none (dw r9.2)).bind fun r13 =>
 Ag (r13.2 = (dw r9.2)) <|
 (vl x0 (dw r9.2)).bind fun r14 =>
 Ag (r14.2 = (dw r9.2)) <|
 (vl r7.1 (dw r9.2)).bind fun r15 =>
 Ag (r15.2 = (dw r9.2)) <|
 (vl x1 (dw r9.2)).bind fun r16 =>
 Ag (r16.2 = (dw r9.2)) <|
 (Au P #[9] 3 #[r16.1] (dw r9.2)).bind fun r17 =>
 Ag (r17.2 = (dw r9.2)) <|
 (bo P .add 3 (.tmp 17) (.tmp 19) r15.1 r17.1 (dw r9.2)).bind fun r18 =>
 Ag (r18.2 = (dw r9.2)) <|
 (sl P 9 r14.1 (some r18.1) none none (dw r9.2)).bind fun r19 =>
 Ag (r19.2 = (dw r9.2)) <|
 (vl r13.1 (dw r9.2)).bind fun r20 =>
 Ag (r20.2 = (dw r9.2)) <|
 (vl r19.1 (dw r9.2)).bind fun r21 =>
 Ag (r21.2 = (dw r9.2)) <|
 (vl (.bool true) (dw r9.2)).bind fun r22 =>
 Ag (r22.2 = (dw r9.2)) <|
 some (.tuple #[r20.1, r21.1, r22.1], (dw r9.2))) (
 (vl x0 r9.2).bind fun r23 =>
 (vl r23.1 r23.2).bind fun r24 =>
 (vl (Go.Value.string { data := #[] }) r24.2).bind fun r25 =>
 (vl (.bool false) r25.2).bind fun r26 =>
 some (.tuple #[r24.1, r25.1, r26.1], r26.2)) := by kernel_rfl
theorem JN (x0 x1 : Value) (w : World) : Bq P (EV P) 44 #[x0, x1] w =
 (vl (Go.Value.slice none 0 0) w).bind fun r1 =>
 (vl x0 r1.2).bind fun r2 =>
 (vl x1 r2.2).bind fun r3 =>
 (EV P 61 #[r2.1, r3.1, (.int .i64 0), (.int .i64 (-1))] r3.2).bind fun r4 =>
 (vl r4.1 r4.2).bind fun r5 =>
 some (r5.1, r5.2) := by kernel_rfl
theorem KB (x0 : Value) (w : World) : Bq P (EV P) 45 #[x0] w =
 (vl (.int .i64 0) w).bind fun r1 =>
 (vl Go.Value.nilIface r1.2).bind fun r2 =>
 (vl x0 r2.2).bind fun r3 =>
 (EV P 62 #[r3.1] r3.2).bind fun r4 =>
 (vl r4.1 r4.2).bind fun r5 =>
 (xt P r5.1 0 r5.2).bind fun r6 =>
 (xt P r5.1 1 r6.2).bind fun r7 =>
 (vl r6.1 r7.2).bind fun r8 =>
 (vl r7.1 r8.2).bind fun r9 =>
 (vl r9.1 r9.2).bind fun r10 =>
 (bo P .neq 43 (.tmp 11) (.const Go.Value.nilIface) r10.1 Go.Value.nilIface r10.2).bind fun r11 =>
 AK r11.1 (
 (vl r8.1 r11.2).bind fun r12 =>
 (vl x0 r12.2).bind fun r13 =>
 (vl r9.1 r13.2).bind fun r14 =>
 (EV P 63 #[(Go.Value.string { data := #[65, 116, 111, 105] }), r13.1, (.int .i64 0), (.int .i64 0), r14.1] r14.2).bind fun r15 =>
 (vl r12.1 r15.2).bind fun r16 =>
 (vl r15.1 r16.2).bind fun r17 =>
 some (.tuple #[r16.1, r17.1], r17.2)) (
 (vl r8.1 r11.2).bind fun r18 =>
 (vl r18.1 r18.2).bind fun r19 =>
 (vl Go.Value.nilIface r19.2).bind fun r20 =>
 some (.tuple #[r19.1, r20.1], r20.2)) := by kernel_rfl
theorem Lm (x0 : Value) (w : World) : Bq P (EV P) 46 #[x0] w =
 (al P 39 w).bind fun r1 =>
 (vl (.bool false) r1.2).bind fun r2 =>
 (vl x0 r2.2).bind fun r3 =>
 (EV P 22 #[r3.1, (Go.Value.string { data := #[46] })] r3.2).bind fun r4 =>
 (vl r4.1 r4.2).bind fun r5 =>
 (xt P r5.1 0 r5.2).bind fun r6 =>
 (xt P r5.1 1 r6.2).bind fun r7 =>
 (xt P r5.1 2 r7.2).bind fun r8 =>
 (vl r6.1 r8.2).bind fun r9 =>
 (vl r7.1 r9.2).bind fun r10 =>
 (vl r8.1 r10.2).bind fun r11 =>
 (vl r9.1 r11.2).bind fun r12 =>
 (EV P 45 #[r12.1] r12.2).bind fun r13 =>
 (vl r13.1 r13.2).bind fun r14 =>
 (xt P r14.1 0 r14.2).bind fun r15 =>
 (xt P r14.1 1 r15.2).bind fun r16 =>
 (vl r15.1 r16.2).bind fun r17 =>
 (vl r16.1 r17.2).bind fun r18 =>
 (vl r10.1 r18.2).bind fun r19 =>
 (EV P 45 #[r19.1] r19.2).bind fun r20 =>
 (vl r20.1 r20.2).bind fun r21 =>
 (xt P r21.1 0 r21.2).bind fun r22 =>
 (xt P r21.1 1 r22.2).bind fun r23 =>
 (vl r22.1 r23.2).bind fun r24 =>
 (vl r23.1 r24.2).bind fun r25 =>
 (vl r17.1 r25.2).bind fun r26 =>
 (vl r24.1 r26.2).bind fun r27 =>
 (bd P 39 #[(0, r26.1), (1, r27.1)] r27.2).bind fun r28 =>
 (al P 39 r28.2).bind fun r29 =>
 (st P 39 r29.1 r28.1 r29.2).bind fun r30 =>
 (vl r18.1 r30.2).bind fun r31 =>
 (bo P .neq 43 (.tmp 31) (.const Go.Value.nilIface) r31.1 Go.Value.nilIface r31.2).bind fun r32 =>
 (vl r32.1 r32.2).bind fun r33 =>
 (Am r33.1 false (vl r25.1 r33.2) r33.2).bind fun r34 =>
 (Am r33.1 false (bo P .neq 43 (.tmp 34) (.const Go.Value.nilIface) r34.1 Go.Value.nilIface r34.2) r34.2).bind fun r35 =>
 (Ax r33.1 (.bool true) r35.1 r35.2).bind fun r36 =>
 (vl r36.1 r36.2).bind fun r37 =>
 (Am r37.1 false (ld P 39 r29.1 r37.2) r37.2).bind fun r38 =>
 (Am r37.1 false (EV P 38 #[r38.1] r38.2) r38.2).bind fun r39 =>
 (Am r37.1 false (uo P .not r39.1 r39.2) r39.2).bind fun r40 =>
 (Ax r37.1 (.bool true) r40.1 r40.2).bind fun r41 =>
 (vl r41.1 r41.2).bind fun r42 =>
 (Am r42.1 false (ld P 39 r29.1 r42.2) r42.2).bind fun r43 =>
 (Am r42.1 false (EV P 18 #[r43.1] r43.2) r43.2).bind fun r44 =>
 (Am r42.1 false (vl x0 r44.2) r44.2).bind fun r45 =>
 (Am r42.1 false (bo P .neq 9 (.tmp 44) (.tmp 45) r44.1 r45.1 r45.2) r45.2).bind fun r46 =>
 (Ax r42.1 (.bool true) r46.1 r46.2).bind fun r47 =>
 AK r47.1 (
 (bd P 39 #[] r47.2).bind fun r48 =>
 (st P 39 r1.1 r48.1 r48.2).bind fun r49 =>
 (vl (.bool false) r49.2).bind fun r50 =>
 ((ld P 39 r1.1 r50.2).bind fun r51 => Ag (r51.2 = r50.2) (some r51.1)).bind fun v52 =>
 some (.tuple #[v52, r50.1], r50.2)) (
 (ld P 39 r29.1 r47.2).bind fun r53 =>
 (st P 39 r1.1 r53.1 r53.2).bind fun r54 =>
 (vl (.bool true) r54.2).bind fun r55 =>
 ((ld P 39 r1.1 r55.2).bind fun r56 => Ag (r56.2 = r55.2) (some r56.1)).bind fun v57 =>
 some (.tuple #[v57, r55.1], r55.2)) := by kernel_rfl
noncomputable def BN (e : Env) (w : World) : Option (Value × World) := BB P (EV P) 47 19 (.loop (cA (cA (cB (cA (cB (Af P 47))))))) e w (An 0 (AB P (EV P) 47 19 (cB (cB (Af P 47))) (Bl P (AA P 47))))
theorem CQ (e : Env) (w : World) : BN e w =
 (bo P .lss 3 (.tmp 8) (.tmp 7) (e 8) (e 7) w).bind fun r1 =>
 AK r1.1 (
 (vl (e 8) r1.2).bind fun r2 =>
 (vl r2.1 r2.2).bind fun r3 =>
 (vl (e 1) r3.2).bind fun r4 =>
 (vl (e 0) r4.2).bind fun r5 =>
 (vl r3.1 r5.2).bind fun r6 =>
 (ia P 47 r5.1 r6.1 r6.2).bind fun r7 =>
 (ld P 9 r7.1 r7.2).bind fun r8 =>
 (bo P .eql 9 (.tmp 11) (.tmp 15) r4.1 r8.1 r8.2).bind fun r9 =>
 AK r9.1 (
 (vl r3.1 r9.2).bind fun r10 =>
 (vl r10.1 r10.2).bind fun r11 =>
 some (r11.1, r11.2)) (
 (bo P .add 3 (.tmp 8) (.const (.int .i64 1)) (e 8) (.int .i64 1) r9.2).bind fun r12 =>
 (vl r12.1 r12.2).bind fun r13 =>
 BN (AG e [(9, r1.1), (10, r2.1), (5, r3.1), (11, r4.1), (12, r5.1), (13, r6.1), (14, r7.1), (15, r8.1), (16, r9.1), (18, r12.1), (8, r13.1)]) r13.2)) (
 (vl (.int .i64 (-1)) r1.2).bind fun r14 =>
 some (r14.1, r14.2)) := (AD P (EV P) 47 19 (cA (cA (cB (cA (cB (Af P 47)))))) e w (An 0 (AB P (EV P) 47 19 (cB (cB (Af P 47))) (Bl P (AA P 47))))).trans (by kernel_rfl)
theorem GU (x0 x1 : Value) (w : World) : Bq P (EV P) 47 #[x0, x1] w =
 (vl (.int .i64 0) w).bind fun r1 =>
 (vl x0 r1.2).bind fun r2 =>
 (Au P #[47] 3 #[r2.1] r2.2).bind fun r3 =>
 (vl (.int .i64 0) r3.2).bind fun r4 =>
 BN (AG (AL #[x0, x1]) [(4, r1.1), (6, r2.1), (7, r3.1), (8, r4.1)]) r4.2 := by kernel_rfl
theorem JO (x0 x1 : Value) (w : World) : Bq P (EV P) 48 #[x0, x1] w =
 (vl (Go.Value.string { data := #[] }) w).bind fun r1 =>
 (vl x1 r1.2).bind fun r2 =>
 (vl x0 r2.2).bind fun r3 =>
 (vl x1 r3.2).bind fun r4 =>
 (Au P #[47] 3 #[r4.1] r4.2).bind fun r5 =>
 (EV P 25 #[r3.1, r5.1] r5.2).bind fun r6 =>
 (ia P 47 r2.1 r6.1 r6.2).bind fun r7 =>
 (ld P 9 r7.1 r7.2).bind fun r8 =>
 (vl r8.1 r8.2).bind fun r9 =>
 some (r9.1, r9.2) := by kernel_rfl
theorem KC (x0 : Value) (w : World) : Bq P (EV P) 49 #[x0] w =
 (bx P 39 x0 w).bind fun r1 =>
 (vl (.bool false) r1.2).bind fun r2 =>
 (ld P 39 r1.1 r2.2).bind fun r3 =>
 (bd P 39 #[] r3.2).bind fun r4 =>
 (bo P .eql 39 (.tmp 3) (.tmp 4) r3.1 r4.1 r4.2).bind fun r5 =>
 (vl r5.1 r5.2).bind fun r6 =>
 (Am r6.1 false (fa P 39 r1.1 0 r6.2) r6.2).bind fun r7 =>
 (Am r6.1 false (ld P 3 r7.1 r7.2) r7.2).bind fun r8 =>
 (Am r6.1 false (EV P 50 #[r8.1, (.int .i64 1), (.int .i64 999)] r8.2) r8.2).bind fun r9 =>
 (Am r6.1 false (vl r9.1 r9.2) r9.2).bind fun r10 =>
 (Am r10.1 true (fa P 39 r1.1 1 r10.2) r10.2).bind fun r11 =>
 (Am r10.1 true (ld P 3 r11.1 r11.2) r11.2).bind fun r12 =>
 (Am r10.1 true (EV P 50 #[r12.1, (.int .i64 0), (.int .i64 2)] r12.2) r12.2).bind fun r13 =>
 (Am r6.1 false (Ax r10.1 r13.1 (.bool false) r13.2) r13.2).bind fun r14 =>
 (Ax r6.1 (.bool true) r14.1 r14.2).bind fun r15 =>
 (vl r15.1 r15.2).bind fun r16 =>
 some (r16.1, r16.2) := by kernel_rfl
theorem Om (x0 x1 x2 : Value) (w : World) : Bq P (EV P) 50 #[x0, x1, x2] w =
 (vl (.bool false) w).bind fun r1 =>
 (vl x0 r1.2).bind fun r2 =>
 (vl x1 r2.2).bind fun r3 =>
 (bo P .geq 3 (.tmp 7) (.tmp 8) r2.1 r3.1 r3.2).bind fun r4 =>
 (vl r4.1 r4.2).bind fun r5 =>
 (Am r5.1 true (vl x0 r5.2) r5.2).bind fun r6 =>
 (Am r5.1 true (vl x2 r6.2) r6.2).bind fun r7 =>
 (Am r5.1 true (bo P .leq 3 (.tmp 11) (.tmp 12) r6.1 r7.1 r7.2) r7.2).bind fun r8 =>
 (Ax r5.1 r8.1 (.bool false) r8.2).bind fun r9 =>
 (vl r9.1 r9.2).bind fun r10 =>
 some (r10.1, r10.2) := by kernel_rfl
theorem KD (x0 : Value) (w : World) : Bq P (EV P) 51 #[x0] w =
 (vl (.int .i64 0) w).bind fun r1 =>
 (vl (.int .i64 0) r1.2).bind fun r2 =>
 (vl (Go.Value.slice none 0 0) r2.2).bind fun r3 =>
 (vl x0 r3.2).bind fun r4 =>
 (EV P 25 #[r4.1, (.int .i64 4)] r4.2).bind fun r5 =>
 (bo P .add 3 (.const (.int .i64 1)) (.tmp 8) (.int .i64 1) r5.1 r5.2).bind fun r6 =>
 (vl r6.1 r6.2).bind fun r7 =>
 (vl x0 r7.2).bind fun r8 =>
 (EV P 25 #[r8.1, (.int .i64 4)] r8.2).bind fun r9 =>
 (bo P .add 3 (.const (.int .i64 1)) (.tmp 11) (.int .i64 1) r9.1 r9.2).bind fun r10 =>
 (vl r10.1 r10.2).bind fun r11 =>
 (vl r7.1 r11.2).bind fun r12 =>
 (vl r11.1 r12.2).bind fun r13 =>
 (vl x0 r13.2).bind fun r14 =>
 (vl r7.1 r14.2).bind fun r15 =>
 (vl r11.1 r15.2).bind fun r16 =>
 (vl x0 r16.2).bind fun r17 =>
 (bs P 87 4 #[(0, (.int .i64 0)), (1, (.int .i64 20)), (2, (.int .i64 60)), (3, (.int .i64 120))] r17.2).bind fun r18 =>
 (EV P 54 #[r17.1, r18.1] r18.2).bind fun r19 =>
 (EV P 64 #[r14.1, r15.1, r16.1, r19.1] r19.2).bind fun r20 =>
 (vl r12.1 r20.2).bind fun r21 =>
 (vl r13.1 r21.2).bind fun r22 =>
 (vl r20.1 r22.2).bind fun r23 =>
 some (.tuple #[r21.1, r22.1, r23.1], r23.2) := by kernel_rfl
noncomputable def Dz (e : Env) (w : World) : Option (Value × World) := BB P (EV P) 52 80 (.loop (cA (cA (cB (cA (cB (cB (Af P 52)))))))) e w (An 0 (AB P (EV P) 52 80 (cB (cB (cB (Af P 52)))) (Bl P (AA P 52))))
noncomputable def DA (e : Env) (w : World) : Option (Value × World) := BB P (EV P) 52 80 (.loop (cA (cA (cB (cA (cB (cB (cB (Af P 52))))))))) e w (An 2 (AB P (EV P) 52 80 (cB (cB (cB (cB (Af P 52))))) (Bl P (AA P 52))))
noncomputable def DB (e : Env) (w : World) : Option (Value × World) := BB P (EV P) 52 80 (.loop (cA (cA (cB (cA (cB (cB (cB (cB (Af P 52)))))))))) e w (An 4 (AB P (EV P) 52 80 (cB (cB (cB (cB (cB (Af P 52)))))) (Bl P (AA P 52))))
theorem FF (e : Env) (w : World) : Dz e w =
 (vl (e 4) w).bind fun r1 =>
 (fa P 67 (e 1) 0 r1.2).bind fun r2 =>
 (ld P 63 r2.1 r2.2).bind fun r3 =>
 (Au P #[63] 3 #[r3.1] r3.2).bind fun r4 =>
 (bo P .lss 3 (.tmp 14) (.tmp 17) r1.1 r4.1 r4.2).bind fun r5 =>
 AK r5.1 (
 (fa P 67 (e 3) 0 (dw r5.2)).bind fun r7 =>
 Ag (r7.2 = (dw r5.2)) <|
 (ld P 63 r7.1 (dw r5.2)).bind fun r8 =>
 Ag (r8.2 = (dw r5.2)) <|
 (fa P 67 (e 1) 0 (dw r5.2)).bind fun r9 =>
 Ag (r9.2 = (dw r5.2)) <|
 (ld P 63 r9.1 (dw r5.2)).bind fun r10 =>
 Ag (r10.2 = (dw r5.2)) <|
 (vl (e 4) (dw r5.2)).bind fun r11 =>
 Ag (r11.2 = (dw r5.2)) <|
 (ia P 63 r10.1 r11.1 (dw r5.2)).bind fun r12 =>
 Ag (r12.2 = (dw r5.2)) <|
 (ld P 102 r12.1 (dw r5.2)).bind fun r13 =>
 Ag (r13.2 = (dw r5.2)) <|
 (EV P 65 #[r13.1] (dw r5.2)).bind fun r14 =>
 Ag (True ∧ True ∧ True ∧ True ∧ ld P 63 r7.1 r14.2 = some (r8.1, r14.2) ∧ fa P 67 (e 3) 0 r14.2 = some (r7.1, r14.2) ∧ True) <|
 (bs P 63 1 #[(0, r14.1)] r14.2).bind fun r15 =>
 Ag (True ∧ True ∧ True ∧ True ∧ ld P 63 r7.1 r15.2 = some (r8.1, r15.2) ∧ fa P 67 (e 3) 0 r15.2 = some (r7.1, r15.2) ∧ True) <|
 (Aq P #[63, 63] 63 #[r8.1, r15.1] r15.2).bind fun r16 =>
 Ag (True ∧ True ∧ True ∧ True ∧ True ∧ True ∧ True) <|
 (fa P 67 (e 3) 0 r16.2).bind fun r17 =>
 Ag (r17.2 = r16.2) <|
 (st P 63 r17.1 r16.1 r16.2).bind fun r18 =>
 Ag (True ∧ True ∧ True ∧ True ∧ True ∧ True ∧ True ∧ True) <|
 (vl (e 4) r18.2).bind fun r19 =>
 (bo P .add 3 (.tmp 19) (.const (.int .i64 1)) r19.1 (.int .i64 1) r19.2).bind fun r20 =>
 (vl r20.1 r20.2).bind fun r21 =>
 Dz (AG e [(14, r1.1), (15, r2.1), (16, r3.1), (17, r4.1), (18, r5.1), (21, r7.1), (22, r8.1), (23, r9.1), (24, r10.1), (25, r11.1), (26, r12.1), (27, r13.1), (28, r14.1), (29, r15.1), (30, r16.1), (31, r17.1), (19, r19.1), (20, r20.1), (4, r21.1)]) r21.2) (
 (vl (.int .i64 0) r5.2).bind fun r22 =>
 DA (AG e [(14, r1.1), (15, r2.1), (16, r3.1), (17, r4.1), (18, r5.1), (5, r22.1)]) r22.2) := (AD P (EV P) 52 80 (cA (cA (cB (cA (cB (cB (Af P 52))))))) e w (An 0 (AB P (EV P) 52 80 (cB (cB (cB (Af P 52)))) (Bl P (AA P 52))))).trans (by kernel_rfl)
theorem FG (e : Env) (w : World) : DA e w =
 (vl (e 5) w).bind fun r1 =>
 (fa P 67 (e 1) 1 r1.2).bind fun r2 =>
 (ld P 64 r2.1 r2.2).bind fun r3 =>
 (Au P #[64] 3 #[r3.1] r3.2).bind fun r4 =>
 (bo P .lss 3 (.tmp 32) (.tmp 35) r1.1 r4.1 r4.2).bind fun r5 =>
 AK r5.1 (
 (fa P 67 (e 1) 1 r5.2).bind fun r6 =>
 (ld P 64 r6.1 r6.2).bind fun r7 =>
 (vl (e 5) r7.2).bind fun r8 =>
 (ia P 64 r7.1 r8.1 r8.2).bind fun r9 =>
 (ld P 108 r9.1 r9.2).bind fun r10 =>
 (al P 108 r10.2).bind fun r11 =>
 (st P 108 r11.1 r10.1 r11.2).bind fun r12 =>
 (bs P 104 0 #[] r12.2).bind fun r13 =>
 (fa P 108 r11.1 1 r13.2).bind fun r14 =>
 (fa P 106 r14.1 0 r14.2).bind fun r15 =>
 (ld P 104 r15.1 r15.2).bind fun r16 =>
 (Aq P #[104, 104] 104 #[r13.1, r16.1] r16.2).bind fun r17 =>
 (bd P 106 #[(0, r17.1)] r17.2).bind fun r18 =>
 (fa P 108 r11.1 1 r18.2).bind fun r19 =>
 (st P 106 r19.1 r18.1 r19.2).bind fun r20 =>
 (fa P 67 (e 3) 1 r20.2).bind fun r21 =>
 (ld P 64 r21.1 r21.2).bind fun r22 =>
 (ld P 108 r11.1 r22.2).bind fun r23 =>
 (bs P 64 1 #[(0, r23.1)] r23.2).bind fun r24 =>
 (Aq P #[64, 64] 64 #[r22.1, r24.1] r24.2).bind fun r25 =>
 (fa P 67 (e 3) 1 r25.2).bind fun r26 =>
 (st P 64 r26.1 r25.1 r26.2).bind fun r27 =>
 (vl (e 5) r27.2).bind fun r28 =>
 (bo P .add 3 (.tmp 37) (.const (.int .i64 1)) r28.1 (.int .i64 1) r28.2).bind fun r29 =>
 (vl r29.1 r29.2).bind fun r30 =>
 DA (AG e [(32, r1.1), (33, r2.1), (34, r3.1), (35, r4.1), (36, r5.1), (39, r6.1), (40, r7.1), (41, r8.1), (42, r9.1), (43, r10.1), (6, r11.1), (44, r13.1), (45, r14.1), (46, r15.1), (47, r16.1), (48, r17.1), (49, r18.1), (50, r19.1), (51, r21.1), (52, r22.1), (53, r23.1), (54, r24.1), (55, r25.1), (56, r26.1), (37, r28.1), (38, r29.1), (5, r30.1)]) r30.2) (
 (vl (.int .i64 0) r5.2).bind fun r31 =>
 DB (AG e [(32, r1.1), (33, r2.1), (34, r3.1), (35, r4.1), (36, r5.1), (7, r31.1)]) r31.2) := (AD P (EV P) 52 80 (cA (cA (cB (cA (cB (cB (cB (Af P 52)))))))) e w (An 2 (AB P (EV P) 52 80 (cB (cB (cB (cB (Af P 52))))) (Bl P (AA P 52))))).trans (by kernel_rfl)
theorem FH (e : Env) (w : World) : DB e w =
 (vl (e 7) w).bind fun r1 =>
 (fa P 67 (e 1) 2 r1.2).bind fun r2 =>
 (ld P 65 r2.1 r2.2).bind fun r3 =>
 (Au P #[65] 3 #[r3.1] r3.2).bind fun r4 =>
 (bo P .lss 3 (.tmp 57) (.tmp 60) r1.1 r4.1 r4.2).bind fun r5 =>
 AK r5.1 (
 (fa P 67 (e 1) 2 r5.2).bind fun r6 =>
 (ld P 65 r6.1 r6.2).bind fun r7 =>
 (vl (e 7) r7.2).bind fun r8 =>
 (ia P 65 r7.1 r8.1 r8.2).bind fun r9 =>
 (ld P 112 r9.1 r9.2).bind fun r10 =>
 (al P 112 r10.2).bind fun r11 =>
 (st P 112 r11.1 r10.1 r11.2).bind fun r12 =>
 (fa P 112 r11.1 3 r12.2).bind fun r13 =>
 (ld P 110 r13.1 r13.2).bind fun r14 =>
 (EV P 66 #[r14.1] r14.2).bind fun r15 =>
 (fa P 112 r11.1 3 r15.2).bind fun r16 =>
 (st P 110 r16.1 r15.1 r16.2).bind fun r17 =>
 (fa P 67 (e 3) 2 r17.2).bind fun r18 =>
 (ld P 65 r18.1 r18.2).bind fun r19 =>
 (ld P 112 r11.1 r19.2).bind fun r20 =>
 (bs P 65 1 #[(0, r20.1)] r20.2).bind fun r21 =>
 (Aq P #[65, 65] 65 #[r19.1, r21.1] r21.2).bind fun r22 =>
 (fa P 67 (e 3) 2 r22.2).bind fun r23 =>
 (st P 65 r23.1 r22.1 r23.2).bind fun r24 =>
 (vl (e 7) r24.2).bind fun r25 =>
 (bo P .add 3 (.tmp 62) (.const (.int .i64 1)) r25.1 (.int .i64 1) r25.2).bind fun r26 =>
 (vl r26.1 r26.2).bind fun r27 =>
 DB (AG e [(57, r1.1), (58, r2.1), (59, r3.1), (60, r4.1), (61, r5.1), (64, r6.1), (65, r7.1), (66, r8.1), (67, r9.1), (68, r10.1), (8, r11.1), (69, r13.1), (70, r14.1), (71, r15.1), (72, r16.1), (73, r18.1), (74, r19.1), (75, r20.1), (76, r21.1), (77, r22.1), (78, r23.1), (62, r25.1), (63, r26.1), (7, r27.1)]) r27.2) (
 (ld P 67 (e 3) r5.2).bind fun r28 =>
 (st P 67 (e 2) r28.1 r28.2).bind fun r29 =>
 ((ld P 67 (e 2) r29.2).bind fun r30 => Ag (r30.2 = r29.2) (some r30.1)).bind fun v31 =>
 some (v31, r29.2)) := (AD P (EV P) 52 80 (cA (cA (cB (cA (cB (cB (cB (cB (Af P 52))))))))) e w (An 4 (AB P (EV P) 52 80 (cB (cB (cB (cB (cB (Af P 52)))))) (Bl P (AA P 52))))).trans (by kernel_rfl)
theorem Ln (x0 : Value) (w : World) : Bq P (EV P) 52 #[x0] w =
 (bx P 67 x0 w).bind fun r1 =>
 (al P 67 r1.2).bind fun r2 =>
 (bs P 23 0 #[] r2.2).bind fun r3 =>
 (fa P 67 r1.1 3 r3.2).bind fun r4 =>
 (ld P 23 r4.1 r4.2).bind fun r5 =>
 (Aq P #[23, 23] 23 #[r3.1, r5.1] r5.2).bind fun r6 =>
 (bd P 67 #[(3, r6.1)] r6.2).bind fun r7 =>
 (al P 67 r7.2).bind fun r8 =>
 (st P 67 r8.1 r7.1 r8.2).bind fun r9 =>
 (vl (.int .i64 0) r9.2).bind fun r10 =>
 Dz (AG (AL #[x0]) [(1, r1.1), (2, r2.1), (9, r3.1), (10, r4.1), (11, r5.1), (12, r6.1), (13, r7.1), (3, r8.1), (4, r10.1)]) r10.2 := by kernel_rfl
noncomputable def DC (e : Env) (w : World) : Option (Value × World) := BB P (EV P) 53 35 (.loop (cA (cA (cB (cA (cB (cB (Af P 53)))))))) e w (An 0 (AB P (EV P) 53 35 (cB (cB (cB (Af P 53)))) (Bl P (AA P 53))))
noncomputable def Hv (e : Env) (w : World) : Option (Value × World) := BB P (EV P) 53 35 (cA (cA (cA (cB (cA (cA (cB (cA (cB (cB (Af P 53))))))))))) e w (AB P (EV P) 53 35 (cB (cA (cA (cB (cA (cA (cB (cA (cB (cB (Af P 53))))))))))) (An 1 (AB P (EV P) 53 35 (cB (cB (cA (cA (cB (cA (cB (cB (Af P 53))))))))) (GK P (EV P) 53 35 (cA (cA (cB (cA (cB (cB (Af P 53))))))) (An 0 (AB P (EV P) 53 35 (cB (cB (cB (Af P 53)))) (Bl P (AA P 53))))))))
noncomputable def DD (e : Env) (w : World) : Option (Value × World) := BB P (EV P) 53 35 (cB (cA (cA (cB (cA (cA (cB (cA (cB (cB (Af P 53))))))))))) e w (An 1 (AB P (EV P) 53 35 (cB (cB (cA (cA (cB (cA (cB (cB (Af P 53))))))))) (GK P (EV P) 53 35 (cA (cA (cB (cA (cB (cB (Af P 53))))))) (An 0 (AB P (EV P) 53 35 (cB (cB (cB (Af P 53)))) (Bl P (AA P 53)))))))
theorem FI (e : Env) (w : World) : DC e w =
 (vl (e 8) w).bind fun r1 =>
 (vl (e 2) r1.2).bind fun r2 =>
 (Au P #[81] 3 #[r2.1] r2.2).bind fun r3 =>
 (bo P .lss 3 (.tmp 14) (.tmp 16) r1.1 r3.1 r3.2).bind fun r4 =>
 (vl r4.1 r4.2).bind fun r5 =>
 (Am r5.1 true (vl (e 8) r5.2) r5.2).bind fun r6 =>
 (Am r5.1 true (bo P .lss 3 (.tmp 19) (.const (.int .i64 60)) r6.1 (.int .i64 60) r6.2) r6.2).bind fun r7 =>
 (Ax r5.1 r7.1 (.bool false) r7.2).bind fun r8 =>
 AK r8.1 (
 Hv (AG e [(14, r1.1), (15, r2.1), (16, r3.1), (17, r4.1), (18, r5.1), (19, r6.1), (20, r7.1), (21, r8.1)]) r8.2) (
 (ld P 67 (e 7) r8.2).bind fun r9 =>
 (st P 67 (e 6) r9.1 r9.2).bind fun r10 =>
 ((ld P 67 (e 6) r10.2).bind fun r11 => Ag (r11.2 = r10.2) (some r11.1)).bind fun v12 =>
 some (v12, r10.2)) := (AD P (EV P) 53 35 (cA (cA (cB (cA (cB (cB (Af P 53))))))) e w (An 0 (AB P (EV P) 53 35 (cB (cB (cB (Af P 53)))) (Bl P (AA P 53))))).trans (by kernel_rfl)
theorem IA (e : Env) (w : World) {Q : Value × World → Prop} (h :
 (Ad (ld P 67 (e 7) (dw w)) fun r1 => r1.2 = (dw w) ∧
 (Ad (vl (e 2) (dw w)) fun r2 => r2.2 = (dw w) ∧
 (Ad (vl (e 8) (dw w)) fun r3 => r3.2 = (dw w) ∧
 (Ad (ia P 81 r2.1 r3.1 (dw w)) fun r4 => r4.2 = (dw w) ∧
 (Ad (ld P 118 r4.1 (dw w)) fun r5 => r5.2 = (dw w) ∧
 ((Ad (EV P 68 #[r1.1, r5.1] (dw w)) fun r6 => (True ∧ True ∧ True ∧ True) ∧
 (Ad (vl r6.1 r6.2) fun r7 => r7.2 = r6.2 ∧
 (Ad (xt P r7.1 0 r6.2) fun r8 => r8.2 = r6.2 ∧
 (Ad (xt P r7.1 1 r6.2) fun r9 => r9.2 = r6.2 ∧
 ((Ad (al P 67 r6.2) fun r10 => (xt P r7.1 1 r10.2 = some (r9.1, r10.2) ∧ xt P r7.1 0 r10.2 = some (r8.1, r10.2) ∧ ld P 118 r4.1 r10.2 = some (r5.1, r10.2) ∧ ia P 81 r2.1 r3.1 r10.2 = some (r4.1, r10.2) ∧ ld P 67 (e 7) r10.2 = some (r1.1, r10.2) ∧ True) ∧
 ((Ad (st P 67 r10.1 r8.1 r10.2) fun r11 => (xt P r7.1 1 r11.2 = some (r9.1, r11.2) ∧ True ∧ True ∧ True ∧ True ∧ True) ∧
 (Ad (vl r9.1 r11.2) fun r12 => r12.2 = r11.2 ∧
 Ad (DD (AG e [(25, r1.1), (26, r2.1), (27, r3.1), (28, r4.1), (29, r5.1), (30, r6.1), (24, r7.1), (31, r8.1), (32, r9.1), (9, r10.1), (10, r12.1)]) r11.2) Q))))))))) ∧
 (Ad (al P 67 (dw w)) fun r13 => (ld P 118 r4.1 r13.2 = some (r5.1, r13.2) ∧ ia P 81 r2.1 r3.1 r13.2 = some (r4.1, r13.2) ∧ ld P 67 (e 7) r13.2 = some (r1.1, r13.2) ∧ True) ∧
 ((Ad (EV P 68 #[r1.1, r5.1] r13.2) fun r14 => (True ∧ True ∧ True ∧ True) ∧
 (Ad (vl r14.1 r14.2) fun r15 => r15.2 = r14.2 ∧
 (Ad (xt P r15.1 0 r14.2) fun r16 => r16.2 = r14.2 ∧
 (Ad (xt P r15.1 1 r14.2) fun r17 => r17.2 = r14.2 ∧
 ((Ad (st P 67 r13.1 r16.1 r14.2) fun r18 => (xt P r15.1 1 r18.2 = some (r17.1, r18.2) ∧ True ∧ True ∧ True ∧ True ∧ True) ∧
 (Ad (vl r17.1 r18.2) fun r19 => r19.2 = r18.2 ∧
 Ad (DD (AG e [(25, r1.1), (26, r2.1), (27, r3.1), (28, r4.1), (29, r5.1), (9, r13.1), (30, r14.1), (24, r15.1), (31, r16.1), (32, r17.1), (10, r19.1)]) r18.2) Q)))))))))))))))) : Ad (Hv e w) Q := G8 (id := 5) (ops := opsOf (cA (cA (cA (cB (cA (cA (cB (cA (cB (cB (Af P 53)))))))))))) (by kernel_rfl) (by kernel_rfl) (Eq.mpr (by kernel_rfl) h)
theorem IZ (e : Env) (w : World) : DD e w =
 (ld P 67 (e 9) w).bind fun r1 =>
 (st P 67 (e 7) r1.1 r1.2).bind fun r2 =>
 (vl (e 8) r2.2).bind fun r3 =>
 (bo P .add 3 (.tmp 22) (.const (.int .i64 1)) r3.1 (.int .i64 1) r3.2).bind fun r4 =>
 (vl r4.1 r4.2).bind fun r5 =>
 DC (AG e [(33, r1.1), (22, r3.1), (23, r4.1), (8, r5.1)]) r5.2 := by kernel_rfl
theorem Lo (x0 x1 x2 : Value) (w : World) : Bq P (EV P) 53 #[x0, x1, x2] w =
 (al P 67 w).bind fun r1 =>
 (vl x0 r1.2).bind fun r2 =>
 (vl x1 r2.2).bind fun r3 =>
 (EV P 67 #[r2.1, r3.1] r3.2).bind fun r4 =>
 (al P 67 r4.2).bind fun r5 =>
 (st P 67 r5.1 r4.1 r5.2).bind fun r6 =>
 (vl (.int .i64 0) r6.2).bind fun r7 =>
 DC (AG (AL #[x0, x1, x2]) [(6, r1.1), (11, r2.1), (12, r3.1), (13, r4.1), (7, r5.1), (8, r7.1)]) r7.2 := by kernel_rfl
theorem I0 (x0 x1 : Value) (w : World) : Bq P (EV P) 54 #[x0, x1] w =
 (vl (.int .i64 0) w).bind fun r1 =>
 (vl x1 r1.2).bind fun r2 =>
 (vl x0 r2.2).bind fun r3 =>
 (vl x1 r3.2).bind fun r4 =>
 (Au P #[87] 3 #[r4.1] r4.2).bind fun r5 =>
 (EV P 25 #[r3.1, r5.1] r5.2).bind fun r6 =>
 (ia P 87 r2.1 r6.1 r6.2).bind fun r7 =>
 (ld P 3 r7.1 r7.2).bind fun r8 =>
 (vl r8.1 r8.2).bind fun r9 =>
 some (r9.1, r9.2) := by kernel_rfl
theorem Lp (x0 : Value) (w : World) : Bq P (EV P) 55 #[x0] w =
 (al P 39 w).bind fun r1 =>
 (vl x0 r1.2).bind fun r2 =>
 (EV P 25 #[r2.1, (.int .i64 3)] r2.2).bind fun r3 =>
 (bo P .eql 3 (.tmp 4) (.const (.int .i64 0)) r3.1 (.int .i64 0) r3.2).bind fun r4 =>
 AK r4.1 (
 (bd P 39 #[] r4.2).bind fun r5 =>
 (st P 39 r1.1 r5.1 r5.2).bind fun r6 =>
 ((ld P 39 r1.1 r6.2).bind fun r7 => Ag (r7.2 = r6.2) (some r7.1)).bind fun v8 =>
 some (v8, r6.2)) (
 (vl x0 r4.2).bind fun r9 =>
 (EV P 25 #[r9.1, (.int .i64 9)] r9.2).bind fun r10 =>
 (bo P .add 3 (.const (.int .i64 1)) (.tmp 8) (.int .i64 1) r10.1 r10.2).bind fun r11 =>
 (vl x0 r11.2).bind fun r12 =>
 (EV P 25 #[r12.1, (.int .i64 3)] r12.2).bind fun r13 =>
 (bd P 39 #[(0, r11.1), (1, r13.1)] r13.2).bind fun r14 =>
 (st P 39 r1.1 r14.1 r14.2).bind fun r15 =>
 ((ld P 39 r1.1 r15.2).bind fun r16 => Ag (r16.2 = r15.2) (some r16.1)).bind fun v17 =>
 some (v17, r15.2)) := by kernel_rfl
noncomputable def BC (e : Env) (w : World) : Option (Value × World) := BB P (EV P) 56 19 (.loop (cA (cA (cB (cA (cB (Af P 56))))))) e w (An 0 (AB P (EV P) 56 19 (cB (cB (Af P 56))) (Bl P (AA P 56))))
theorem Cw (e : Env) (w : World) : BC e w =
 (bo P .lss 3 (.tmp 8) (.tmp 7) (e 8) (e 7) w).bind fun r1 =>
 AK r1.1 (
 (vl (e 8) r1.2).bind fun r2 =>
 (vl r2.1 r2.2).bind fun r3 =>
 (vl (e 1) r3.2).bind fun r4 =>
 (vl (e 0) r4.2).bind fun r5 =>
 (vl r3.1 r5.2).bind fun r6 =>
 (ia P 23 r5.1 r6.1 r6.2).bind fun r7 =>
 (ld P 41 r7.1 r7.2).bind fun r8 =>
 (TH P r4.1 #[r8.1] r8.2).bind fun r9 =>
 AK r9.1 (
 (vl r3.1 r9.2).bind fun r10 =>
 (vl r10.1 r10.2).bind fun r11 =>
 some (r11.1, r11.2)) (
 (bo P .add 3 (.tmp 8) (.const (.int .i64 1)) (e 8) (.int .i64 1) r9.2).bind fun r12 =>
 (vl r12.1 r12.2).bind fun r13 =>
 BC (AG e [(9, r1.1), (10, r2.1), (5, r3.1), (11, r4.1), (12, r5.1), (13, r6.1), (14, r7.1), (15, r8.1), (16, r9.1), (18, r12.1), (8, r13.1)]) r13.2)) (
 (vl (.int .i64 (-1)) r1.2).bind fun r14 =>
 some (r14.1, r14.2)) := (AD P (EV P) 56 19 (cA (cA (cB (cA (cB (Af P 56)))))) e w (An 0 (AB P (EV P) 56 19 (cB (cB (Af P 56))) (Bl P (AA P 56))))).trans (by kernel_rfl)
theorem Gf (x0 x1 : Value) (w : World) : Bq P (EV P) 56 #[x0, x1] w =
 (vl (.int .i64 0) w).bind fun r1 =>
 (vl x0 r1.2).bind fun r2 =>
 (Au P #[23] 3 #[r2.1] r2.2).bind fun r3 =>
 (vl (.int .i64 0) r3.2).bind fun r4 =>
 BC (AG (AL #[x0, x1]) [(4, r1.1), (6, r2.1), (7, r3.1), (8, r4.1)]) r4.2 := by kernel_rfl
theorem KE (x0 : Value) (w : World) : Bq P (EV P) 57 #[x0] w =
 (vl (.bool false) w).bind fun r1 =>
 (vl x0 r1.2).bind fun r2 =>
 (EV P 36 #[r2.1, (.int .i64 0), (.int .i64 2)] r2.2).bind fun r3 =>
 (vl r3.1 r3.2).bind fun r4 =>
 some (r4.1, r4.2) := by kernel_rfl
noncomputable def BE (e : Env) (w : World) : Option (Value × World) := BB P (EV P) 59 54 (cB (cB (cB (cB (cA (cB (cA (cB (Af P 59))))))))) e w (AB P (EV P) 59 54 (cB (cB (Af P 59))) (Bl P (AA P 59)))
theorem DE (e : Env) (w : World) : BE e w =
 (vl (e 6) w).bind fun r1 =>
 (EV P 70 #[r1.1] r1.2).bind fun r2 =>
 (vl r2.1 r2.2).bind fun r3 =>
 (vl r3.1 r3.2).bind fun r4 =>
 (bo P .add 3 (.const (.int .i64 1)) (.tmp 28) (.int .i64 1) r4.1 r4.2).bind fun r5 =>
 (sl P 119 (e 5) (some (.int .i64 1)) (some r5.1) none r5.2).bind fun r6 =>
 (vl (e 6) r6.2).bind fun r7 =>
 (EV P 71 #[r6.1, r7.1] r7.2).bind fun r8 =>
 (vl (e 0) r8.2).bind fun r9 =>
 (bo P .lss 2 (.tmp 33) (.const (.int .i64 0)) r9.1 (.int .i64 0) r9.2).bind fun r10 =>
 AK r10.1 (
 (ia P 119 (e 5) (.int .i64 0) r10.2).bind fun r11 =>
 (st P 5 r11.1 (.int .u8 45) r11.2).bind fun r12 =>
 (vl r3.1 r12.2).bind fun r13 =>
 (bo P .add 3 (.const (.int .i64 1)) (.tmp 36) (.int .i64 1) r13.1 r13.2).bind fun r14 =>
 (sl P 119 (e 5) none (some r14.1) none r14.2).bind fun r15 =>
 (cv P 22 9 r15.1 r15.2).bind fun r16 =>
 (vl r16.1 r16.2).bind fun r17 =>
 some (r17.1, r17.2)) (
 (vl r3.1 r10.2).bind fun r18 =>
 (bo P .add 3 (.const (.int .i64 1)) (.tmp 40) (.int .i64 1) r18.1 r18.2).bind fun r19 =>
 (sl P 119 (e 5) (some (.int .i64 1)) (some r19.1) none r19.2).bind fun r20 =>
 (cv P 22 9 r20.1 r20.2).bind fun r21 =>
 (vl r21.1 r21.2).bind fun r22 =>
 some (r22.1, r22.2)) := by kernel_rfl
theorem EA (x0 x1 : Value) (w : World) : Bq P (EV P) 59 #[x0, x1] w =
 (vl (Go.Value.string { data := #[] }) w).bind fun r1 =>
 (vl x1 r1.2).bind fun r2 =>
 (bo P .eql 3 (.tmp 10) (.const (.int .i64 10)) r2.1 (.int .i64 10) r2.2).bind fun r3 =>
 AK r3.1 (
 (vl x0 r3.2).bind fun r4 =>
 (bo P .leq 2 (.const (.int .i64 0)) (.tmp 12) (.int .i64 0) r4.1 r4.2).bind fun r5 =>
 (vl r5.1 r5.2).bind fun r6 =>
 (Am r6.1 true (vl x0 r6.2) r6.2).bind fun r7 =>
 (Am r6.1 true (bo P .lss 2 (.tmp 15) (.const (.int .i64 100)) r7.1 (.int .i64 100) r7.2) r7.2).bind fun r8 =>
 (Ax r6.1 r8.1 (.bool false) r8.2).bind fun r9 =>
 AK r9.1 (
 (vl x0 r9.2).bind fun r10 =>
 (EV P 69 #[r10.1] r10.2).bind fun r11 =>
 (vl r11.1 r11.2).bind fun r12 =>
 some (r12.1, r12.2)) (
 (al P 119 r9.2).bind fun r13 =>
 (vl x0 r13.2).bind fun r14 =>
 (cv P 2 120 r14.1 r14.2).bind fun r15 =>
 (vl r15.1 r15.2).bind fun r16 =>
 (vl x0 r16.2).bind fun r17 =>
 (bo P .lss 2 (.tmp 22) (.const (.int .i64 0)) r17.1 (.int .i64 0) r17.2).bind fun r18 =>
 AK r18.1 (
 (vl r16.1 r18.2).bind fun r19 =>
 (uo P .neg r19.1 r19.2).bind fun r20 =>
 (vl r20.1 r20.2).bind fun r21 =>
 BE (AG (AL #[x0, x1]) [(4, r1.1), (10, r2.1), (11, r3.1), (12, r4.1), (13, r5.1), (14, r6.1), (15, r7.1), (16, r8.1), (17, r9.1), (5, r13.1), (20, r14.1), (21, r15.1), (6, r16.1), (22, r17.1), (23, r18.1), (24, r19.1), (25, r20.1), (6, r21.1)]) r21.2) (
 BE (AG (AL #[x0, x1]) [(4, r1.1), (10, r2.1), (11, r3.1), (12, r4.1), (13, r5.1), (14, r6.1), (15, r7.1), (16, r8.1), (17, r9.1), (5, r13.1), (20, r14.1), (21, r15.1), (6, r16.1), (22, r17.1), (23, r18.1)]) r18.2))) (
 (vl x0 r3.2).bind fun r22 =>
 (cv P 2 120 r22.1 r22.2).bind fun r23 =>
 (vl x1 r23.2).bind fun r24 =>
 (vl x0 r24.2).bind fun r25 =>
 (bo P .lss 2 (.tmp 48) (.const (.int .i64 0)) r25.1 (.int .i64 0) r25.2).bind fun r26 =>
 (EV P 72 #[(Go.Value.slice none 0 0), r23.1, r24.1, r26.1, (.bool false)] r26.2).bind fun r27 =>
 (vl r27.1 r27.2).bind fun r28 =>
 (xt P r28.1 0 r28.2).bind fun r29 =>
 (xt P r28.1 1 r29.2).bind fun r30 =>
 (vl r29.1 r30.2).bind fun r31 =>
 (vl r30.1 r31.2).bind fun r32 =>
 (vl r32.1 r32.2).bind fun r33 =>
 (vl r33.1 r33.2).bind fun r34 =>
 some (r34.1, r34.2)) := by kernel_rfl
noncomputable def EB (e : Env) (w : World) : Option (Value × World) := BB P (EV P) 60 143 (.loop (cA (cA (cA (cB (cB (cB (cB (cB (cB (cB (cB (Af P 60))))))))))))) e w (An 1 (AB P (EV P) 60 143 (cB (cB (cB (cB (cB (cB (cB (cB (cB (Af P 60)))))))))) (Bl P (AA P 60))))
theorem EC (x0 x1 : Value) (w : World) : Bq P (EV P) 60 #[x0, x1] w =
 (vl (.int .i64 0) w).bind fun r1 =>
 (vl x1 r1.2).bind fun r2 =>
 (Au P #[9] 3 #[r2.1] r2.2).bind fun r3 =>
 (vl r3.1 r3.2).bind fun r4 =>
 (vl r4.1 r4.2).bind fun r5 =>
 (bo P .eql 3 (.tmp 17) (.const (.int .i64 0)) r5.1 (.int .i64 0) r5.2).bind fun r6 =>
 (vl r6.1 r6.2).bind fun r7 =>
 (Am r7.1 false (vl x1 r7.2) r7.2).bind fun r8 =>
 (Am r7.1 false (vl x0 r8.2) r8.2).bind fun r9 =>
 (Am r7.1 false (bo P .eql 9 (.tmp 20) (.tmp 21) r8.1 r9.1 r9.2) r9.2).bind fun r10 =>
 (Ax r7.1 (.bool true) r10.1 r10.2).bind fun r11 =>
 (vl r11.1 r11.2).bind fun r12 =>
 AK r12.1 (
 (vl (.int .i64 0) r12.2).bind fun r13 =>
 some (r13.1, r13.2)) (
 (vl r4.1 r12.2).bind fun r14 =>
 (bo P .eql 3 (.tmp 25) (.const (.int .i64 1)) r14.1 (.int .i64 1) r14.2).bind fun r15 =>
 (vl r15.1 r15.2).bind fun r16 =>
 AK r16.1 (
 (vl x0 r16.2).bind fun r17 =>
 (vl x1 r17.2).bind fun r18 =>
 (ix P 9 r18.1 (.int .i64 0) r18.2).bind fun r19 =>
 (EV P 73 #[r17.1, r19.1] r19.2).bind fun r20 =>
 (vl r20.1 r20.2).bind fun r21 =>
 some (r21.1, r21.2)) (
 (vl r4.1 r16.2).bind fun r22 =>
 (vl x0 r22.2).bind fun r23 =>
 (Au P #[9] 3 #[r23.1] r23.2).bind fun r24 =>
 (bo P .geq 3 (.tmp 32) (.tmp 34) r22.1 r24.1 r24.2).bind fun r25 =>
 (vl r25.1 r25.2).bind fun r26 =>
 AK r26.1 (
 (vl (.int .i64 (-1)) r26.2).bind fun r27 =>
 some (r27.1, r27.2)) (
 (vl r4.1 r26.2).bind fun r28 =>
 (ld P 3 (.pointer (some ⟨0, 0, none⟩)) r28.2).bind fun r29 =>
 (bo P .leq 3 (.tmp 37) (.tmp 38) r28.1 r29.1 r29.2).bind fun r30 =>
 (vl r30.1 r30.2).bind fun r31 =>
 (Am r31.1 true (vl x0 r31.2) r31.2).bind fun r32 =>
 (Am r31.1 true (Au P #[9] 3 #[r32.1] r32.2) r32.2).bind fun r33 =>
 (Am r31.1 true (bo P .leq 3 (.tmp 42) (.const (.int .i64 64)) r33.1 (.int .i64 64) r33.2) r33.2).bind fun r34 =>
 (Ax r31.1 r34.1 (.bool false) r34.2).bind fun r35 =>
 (vl r35.1 r35.2).bind fun r36 =>
 AK r36.1 (
 (vl x0 r36.2).bind fun r37 =>
 (vl x1 r37.2).bind fun r38 =>
 (xf P 74 #[r37.1, r38.1] r38.2).bind fun r39 =>
 (vl r39.1 r39.2).bind fun r40 =>
 some (r40.1, r40.2)) (
 (vl x1 r36.2).bind fun r41 =>
 (ix P 9 r41.1 (.int .i64 0) r41.2).bind fun r42 =>
 (vl r42.1 r42.2).bind fun r43 =>
 (vl x1 r43.2).bind fun r44 =>
 (ix P 9 r44.1 (.int .i64 1) r44.2).bind fun r45 =>
 (vl r45.1 r45.2).bind fun r46 =>
 (vl (.int .i64 0) r46.2).bind fun r47 =>
 (vl x0 r47.2).bind fun r48 =>
 (Au P #[9] 3 #[r48.1] r48.2).bind fun r49 =>
 (vl r4.1 r49.2).bind fun r50 =>
 (bo P .sub 3 (.tmp 53) (.tmp 54) r49.1 r50.1 r50.2).bind fun r51 =>
 (bo P .add 3 (.tmp 55) (.const (.int .i64 1)) r51.1 (.int .i64 1) r51.2).bind fun r52 =>
 (vl r52.1 r52.2).bind fun r53 =>
 (vl (.int .i64 0) r53.2).bind fun r54 =>
 EB (AG (AL #[x0, x1]) [(4, r1.1), (14, r2.1), (15, r3.1), (5, r4.1), (17, r5.1), (18, r6.1), (19, r7.1), (20, r8.1), (21, r9.1), (22, r10.1), (23, r11.1), (16, r12.1), (25, r14.1), (26, r15.1), (24, r16.1), (32, r22.1), (33, r23.1), (34, r24.1), (35, r25.1), (31, r26.1), (37, r28.1), (38, r29.1), (39, r30.1), (40, r31.1), (41, r32.1), (42, r33.1), (43, r34.1), (44, r35.1), (36, r36.1), (48, r41.1), (49, r42.1), (6, r43.1), (50, r44.1), (51, r45.1), (7, r46.1), (8, r47.1), (52, r48.1), (53, r49.1), (54, r50.1), (55, r51.1), (56, r52.1), (9, r53.1), (10, r54.1)]) r54.2)))) := by kernel_rfl
noncomputable def CU (e : Env) (w : World) : Option (Value × World) := BB P (EV P) 61 66 (cB (cB (cB (cB (Af P 61))))) e w (Bl P (AA P 61))
noncomputable def B7 (e : Env) (w : World) : Option (Value × World) := BB P (EV P) 61 66 (.loop (cA (cA (cA (cB (cB (cB (cB (cB (cB (cB (cB (Af P 61))))))))))))) e w (An 0 (AB P (EV P) 61 66 (cB (cB (cB (cB (cB (cB (cB (cB (cB (Af P 61)))))))))) (Bl P (AA P 61))))
noncomputable def B8 (e : Env) (w : World) : Option (Value × World) := BB P (EV P) 61 66 (cB (cB (cB (cB (cB (cB (cB (cB (cB (Af P 61)))))))))) e w (Bl P (AA P 61))
theorem GV (e : Env) (w : World) : CU e w =
 (vl (e 3) w).bind fun r1 =>
 (vl (e 0) r1.2).bind fun r2 =>
 (Au P #[9] 3 #[r2.1] r2.2).bind fun r3 =>
 (bo P .add 3 (.tmp 27) (.const (.int .i64 1)) r3.1 (.int .i64 1) r3.2).bind fun r4 =>
 (QF P #[3, 3] 3 #[r1.1, r4.1] r4.2).bind fun r5 =>
 (vl r5.1 r5.2).bind fun r6 =>
 (vl r6.1 r6.2).bind fun r7 =>
 (ms P 47 r7.1 r7.1 r7.2).bind fun r8 =>
 (vl r8.1 r8.2).bind fun r9 =>
 (vl r6.1 r9.2).bind fun r10 =>
 (bo P .sub 3 (.tmp 32) (.const (.int .i64 1)) r10.1 (.int .i64 1) r10.2).bind fun r11 =>
 (vl r11.1 r11.2).bind fun r12 =>
 (vl (.int .i64 0) r12.2).bind fun r13 =>
 B7 (AG e [(25, r1.1), (26, r2.1), (27, r3.1), (28, r4.1), (29, r5.1), (3, r6.1), (30, r7.1), (31, r8.1), (9, r9.1), (32, r10.1), (33, r11.1), (3, r12.1), (10, r13.1)]) r13.2 := by kernel_rfl
theorem DF (e : Env) (w : World) : B7 e w =
 (vl (e 10) w).bind fun r1 =>
 (vl (e 3) r1.2).bind fun r2 =>
 (bo P .lss 3 (.tmp 34) (.tmp 35) r1.1 r2.1 r2.2).bind fun r3 =>
 AK r3.1 (
 (vl (e 0) r3.2).bind fun r4 =>
 (vl (e 1) r4.2).bind fun r5 =>
 (EV P 79 #[r4.1, r5.1] r5.2).bind fun r6 =>
 (vl r6.1 r6.2).bind fun r7 =>
 (vl r7.1 r7.2).bind fun r8 =>
 (bo P .lss 3 (.tmp 40) (.const (.int .i64 0)) r8.1 (.int .i64 0) r8.2).bind fun r9 =>
 AK r9.1 (
 B8 (AG e [(34, r1.1), (35, r2.1), (36, r3.1), (37, r4.1), (38, r5.1), (39, r6.1), (11, r7.1), (40, r8.1), (41, r9.1)]) r9.2) (
 (vl (e 9) r9.2).bind fun r10 =>
 (vl (e 10) r10.2).bind fun r11 =>
 (vl (e 0) r11.2).bind fun r12 =>
 (vl r7.1 r12.2).bind fun r13 =>
 (vl (e 2) r13.2).bind fun r14 =>
 (bo P .add 3 (.tmp 45) (.tmp 46) r13.1 r14.1 r14.2).bind fun r15 =>
 (sl P 9 r12.1 none (some r15.1) none r15.2).bind fun r16 =>
 (ia P 47 r10.1 r11.1 r16.2).bind fun r17 =>
 (st P 9 r17.1 r16.1 r17.2).bind fun r18 =>
 (vl (e 0) r18.2).bind fun r19 =>
 (vl r7.1 r19.2).bind fun r20 =>
 (vl (e 1) r20.2).bind fun r21 =>
 (Au P #[9] 3 #[r21.1] r21.2).bind fun r22 =>
 (bo P .add 3 (.tmp 51) (.tmp 53) r20.1 r22.1 r22.2).bind fun r23 =>
 (sl P 9 r19.1 (some r23.1) none none r23.2).bind fun r24 =>
 (vl r24.1 r24.2).bind fun r25 =>
 (vl (e 10) r25.2).bind fun r26 =>
 (bo P .add 3 (.tmp 56) (.const (.int .i64 1)) r26.1 (.int .i64 1) r26.2).bind fun r27 =>
 (vl r27.1 r27.2).bind fun r28 =>
 B7 (AG e [(34, r1.1), (35, r2.1), (36, r3.1), (37, r4.1), (38, r5.1), (39, r6.1), (11, r7.1), (40, r8.1), (41, r9.1), (42, r10.1), (43, r11.1), (44, r12.1), (45, r13.1), (46, r14.1), (47, r15.1), (48, r16.1), (49, r17.1), (50, r19.1), (51, r20.1), (52, r21.1), (53, r22.1), (54, r23.1), (55, r24.1), (0, r25.1), (56, r26.1), (57, r27.1), (10, r28.1)]) r28.2)) (
 B8 (AG e [(34, r1.1), (35, r2.1), (36, r3.1)]) r3.2) := (AD P (EV P) 61 66 (cA (cA (cA (cB (cB (cB (cB (cB (cB (cB (cB (Af P 61)))))))))))) e w (An 0 (AB P (EV P) 61 66 (cB (cB (cB (cB (cB (cB (cB (cB (cB (Af P 61)))))))))) (Bl P (AA P 61))))).trans (by kernel_rfl)
theorem GW (e : Env) (w : World) : B8 e w =
 (vl (e 9) w).bind fun r1 =>
 (vl (e 10) r1.2).bind fun r2 =>
 (vl (e 0) r2.2).bind fun r3 =>
 (ia P 47 r1.1 r2.1 r3.2).bind fun r4 =>
 (st P 9 r4.1 r3.1 r4.2).bind fun r5 =>
 (vl (e 9) r5.2).bind fun r6 =>
 (vl (e 10) r6.2).bind fun r7 =>
 (bo P .add 3 (.tmp 63) (.const (.int .i64 1)) r7.1 (.int .i64 1) r7.2).bind fun r8 =>
 (sl P 47 r6.1 none (some r8.1) none r8.2).bind fun r9 =>
 (vl r9.1 r9.2).bind fun r10 =>
 some (r10.1, r10.2) := by kernel_rfl
theorem HZ (x0 x1 x2 x3 : Value) (w : World) : Bq P (EV P) 61 #[x0, x1, x2, x3] w =
 (vl (Go.Value.slice none 0 0) w).bind fun r1 =>
 (vl x3 r1.2).bind fun r2 =>
 (bo P .eql 3 (.tmp 12) (.const (.int .i64 0)) r2.1 (.int .i64 0) r2.2).bind fun r3 =>
 AK r3.1 (
 (vl (Go.Value.slice none 0 0) r3.2).bind fun r4 =>
 some (r4.1, r4.2)) (
 (vl x1 r3.2).bind fun r5 =>
 (bo P .eql 9 (.tmp 14) (.const (Go.Value.string { data := #[] })) r5.1 (Go.Value.string { data := #[] }) r5.2).bind fun r6 =>
 AK r6.1 (
 (vl x0 r6.2).bind fun r7 =>
 (vl x3 r7.2).bind fun r8 =>
 (EV P 77 #[r7.1, r8.1] r8.2).bind fun r9 =>
 (vl r9.1 r9.2).bind fun r10 =>
 some (r10.1, r10.2)) (
 (vl x3 r6.2).bind fun r11 =>
 (bo P .lss 3 (.tmp 19) (.const (.int .i64 0)) r11.1 (.int .i64 0) r11.2).bind fun r12 =>
 AK r12.1 (
 (vl x0 r12.2).bind fun r13 =>
 (vl x1 r13.2).bind fun r14 =>
 (EV P 78 #[r13.1, r14.1] r14.2).bind fun r15 =>
 (bo P .add 3 (.tmp 23) (.const (.int .i64 1)) r15.1 (.int .i64 1) r15.2).bind fun r16 =>
 (vl r16.1 r16.2).bind fun r17 =>
 CU (AG (AL #[x0, x1, x2, x3]) [(8, r1.1), (12, r2.1), (13, r3.1), (14, r5.1), (15, r6.1), (19, r11.1), (20, r12.1), (21, r13.1), (22, r14.1), (23, r15.1), (24, r16.1), (3, r17.1)]) r17.2) (
 CU (AG (AL #[x0, x1, x2, x3]) [(8, r1.1), (12, r2.1), (13, r3.1), (14, r5.1), (15, r6.1), (19, r11.1), (20, r12.1)]) r12.2))) := by kernel_rfl
noncomputable def Bh (e : Env) (w : World) : Option (Value × World) := BB P (EV P) 62 77 (cB (cB (cA (cB (cA (cB (cB (Af P 62)))))))) e w (AB P (EV P) 62 77 (cB (cB (cB (Af P 62)))) (Bl P (AA P 62)))
noncomputable def BD (e : Env) (w : World) : Option (Value × World) := BB P (EV P) 62 77 (.loop (cA (cA (cB (cA (cB (cB (cB (cA (cB (cA (cB (cB (Af P 62)))))))))))))) e w (An 0 (AB P (EV P) 62 77 (cB (cB (cB (cB (cA (cB (cA (cB (cB (Af P 62)))))))))) (AB P (EV P) 62 77 (cB (cB (cB (Af P 62)))) (Bl P (AA P 62)))))
noncomputable def BW (e : Env) (w : World) : Option (Value × World) := BB P (EV P) 62 77 (cB (cB (cB (cB (cB (cA (cB (cA (cB (cB (Af P 62))))))))))) e w (AB P (EV P) 62 77 (cB (cB (cB (Af P 62)))) (Bl P (AA P 62)))
theorem E7 (e : Env) (w : World) : Bh e w =
 (vl (.int .i64 0) w).bind fun r1 =>
 (vl (e 0) r1.2).bind fun r2 =>
 (cv P 9 22 r2.1 r2.2).bind fun r3 =>
 (Au P #[22] 3 #[r3.1] r3.2).bind fun r4 =>
 (vl (.int .i64 0) r4.2).bind fun r5 =>
 BD (AG e [(6, r1.1), (46, r2.1), (47, r3.1), (48, r4.1), (49, r5.1)]) r5.2 := by kernel_rfl
theorem Cx (e : Env) (w : World) : BD e w =
 (bo P .lss 3 (.tmp 49) (.tmp 48) (e 49) (e 48) w).bind fun r1 =>
 AK r1.1 (
 (ia P 22 (e 47) (e 49) r1.2).bind fun r2 =>
 (ld P 5 r2.1 r2.2).bind fun r3 =>
 (vl r3.1 r3.2).bind fun r4 =>
 (vl r4.1 r4.2).bind fun r5 =>
 (bo P .sub 5 (.tmp 53) (.const (.int .u8 48)) r5.1 (.int .u8 48) r5.2).bind fun r6 =>
 (vl r6.1 r6.2).bind fun r7 =>
 (vl r7.1 r7.2).bind fun r8 =>
 (bo P .gtr 5 (.tmp 55) (.const (.int .u8 9)) r8.1 (.int .u8 9) r8.2).bind fun r9 =>
 AK r9.1 (
 (mi P 128 (.int .i64 2) r9.2).bind fun r10 =>
 (vl (.int .i64 0) r10.2).bind fun r11 =>
 (vl r10.1 r11.2).bind fun r12 =>
 some (.tuple #[r11.1, r12.1], r12.2)) (
 (vl (e 6) r9.2).bind fun r13 =>
 (bo P .mul 3 (.tmp 58) (.const (.int .i64 10)) r13.1 (.int .i64 10) r13.2).bind fun r14 =>
 (vl r7.1 r14.2).bind fun r15 =>
 (cv P 5 3 r15.1 r15.2).bind fun r16 =>
 (bo P .add 3 (.tmp 59) (.tmp 61) r14.1 r16.1 r16.2).bind fun r17 =>
 (vl r17.1 r17.2).bind fun r18 =>
 (bo P .add 3 (.tmp 49) (.const (.int .i64 1)) (e 49) (.int .i64 1) r18.2).bind fun r19 =>
 (vl r19.1 r19.2).bind fun r20 =>
 BD (AG e [(50, r1.1), (51, r2.1), (52, r3.1), (8, r4.1), (53, r5.1), (54, r6.1), (8, r7.1), (55, r8.1), (56, r9.1), (58, r13.1), (59, r14.1), (60, r15.1), (61, r16.1), (62, r17.1), (6, r18.1), (63, r19.1), (49, r20.1)]) r20.2)) (
 (vl (e 5) r1.2).bind fun r21 =>
 (ix P 9 r21.1 (.int .i64 0) r21.2).bind fun r22 =>
 (bo P .eql 5 (.tmp 65) (.const (.int .u8 45)) r22.1 (.int .u8 45) r22.2).bind fun r23 =>
 AK r23.1 (
 (vl (e 6) r23.2).bind fun r24 =>
 (uo P .neg r24.1 r24.2).bind fun r25 =>
 (vl r25.1 r25.2).bind fun r26 =>
 BW (AG e [(50, r1.1), (64, r21.1), (65, r22.1), (66, r23.1), (67, r24.1), (68, r25.1), (6, r26.1)]) r26.2) (
 BW (AG e [(50, r1.1), (64, r21.1), (65, r22.1), (66, r23.1)]) r23.2)) := (AD P (EV P) 62 77 (cA (cA (cB (cA (cB (cB (cB (cA (cB (cA (cB (cB (Af P 62))))))))))))) e w (An 0 (AB P (EV P) 62 77 (cB (cB (cB (cB (cA (cB (cA (cB (cB (Af P 62)))))))))) (AB P (EV P) 62 77 (cB (cB (cB (Af P 62)))) (Bl P (AA P 62)))))).trans (by kernel_rfl)
theorem Cy (e : Env) (w : World) : BW e w =
 (vl (e 6) w).bind fun r1 =>
 (vl r1.1 r1.2).bind fun r2 =>
 (vl Go.Value.nilIface r2.2).bind fun r3 =>
 some (.tuple #[r2.1, r3.1], r3.2) := by kernel_rfl
theorem Gg (x0 : Value) (w : World) : Bq P (EV P) 62 #[x0] w =
 (vl (.int .i64 0) w).bind fun r1 =>
 (vl Go.Value.nilIface r1.2).bind fun r2 =>
 (vl x0 r2.2).bind fun r3 =>
 (Au P #[9] 3 #[r3.1] r3.2).bind fun r4 =>
 (vl r4.1 r4.2).bind fun r5 =>
 (vl (.bool false) r5.2).bind fun r6 =>
 (Am r6.1 true (vl r5.1 r6.2) r6.2).bind fun r7 =>
 (Am r6.1 true (bo P .lss 3 (.const (.int .i64 0)) (.tmp 14) (.int .i64 0) r7.1 r7.2) r7.2).bind fun r8 =>
 (Am r6.1 true (vl r8.1 r8.2) r8.2).bind fun r9 =>
 (Am r9.1 true (vl r5.1 r9.2) r9.2).bind fun r10 =>
 (Am r9.1 true (bo P .lss 3 (.tmp 17) (.const (.int .i64 10)) r10.1 (.int .i64 10) r10.2) r10.2).bind fun r11 =>
 (Am r6.1 true (Ax r9.1 r11.1 (.bool false) r11.2) r11.2).bind fun r12 =>
 (Ax r6.1 r12.1 (.bool false) r12.2).bind fun r13 =>
 (vl r13.1 r13.2).bind fun r14 =>
 (Am r14.1 false (vl (.bool true) r14.2) r14.2).bind fun r15 =>
 (Am r15.1 true (vl r5.1 r15.2) r15.2).bind fun r16 =>
 (Am r15.1 true (bo P .lss 3 (.const (.int .i64 0)) (.tmp 23) (.int .i64 0) r16.1 r16.2) r16.2).bind fun r17 =>
 (Am r15.1 true (vl r17.1 r17.2) r17.2).bind fun r18 =>
 (Am r18.1 true (vl r5.1 r18.2) r18.2).bind fun r19 =>
 (Am r18.1 true (bo P .lss 3 (.tmp 26) (.const (.int .i64 19)) r19.1 (.int .i64 19) r19.2) r19.2).bind fun r20 =>
 (Am r15.1 true (Ax r18.1 r20.1 (.bool false) r20.2) r20.2).bind fun r21 =>
 (Am r14.1 false (Ax r15.1 r21.1 (.bool false) r21.2) r21.2).bind fun r22 =>
 (Ax r14.1 (.bool true) r22.1 r22.2).bind fun r23 =>
 AK r23.1 (
 (vl x0 r23.2).bind fun r24 =>
 (vl r24.1 r24.2).bind fun r25 =>
 (vl x0 r25.2).bind fun r26 =>
 (ix P 9 r26.1 (.int .i64 0) r26.2).bind fun r27 =>
 (bo P .eql 5 (.tmp 33) (.const (.int .u8 45)) r27.1 (.int .u8 45) r27.2).bind fun r28 =>
 (vl r28.1 r28.2).bind fun r29 =>
 (Am r29.1 false (vl x0 r29.2) r29.2).bind fun r30 =>
 (Am r29.1 false (ix P 9 r30.1 (.int .i64 0) r30.2) r30.2).bind fun r31 =>
 (Am r29.1 false (bo P .eql 5 (.tmp 37) (.const (.int .u8 43)) r31.1 (.int .u8 43) r31.2) r31.2).bind fun r32 =>
 (Ax r29.1 (.bool true) r32.1 r32.2).bind fun r33 =>
 AK r33.1 (
 (vl x0 r33.2).bind fun r34 =>
 (sl P 9 r34.1 (some (.int .i64 1)) none none r34.2).bind fun r35 =>
 (vl r35.1 r35.2).bind fun r36 =>
 (vl r36.1 r36.2).bind fun r37 =>
 (Au P #[9] 3 #[r37.1] r37.2).bind fun r38 =>
 (bo P .lss 3 (.tmp 43) (.const (.int .i64 1)) r38.1 (.int .i64 1) r38.2).bind fun r39 =>
 AK r39.1 (
 (mi P 128 (.int .i64 2) r39.2).bind fun r40 =>
 (vl (.int .i64 0) r40.2).bind fun r41 =>
 (vl r40.1 r41.2).bind fun r42 =>
 some (.tuple #[r41.1, r42.1], r42.2)) (
 Bh (AG (AL #[x0]) [(2, r1.1), (3, r2.1), (11, r3.1), (12, r4.1), (4, r5.1), (13, r6.1), (14, r7.1), (15, r8.1), (16, r9.1), (17, r10.1), (18, r11.1), (19, r12.1), (20, r13.1), (21, r14.1), (22, r15.1), (23, r16.1), (24, r17.1), (25, r18.1), (26, r19.1), (27, r20.1), (28, r21.1), (29, r22.1), (30, r23.1), (31, r24.1), (5, r25.1), (32, r26.1), (33, r27.1), (34, r28.1), (35, r29.1), (36, r30.1), (37, r31.1), (38, r32.1), (39, r33.1), (40, r34.1), (41, r35.1), (0, r36.1), (42, r37.1), (43, r38.1), (44, r39.1)]) r39.2)) (
 Bh (AG (AL #[x0]) [(2, r1.1), (3, r2.1), (11, r3.1), (12, r4.1), (4, r5.1), (13, r6.1), (14, r7.1), (15, r8.1), (16, r9.1), (17, r10.1), (18, r11.1), (19, r12.1), (20, r13.1), (21, r14.1), (22, r15.1), (23, r16.1), (24, r17.1), (25, r18.1), (26, r19.1), (27, r20.1), (28, r21.1), (29, r22.1), (30, r23.1), (31, r24.1), (5, r25.1), (32, r26.1), (33, r27.1), (34, r28.1), (35, r29.1), (36, r30.1), (37, r31.1), (38, r32.1), (39, r33.1)]) r33.2)) (
 (vl x0 r23.2).bind fun r43 =>
 (EV P 80 #[r43.1, (.int .i64 10), (.int .i64 0)] r43.2).bind fun r44 =>
 (vl r44.1 r44.2).bind fun r45 =>
 (xt P r45.1 0 r45.2).bind fun r46 =>
 (xt P r45.1 1 r46.2).bind fun r47 =>
 (vl r46.1 r47.2).bind fun r48 =>
 (vl r47.1 r48.2).bind fun r49 =>
 (vl r48.1 r49.2).bind fun r50 =>
 (vl r49.1 r50.2).bind fun r51 =>
 (vl r50.1 r51.2).bind fun r52 =>
 (vl r51.1 r52.2).bind fun r53 =>
 some (.tuple #[r52.1, r53.1], r53.2)) := by kernel_rfl
theorem IB (x0 x1 x2 x3 x4 : Value) (w : World) : Bq P (EV P) 63 #[x0, x1, x2, x3, x4] w =
 (vl Go.Value.nilIface w).bind fun r1 =>
 (vl x4 r1.2).bind fun r2 =>
 (mi P 128 (.int .i64 2) r2.2).bind fun r3 =>
 (bo P .eql 43 (.tmp 11) (.tmp 13) r2.1 r3.1 r3.2).bind fun r4 =>
 (vl r4.1 r4.2).bind fun r5 =>
 AK r5.1 (
 (vl x0 r5.2).bind fun r6 =>
 (vl x1 r6.2).bind fun r7 =>
 (EV P 81 #[r6.1, r7.1] r7.2).bind fun r8 =>
 (mi P 131 r8.1 r8.2).bind fun r9 =>
 (vl r9.1 r9.2).bind fun r10 =>
 some (r10.1, r10.2)) (
 (mi P 128 (.int .i64 1) r5.2).bind fun r11 =>
 (bo P .eql 43 (.tmp 11) (.tmp 20) r2.1 r11.1 r11.2).bind fun r12 =>
 (vl r12.1 r12.2).bind fun r13 =>
 AK r13.1 (
 (vl x0 r13.2).bind fun r14 =>
 (vl x1 r14.2).bind fun r15 =>
 (EV P 82 #[r14.1, r15.1] r15.2).bind fun r16 =>
 (mi P 131 r16.1 r16.2).bind fun r17 =>
 (vl r17.1 r17.2).bind fun r18 =>
 some (r18.1, r18.2)) (
 (mi P 128 (.int .i64 3) r13.2).bind fun r19 =>
 (bo P .eql 43 (.tmp 11) (.tmp 27) r2.1 r19.1 r19.2).bind fun r20 =>
 (vl r20.1 r20.2).bind fun r21 =>
 AK r21.1 (
 (vl x0 r21.2).bind fun r22 =>
 (vl x1 r22.2).bind fun r23 =>
 (vl x2 r23.2).bind fun r24 =>
 (EV P 83 #[r22.1, r23.1, r24.1] r24.2).bind fun r25 =>
 (mi P 131 r25.1 r25.2).bind fun r26 =>
 (vl r26.1 r26.2).bind fun r27 =>
 some (r27.1, r27.2)) (
 (mi P 128 (.int .i64 4) r21.2).bind fun r28 =>
 (bo P .eql 43 (.tmp 11) (.tmp 35) r2.1 r28.1 r28.2).bind fun r29 =>
 (vl r29.1 r29.2).bind fun r30 =>
 AK r30.1 (
 (vl x0 r30.2).bind fun r31 =>
 (vl x1 r31.2).bind fun r32 =>
 (vl x3 r32.2).bind fun r33 =>
 (EV P 84 #[r31.1, r32.1, r33.1] r33.2).bind fun r34 =>
 (mi P 131 r34.1 r34.2).bind fun r35 =>
 (vl r35.1 r35.2).bind fun r36 =>
 some (r36.1, r36.2)) (
 (vl x4 r30.2).bind fun r37 =>
 (vl r37.1 r37.2).bind fun r38 =>
 some (r38.1, r38.2))))) := by kernel_rfl
noncomputable def Cz (e : Env) (w : World) : Option (Value × World) := BB P (EV P) 64 46 (.loop (cA (cA (cB (cA (cB (cB (cB (Af P 64))))))))) e w (An 0 (AB P (EV P) 64 46 (cB (cB (cB (cB (Af P 64))))) (Bl P (AA P 64))))
noncomputable def CA (e : Env) (w : World) : Option (Value × World) := BB P (EV P) 64 46 (cB (cB (cA (cA (cB (cA (cB (cB (cB (Af P 64)))))))))) e w (GK P (EV P) 64 46 (cA (cA (cB (cA (cB (cB (cB (Af P 64)))))))) (An 0 (AB P (EV P) 64 46 (cB (cB (cB (cB (Af P 64))))) (Bl P (AA P 64)))))
theorem ED (e : Env) (w : World) : Cz e w =
 (vl (e 11) w).bind fun r1 =>
 (vl (e 3) r1.2).bind fun r2 =>
 (bo P .lss 3 (.tmp 19) (.tmp 20) r1.1 r2.1 r2.2).bind fun r3 =>
 AK r3.1 (
 (vl (e 0) r3.2).bind fun r4 =>
 (ld P 67 (e 9) r4.2).bind fun r5 =>
 (EV P 85 #[r4.1, r5.1] r5.2).bind fun r6 =>
 (al P 118 r6.2).bind fun r7 =>
 (st P 118 r7.1 r6.1 r7.2).bind fun r8 =>
 (ld P 67 (e 9) r8.2).bind fun r9 =>
 (ld P 118 r7.1 r9.2).bind fun r10 =>
 (EV P 68 #[r9.1, r10.1] r10.2).bind fun r11 =>
 (vl r11.1 r11.2).bind fun r12 =>
 (xt P r12.1 0 r12.2).bind fun r13 =>
 (xt P r12.1 1 r13.2).bind fun r14 =>
 (al P 67 r14.2).bind fun r15 =>
 (st P 67 r15.1 r13.1 r15.2).bind fun r16 =>
 (vl r14.1 r16.2).bind fun r17 =>
 (vl r17.1 r17.2).bind fun r18 =>
 (uo P .not r18.1 r18.2).bind fun r19 =>
 (vl r19.1 r19.2).bind fun r20 =>
 (Am r20.1 true (vl (e 0) r20.2) r20.2).bind fun r21 =>
 (Am r20.1 true (EV P 25 #[r21.1, (.int .i64 6)] r21.2) r21.2).bind fun r22 =>
 (Am r20.1 true (bo P .gtr 3 (.tmp 37) (.const (.int .i64 0)) r22.1 (.int .i64 0) r22.2) r22.2).bind fun r23 =>
 (Ax r20.1 r23.1 (.bool false) r23.2).bind fun r24 =>
 AK r24.1 (
 CA (AG e [(19, r1.1), (20, r2.1), (21, r3.1), (24, r4.1), (25, r5.1), (26, r6.1), (12, r7.1), (28, r9.1), (29, r10.1), (30, r11.1), (27, r12.1), (31, r13.1), (32, r14.1), (13, r15.1), (14, r17.1), (33, r18.1), (34, r19.1), (35, r20.1), (36, r21.1), (37, r22.1), (38, r23.1), (39, r24.1)]) r24.2) (
 (ld P 67 r15.1 r24.2).bind fun r25 =>
 (st P 67 (e 9) r25.1 r25.2).bind fun r26 =>
 (vl (e 10) r26.2).bind fun r27 =>
 (ld P 118 r7.1 r27.2).bind fun r28 =>
 (bs P 81 1 #[(0, r28.1)] r28.2).bind fun r29 =>
 (Aq P #[81, 81] 81 #[r27.1, r29.1] r29.2).bind fun r30 =>
 (vl r30.1 r30.2).bind fun r31 =>
 CA (AG e [(19, r1.1), (20, r2.1), (21, r3.1), (24, r4.1), (25, r5.1), (26, r6.1), (12, r7.1), (28, r9.1), (29, r10.1), (30, r11.1), (27, r12.1), (31, r13.1), (32, r14.1), (13, r15.1), (14, r17.1), (33, r18.1), (34, r19.1), (35, r20.1), (36, r21.1), (37, r22.1), (38, r23.1), (39, r24.1), (40, r25.1), (41, r27.1), (42, r28.1), (43, r29.1), (44, r30.1), (10, r31.1)]) r31.2)) (
 (vl (e 10) r3.2).bind fun r32 =>
 (vl r32.1 r32.2).bind fun r33 =>
 some (r33.1, r33.2)) := (AD P (EV P) 64 46 (cA (cA (cB (cA (cB (cB (cB (Af P 64)))))))) e w (An 0 (AB P (EV P) 64 46 (cB (cB (cB (cB (Af P 64))))) (Bl P (AA P 64))))).trans (by kernel_rfl)
theorem Hw (e : Env) (w : World) : CA e w =
 (vl (e 11) w).bind fun r1 =>
 (bo P .add 3 (.tmp 22) (.const (.int .i64 1)) r1.1 (.int .i64 1) r1.2).bind fun r2 =>
 (vl r2.1 r2.2).bind fun r3 =>
 Cz (AG e [(22, r1.1), (23, r2.1), (11, r3.1)]) r3.2 := by kernel_rfl
theorem I1 (x0 x1 x2 x3 : Value) (w : World) : Bq P (EV P) 64 #[x0, x1, x2, x3] w =
 (vl (Go.Value.slice none 0 0) w).bind fun r1 =>
 (vl x1 r1.2).bind fun r2 =>
 (vl x2 r2.2).bind fun r3 =>
 (EV P 67 #[r2.1, r3.1] r3.2).bind fun r4 =>
 (al P 67 r4.2).bind fun r5 =>
 (st P 67 r5.1 r4.1 r5.2).bind fun r6 =>
 (bs P 81 0 #[] r6.2).bind fun r7 =>
 (vl r7.1 r7.2).bind fun r8 =>
 (vl (.int .i64 0) r8.2).bind fun r9 =>
 Cz (AG (AL #[x0, x1, x2, x3]) [(8, r1.1), (15, r2.1), (16, r3.1), (17, r4.1), (9, r5.1), (18, r7.1), (10, r8.1), (11, r9.1)]) r9.2 := by kernel_rfl
noncomputable def Hx (e : Env) (w : World) : Option (Value × World) := BB P (EV P) 65 37 (cA (cB (Af P 65))) e w (AB P (EV P) 65 37 (cB (cB (Af P 65))) (Bl P (AA P 65)))
noncomputable def CD (e : Env) (w : World) : Option (Value × World) := BB P (EV P) 65 37 (cB (cB (Af P 65))) e w (Bl P (AA P 65))
noncomputable def DG (e : Env) (w : World) : Option (Value × World) := BB P (EV P) 65 37 (.loop (cA (cA (cB (cA (cB (cB (Af P 65)))))))) e w (An 0 (AB P (EV P) 65 37 (cB (cB (cB (Af P 65)))) (Bl P (AA P 65))))
theorem IC (e : Env) (w : World) {Q : Value × World → Prop} (h :
 (Ad (fa P 102 (e 1) 0 (dw w)) fun r1 => r1.2 = (dw w) ∧
 (Ad (ld P 3 r1.1 (dw w)) fun r2 => r2.2 = (dw w) ∧
 (Ad (fa P 102 (e 1) 1 (dw w)) fun r3 => r3.2 = (dw w) ∧
 (Ad (ld P 3 r3.1 (dw w)) fun r4 => r4.2 = (dw w) ∧
 (Ad (fa P 102 (e 1) 5 (dw w)) fun r5 => r5.2 = (dw w) ∧
 (Ad (ld P 4 r5.1 (dw w)) fun r6 => r6.2 = (dw w) ∧
 (Ad (fa P 102 (e 1) 2 (dw w)) fun r7 => r7.2 = (dw w) ∧
 (Ad (ld P 98 r7.1 (dw w)) fun r8 => r8.2 = (dw w) ∧
 (Ad (fa P 102 (e 1) 3 (dw w)) fun r9 => r9.2 = (dw w) ∧
 (Ad (ld P 99 r9.1 (dw w)) fun r10 => r10.2 = (dw w) ∧
 ((Ad (EV P 86 #[r8.1] (dw w)) fun r11 => (ld P 99 r9.1 r11.2 = some (r10.1, r11.2) ∧ fa P 102 (e 1) 3 r11.2 = some (r9.1, r11.2) ∧ True ∧ True ∧ ld P 4 r5.1 r11.2 = some (r6.1, r11.2) ∧ fa P 102 (e 1) 5 r11.2 = some (r5.1, r11.2) ∧ ld P 3 r3.1 r11.2 = some (r4.1, r11.2) ∧ fa P 102 (e 1) 1 r11.2 = some (r3.1, r11.2) ∧ ld P 3 r1.1 r11.2 = some (r2.1, r11.2) ∧ fa P 102 (e 1) 0 r11.2 = some (r1.1, r11.2) ∧ True) ∧
 ((Ad (EV P 87 #[r10.1] r11.2) fun r12 => (True ∧ True ∧ True ∧ True ∧ ld P 4 r5.1 r12.2 = some (r6.1, r12.2) ∧ fa P 102 (e 1) 5 r12.2 = some (r5.1, r12.2) ∧ ld P 3 r3.1 r12.2 = some (r4.1, r12.2) ∧ fa P 102 (e 1) 1 r12.2 = some (r3.1, r12.2) ∧ ld P 3 r1.1 r12.2 = some (r2.1, r12.2) ∧ fa P 102 (e 1) 0 r12.2 = some (r1.1, r12.2) ∧ True) ∧
 (Ad (bd P 102 #[(0, r2.1), (1, r4.1), (5, r6.1), (2, r11.1), (3, r12.1)] r12.2) fun r13 => r13.2 = r12.2 ∧
 ((Ad (al P 102 r12.2) fun r14 => (bd P 102 #[(0, r2.1), (1, r4.1), (5, r6.1), (2, r11.1), (3, r12.1)] r14.2 = some (r13.1, r14.2) ∧ ld P 99 r9.1 r14.2 = some (r10.1, r14.2) ∧ fa P 102 (e 1) 3 r14.2 = some (r9.1, r14.2) ∧ ld P 98 r7.1 r14.2 = some (r8.1, r14.2) ∧ fa P 102 (e 1) 2 r14.2 = some (r7.1, r14.2) ∧ ld P 4 r5.1 r14.2 = some (r6.1, r14.2) ∧ fa P 102 (e 1) 5 r14.2 = some (r5.1, r14.2) ∧ ld P 3 r3.1 r14.2 = some (r4.1, r14.2) ∧ fa P 102 (e 1) 1 r14.2 = some (r3.1, r14.2) ∧ ld P 3 r1.1 r14.2 = some (r2.1, r14.2) ∧ fa P 102 (e 1) 0 r14.2 = some (r1.1, r14.2) ∧ True) ∧
 ((Ad (st P 102 r14.1 r13.1 r14.2) fun r15 => (True ∧ True ∧ True ∧ True ∧ True ∧ True ∧ True ∧ True ∧ True ∧ True ∧ True ∧ True) ∧
 Ad (CD (AG e [(5, r1.1), (6, r2.1), (7, r3.1), (8, r4.1), (9, r5.1), (10, r6.1), (11, r7.1), (12, r8.1), (14, r9.1), (15, r10.1), (13, r11.1), (16, r12.1), (17, r13.1), (3, r14.1)]) r15.2) Q)))))) ∧
 (Ad (al P 102 r11.2) fun r16 => (ld P 99 r9.1 r16.2 = some (r10.1, r16.2) ∧ fa P 102 (e 1) 3 r16.2 = some (r9.1, r16.2) ∧ ld P 98 r7.1 r16.2 = some (r8.1, r16.2) ∧ fa P 102 (e 1) 2 r16.2 = some (r7.1, r16.2) ∧ ld P 4 r5.1 r16.2 = some (r6.1, r16.2) ∧ fa P 102 (e 1) 5 r16.2 = some (r5.1, r16.2) ∧ ld P 3 r3.1 r16.2 = some (r4.1, r16.2) ∧ fa P 102 (e 1) 1 r16.2 = some (r3.1, r16.2) ∧ ld P 3 r1.1 r16.2 = some (r2.1, r16.2) ∧ fa P 102 (e 1) 0 r16.2 = some (r1.1, r16.2) ∧ True) ∧
 ((Ad (EV P 87 #[r10.1] r16.2) fun r17 => (True ∧ True ∧ True ∧ True ∧ ld P 4 r5.1 r17.2 = some (r6.1, r17.2) ∧ fa P 102 (e 1) 5 r17.2 = some (r5.1, r17.2) ∧ ld P 3 r3.1 r17.2 = some (r4.1, r17.2) ∧ fa P 102 (e 1) 1 r17.2 = some (r3.1, r17.2) ∧ ld P 3 r1.1 r17.2 = some (r2.1, r17.2) ∧ fa P 102 (e 1) 0 r17.2 = some (r1.1, r17.2) ∧ True) ∧
 (Ad (bd P 102 #[(0, r2.1), (1, r4.1), (5, r6.1), (2, r11.1), (3, r17.1)] r17.2) fun r18 => r18.2 = r17.2 ∧
 ((Ad (st P 102 r16.1 r18.1 r17.2) fun r19 => (True ∧ True ∧ True ∧ True ∧ True ∧ True ∧ True ∧ True ∧ True ∧ True ∧ True ∧ True) ∧
 Ad (CD (AG e [(5, r1.1), (6, r2.1), (7, r3.1), (8, r4.1), (9, r5.1), (10, r6.1), (11, r7.1), (12, r8.1), (14, r9.1), (15, r10.1), (13, r11.1), (3, r16.1), (16, r17.1), (17, r18.1)]) r19.2) Q)))))))) ∧
 (Ad (al P 102 (dw w)) fun r20 => (ld P 99 r9.1 r20.2 = some (r10.1, r20.2) ∧ fa P 102 (e 1) 3 r20.2 = some (r9.1, r20.2) ∧ ld P 98 r7.1 r20.2 = some (r8.1, r20.2) ∧ fa P 102 (e 1) 2 r20.2 = some (r7.1, r20.2) ∧ ld P 4 r5.1 r20.2 = some (r6.1, r20.2) ∧ fa P 102 (e 1) 5 r20.2 = some (r5.1, r20.2) ∧ ld P 3 r3.1 r20.2 = some (r4.1, r20.2) ∧ fa P 102 (e 1) 1 r20.2 = some (r3.1, r20.2) ∧ ld P 3 r1.1 r20.2 = some (r2.1, r20.2) ∧ fa P 102 (e 1) 0 r20.2 = some (r1.1, r20.2) ∧ True) ∧
 ((Ad (EV P 86 #[r8.1] r20.2) fun r21 => (ld P 99 r9.1 r21.2 = some (r10.1, r21.2) ∧ fa P 102 (e 1) 3 r21.2 = some (r9.1, r21.2) ∧ True ∧ True ∧ ld P 4 r5.1 r21.2 = some (r6.1, r21.2) ∧ fa P 102 (e 1) 5 r21.2 = some (r5.1, r21.2) ∧ ld P 3 r3.1 r21.2 = some (r4.1, r21.2) ∧ fa P 102 (e 1) 1 r21.2 = some (r3.1, r21.2) ∧ ld P 3 r1.1 r21.2 = some (r2.1, r21.2) ∧ fa P 102 (e 1) 0 r21.2 = some (r1.1, r21.2) ∧ True) ∧
 ((Ad (EV P 87 #[r10.1] r21.2) fun r22 => (True ∧ True ∧ True ∧ True ∧ ld P 4 r5.1 r22.2 = some (r6.1, r22.2) ∧ fa P 102 (e 1) 5 r22.2 = some (r5.1, r22.2) ∧ ld P 3 r3.1 r22.2 = some (r4.1, r22.2) ∧ fa P 102 (e 1) 1 r22.2 = some (r3.1, r22.2) ∧ ld P 3 r1.1 r22.2 = some (r2.1, r22.2) ∧ fa P 102 (e 1) 0 r22.2 = some (r1.1, r22.2) ∧ True) ∧
 (Ad (bd P 102 #[(0, r2.1), (1, r4.1), (5, r6.1), (2, r21.1), (3, r22.1)] r22.2) fun r23 => r23.2 = r22.2 ∧
 ((Ad (st P 102 r20.1 r23.1 r22.2) fun r24 => (True ∧ True ∧ True ∧ True ∧ True ∧ True ∧ True ∧ True ∧ True ∧ True ∧ True ∧ True) ∧
 Ad (CD (AG e [(5, r1.1), (6, r2.1), (7, r3.1), (8, r4.1), (9, r5.1), (10, r6.1), (11, r7.1), (12, r8.1), (14, r9.1), (15, r10.1), (3, r20.1), (13, r21.1), (16, r22.1), (17, r23.1)]) r24.2) Q)))))))))))))))))))) : Ad (Hx e w) Q := G8 (id := 1) (ops := opsOf (cA (cB (Af P 65)))) (by kernel_rfl) (by kernel_rfl) (Eq.mpr (by kernel_rfl) h)
theorem I2 (e : Env) (w : World) : CD e w =
 (vl (.int .i64 0) w).bind fun r1 =>
 DG (AG e [(4, r1.1)]) r1.2 := by kernel_rfl
theorem FJ (e : Env) (w : World) : DG e w =
 (vl (e 4) w).bind fun r1 =>
 (fa P 102 (e 1) 4 r1.2).bind fun r2 =>
 (ld P 100 r2.1 r2.2).bind fun r3 =>
 (Au P #[100] 3 #[r3.1] r3.2).bind fun r4 =>
 (bo P .lss 3 (.tmp 18) (.tmp 21) r1.1 r4.1 r4.2).bind fun r5 =>
 AK r5.1 (
 (fa P 102 (e 3) 4 (dw r5.2)).bind fun r7 =>
 Ag (r7.2 = (dw r5.2)) <|
 (ld P 100 r7.1 (dw r5.2)).bind fun r8 =>
 Ag (r8.2 = (dw r5.2)) <|
 (fa P 102 (e 1) 4 (dw r5.2)).bind fun r9 =>
 Ag (r9.2 = (dw r5.2)) <|
 (ld P 100 r9.1 (dw r5.2)).bind fun r10 =>
 Ag (r10.2 = (dw r5.2)) <|
 (vl (e 4) (dw r5.2)).bind fun r11 =>
 Ag (r11.2 = (dw r5.2)) <|
 (ia P 100 r10.1 r11.1 (dw r5.2)).bind fun r12 =>
 Ag (r12.2 = (dw r5.2)) <|
 (ld P 99 r12.1 (dw r5.2)).bind fun r13 =>
 Ag (r13.2 = (dw r5.2)) <|
 (EV P 87 #[r13.1] (dw r5.2)).bind fun r14 =>
 Ag (True ∧ True ∧ True ∧ True ∧ ld P 100 r7.1 r14.2 = some (r8.1, r14.2) ∧ fa P 102 (e 3) 4 r14.2 = some (r7.1, r14.2) ∧ True) <|
 (bs P 100 1 #[(0, r14.1)] r14.2).bind fun r15 =>
 Ag (True ∧ True ∧ True ∧ True ∧ ld P 100 r7.1 r15.2 = some (r8.1, r15.2) ∧ fa P 102 (e 3) 4 r15.2 = some (r7.1, r15.2) ∧ True) <|
 (Aq P #[100, 100] 100 #[r8.1, r15.1] r15.2).bind fun r16 =>
 Ag (True ∧ True ∧ True ∧ True ∧ True ∧ True ∧ True) <|
 (fa P 102 (e 3) 4 r16.2).bind fun r17 =>
 Ag (r17.2 = r16.2) <|
 (st P 100 r17.1 r16.1 r16.2).bind fun r18 =>
 Ag (True ∧ True ∧ True ∧ True ∧ True ∧ True ∧ True ∧ True) <|
 (vl (e 4) r18.2).bind fun r19 =>
 (bo P .add 3 (.tmp 23) (.const (.int .i64 1)) r19.1 (.int .i64 1) r19.2).bind fun r20 =>
 (vl r20.1 r20.2).bind fun r21 =>
 DG (AG e [(18, r1.1), (19, r2.1), (20, r3.1), (21, r4.1), (22, r5.1), (25, r7.1), (26, r8.1), (27, r9.1), (28, r10.1), (29, r11.1), (30, r12.1), (31, r13.1), (32, r14.1), (33, r15.1), (34, r16.1), (35, r17.1), (23, r19.1), (24, r20.1), (4, r21.1)]) r21.2) (
 (ld P 102 (e 3) r5.2).bind fun r22 =>
 (st P 102 (e 2) r22.1 r22.2).bind fun r23 =>
 ((ld P 102 (e 2) r23.2).bind fun r24 => Ag (r24.2 = r23.2) (some r24.1)).bind fun v25 =>
 some (v25, r23.2)) := (AD P (EV P) 65 37 (cA (cA (cB (cA (cB (cB (Af P 65))))))) e w (An 0 (AB P (EV P) 65 37 (cB (cB (cB (Af P 65)))) (Bl P (AA P 65))))).trans (by kernel_rfl)
theorem Lq (x0 : Value) (w : World) : Bq P (EV P) 65 #[x0] w =
 (bx P 102 x0 w).bind fun r1 =>
 (al P 102 r1.2).bind fun r2 =>
 Hx (AG (AL #[x0]) [(1, r1.1), (2, r2.1)]) r2.2 := by kernel_rfl
theorem Lr (x0 : Value) (w : World) : Bq P (EV P) 66 #[x0] w =
 (bx P 110 x0 w).bind fun r1 =>
 (al P 110 r1.2).bind fun r2 =>
 (bs P 104 0 #[] r2.2).bind fun r3 =>
 (fa P 110 r1.1 2 r3.2).bind fun r4 =>
 (fa P 106 r4.1 0 r4.2).bind fun r5 =>
 (ld P 104 r5.1 r5.2).bind fun r6 =>
 (Aq P #[104, 104] 104 #[r3.1, r6.1] r6.2).bind fun r7 =>
 (bd P 106 #[(0, r7.1)] r7.2).bind fun r8 =>
 (fa P 110 r1.1 2 r8.2).bind fun r9 =>
 (st P 106 r9.1 r8.1 r9.2).bind fun r10 =>
 (ld P 110 r1.1 r10.2).bind fun r11 =>
 (st P 110 r2.1 r11.1 r11.2).bind fun r12 =>
 ((ld P 110 r2.1 r12.2).bind fun r13 => Ag (r13.2 = r12.2) (some r13.1)).bind fun v14 =>
 some (v14, r12.2) := by kernel_rfl
noncomputable def Ep (e : Env) (w : World) : Option (Value × World) := BB P (EV P) 67 36 (.loop (cA (cA (cB (cA (cB (cB (Af P 67)))))))) e w (An 0 (AB P (EV P) 67 36 (cB (cB (cB (Af P 67)))) (Bl P (AA P 67))))
noncomputable def Er (e : Env) (w : World) : Option (Value × World) := BB P (EV P) 67 36 (.loop (cA (cA (cB (cA (cB (cB (cB (Af P 67))))))))) e w (An 2 (AB P (EV P) 67 36 (cB (cB (cB (cB (Af P 67))))) (Bl P (AA P 67))))
theorem Gx (e : Env) (w : World) : Ep e w =
 (vl (e 6) w).bind fun r1 =>
 (bo P .lss 3 (.tmp 9) (.const (.int .i64 3)) r1.1 (.int .i64 3) r1.2).bind fun r2 =>
 AK r2.1 (
 (fa P 67 (e 5) 0 (dw r2.2)).bind fun r4 =>
 Ag (r4.2 = (dw r2.2)) <|
 (ld P 63 r4.1 (dw r2.2)).bind fun r5 =>
 Ag (r5.2 = (dw r2.2)) <|
 (vl (e 6) (dw r2.2)).bind fun r6 =>
 Ag (r6.2 = (dw r2.2)) <|
 (vl (e 0) (dw r2.2)).bind fun r7 =>
 Ag (r7.2 = (dw r2.2)) <|
 (EV P 88 #[r6.1, r7.1] (dw r2.2)).bind fun r8 =>
 Ag (ld P 63 r4.1 r8.2 = some (r5.1, r8.2) ∧ fa P 67 (e 5) 0 r8.2 = some (r4.1, r8.2) ∧ True) <|
 (bs P 63 1 #[(0, r8.1)] r8.2).bind fun r9 =>
 Ag (ld P 63 r4.1 r9.2 = some (r5.1, r9.2) ∧ fa P 67 (e 5) 0 r9.2 = some (r4.1, r9.2) ∧ True) <|
 (Aq P #[63, 63] 63 #[r5.1, r9.1] r9.2).bind fun r10 =>
 Ag (True ∧ True ∧ True) <|
 (fa P 67 (e 5) 0 r10.2).bind fun r11 =>
 Ag (r11.2 = r10.2) <|
 (st P 63 r11.1 r10.1 r10.2).bind fun r12 =>
 Ag (True ∧ True ∧ True ∧ True) <|
 (vl (e 6) r12.2).bind fun r13 =>
 (bo P .add 3 (.tmp 11) (.const (.int .i64 1)) r13.1 (.int .i64 1) r13.2).bind fun r14 =>
 (vl r14.1 r14.2).bind fun r15 =>
 Ep (AG e [(9, r1.1), (10, r2.1), (13, r4.1), (14, r5.1), (15, r6.1), (16, r7.1), (17, r8.1), (18, r9.1), (19, r10.1), (20, r11.1), (11, r13.1), (12, r14.1), (6, r15.1)]) r15.2) (
 (vl (.int .i64 0) r2.2).bind fun r16 =>
 Er (AG e [(9, r1.1), (10, r2.1), (7, r16.1)]) r16.2) := (AD P (EV P) 67 36 (cA (cA (cB (cA (cB (cB (Af P 67))))))) e w (An 0 (AB P (EV P) 67 36 (cB (cB (cB (Af P 67)))) (Bl P (AA P 67))))).trans (by kernel_rfl)
theorem Gy (e : Env) (w : World) : Er e w =
 (vl (e 7) w).bind fun r1 =>
 (vl (e 1) r1.2).bind fun r2 =>
 (bo P .lss 3 (.tmp 21) (.tmp 22) r1.1 r2.1 r2.2).bind fun r3 =>
 AK r3.1 (
 (fa P 67 (e 5) 1 (dw r3.2)).bind fun r5 =>
 Ag (r5.2 = (dw r3.2)) <|
 (ld P 64 r5.1 (dw r3.2)).bind fun r6 =>
 Ag (r6.2 = (dw r3.2)) <|
 (vl (e 7) (dw r3.2)).bind fun r7 =>
 Ag (r7.2 = (dw r3.2)) <|
 (bo P .rem 3 (.tmp 28) (.const (.int .i64 3)) r7.1 (.int .i64 3) (dw r3.2)).bind fun r8 =>
 Ag (r8.2 = (dw r3.2)) <|
 (EV P 89 #[] (dw r3.2)).bind fun r9 =>
 Ag (bo P .rem 3 (.tmp 28) (.const (.int .i64 3)) r7.1 (.int .i64 3) r9.2 = some (r8.1, r9.2) ∧ ld P 64 r5.1 r9.2 = some (r6.1, r9.2) ∧ fa P 67 (e 5) 1 r9.2 = some (r5.1, r9.2) ∧ True) <|
 (bd P 108 #[(0, r8.1), (1, r9.1)] r9.2).bind fun r10 =>
 Ag (r10.2 = r9.2) <|
 (bs P 64 1 #[(0, r10.1)] r9.2).bind fun r11 =>
 Ag (True ∧ True ∧ ld P 64 r5.1 r11.2 = some (r6.1, r11.2) ∧ fa P 67 (e 5) 1 r11.2 = some (r5.1, r11.2) ∧ True) <|
 (Aq P #[64, 64] 64 #[r6.1, r11.1] r11.2).bind fun r12 =>
 Ag (True ∧ True ∧ True ∧ True ∧ True) <|
 (fa P 67 (e 5) 1 r12.2).bind fun r13 =>
 Ag (r13.2 = r12.2) <|
 (st P 64 r13.1 r12.1 r12.2).bind fun r14 =>
 Ag (True ∧ True ∧ True ∧ True ∧ True ∧ True) <|
 (vl (e 7) r14.2).bind fun r15 =>
 (bo P .add 3 (.tmp 24) (.const (.int .i64 1)) r15.1 (.int .i64 1) r15.2).bind fun r16 =>
 (vl r16.1 r16.2).bind fun r17 =>
 Er (AG e [(21, r1.1), (22, r2.1), (23, r3.1), (26, r5.1), (27, r6.1), (28, r7.1), (29, r8.1), (30, r9.1), (31, r10.1), (32, r11.1), (33, r12.1), (34, r13.1), (24, r15.1), (25, r16.1), (7, r17.1)]) r17.2) (
 (ld P 67 (e 5) r3.2).bind fun r18 =>
 (st P 67 (e 4) r18.1 r18.2).bind fun r19 =>
 ((ld P 67 (e 4) r19.2).bind fun r20 => Ag (r20.2 = r19.2) (some r20.1)).bind fun v21 =>
 some (v21, r19.2)) := (AD P (EV P) 67 36 (cA (cA (cB (cA (cB (cB (cB (Af P 67)))))))) e w (An 2 (AB P (EV P) 67 36 (cB (cB (cB (cB (Af P 67))))) (Bl P (AA P 67))))).trans (by kernel_rfl)
theorem MK (x0 x1 : Value) (w : World) : Bq P (EV P) 67 #[x0, x1] w =
 (al P 67 w).bind fun r1 =>
 (bd P 67 #[] r1.2).bind fun r2 =>
 (al P 67 r2.2).bind fun r3 =>
 (st P 67 r3.1 r2.1 r3.2).bind fun r4 =>
 (vl (.int .i64 0) r4.2).bind fun r5 =>
 Ep (AG (AL #[x0, x1]) [(4, r1.1), (8, r2.1), (5, r3.1), (6, r5.1)]) r5.2 := by kernel_rfl
theorem On (x0 x1 : Value) (w : World) : Bq P (EV P) 68 #[x0, x1] w =
 (bx P 67 x0 w).bind fun r1 =>
 (bx P 118 x1 r1.2).bind fun r2 =>
 (al P 67 r2.2).bind fun r3 =>
 (vl (.bool false) r3.2).bind fun r4 =>
 (fa P 118 r2.1 0 r4.2).bind fun r5 =>
 (ld P 3 r5.1 r5.2).bind fun r6 =>
 (EV P 50 #[r6.1, (.int .i64 1), (.int .i64 5)] r6.2).bind fun r7 =>
 (vl r7.1 r7.2).bind fun r8 =>
 AK r8.1 (
 (ld P 67 r1.1 r8.2).bind fun r9 =>
 (ld P 118 r2.1 r9.2).bind fun r10 =>
 (EV P 90 #[r9.1, r10.1] r10.2).bind fun r11 =>
 (xt P r11.1 0 r11.2).bind fun r12 =>
 (xt P r11.1 1 r12.2).bind fun r13 =>
 (st P 67 r3.1 r12.1 r13.2).bind fun r14 =>
 (vl r13.1 r14.2).bind fun r15 =>
 ((ld P 67 r3.1 r15.2).bind fun r16 => Ag (r16.2 = r15.2) (some r16.1)).bind fun v17 =>
 some (.tuple #[v17, r15.1], r15.2)) (
 (fa P 118 r2.1 0 r8.2).bind fun r18 =>
 (ld P 3 r18.1 r18.2).bind fun r19 =>
 (EV P 50 #[r19.1, (.int .i64 6), (.int .i64 9)] r19.2).bind fun r20 =>
 (vl r20.1 r20.2).bind fun r21 =>
 AK r21.1 (
 (ld P 67 r1.1 r21.2).bind fun r22 =>
 (ld P 118 r2.1 r22.2).bind fun r23 =>
 (EV P 91 #[r22.1, r23.1] r23.2).bind fun r24 =>
 (xt P r24.1 0 r24.2).bind fun r25 =>
 (xt P r24.1 1 r25.2).bind fun r26 =>
 (st P 67 r3.1 r25.1 r26.2).bind fun r27 =>
 (vl r26.1 r27.2).bind fun r28 =>
 ((ld P 67 r3.1 r28.2).bind fun r29 => Ag (r29.2 = r28.2) (some r29.1)).bind fun v30 =>
 some (.tuple #[v30, r28.1], r28.2)) (
 (fa P 118 r2.1 0 r21.2).bind fun r31 =>
 (ld P 3 r31.1 r31.2).bind fun r32 =>
 (EV P 50 #[r32.1, (.int .i64 10), (.int .i64 13)] r32.2).bind fun r33 =>
 (vl r33.1 r33.2).bind fun r34 =>
 AK r34.1 (
 (ld P 67 r1.1 r34.2).bind fun r35 =>
 (ld P 118 r2.1 r35.2).bind fun r36 =>
 (EV P 92 #[r35.1, r36.1] r36.2).bind fun r37 =>
 (xt P r37.1 0 r37.2).bind fun r38 =>
 (xt P r37.1 1 r38.2).bind fun r39 =>
 (st P 67 r3.1 r38.1 r39.2).bind fun r40 =>
 (vl r39.1 r40.2).bind fun r41 =>
 ((ld P 67 r3.1 r41.2).bind fun r42 => Ag (r42.2 = r41.2) (some r42.1)).bind fun v43 =>
 some (.tuple #[v43, r41.1], r41.2)) (
 (ld P 67 r1.1 r34.2).bind fun r44 =>
 (st P 67 r3.1 r44.1 r44.2).bind fun r45 =>
 (vl (.bool false) r45.2).bind fun r46 =>
 ((ld P 67 r3.1 r46.2).bind fun r47 => Ag (r47.2 = r46.2) (some r47.1)).bind fun v48 =>
 some (.tuple #[v48, r46.1], r46.2)))) := by kernel_rfl
theorem Fy (x0 : Value) (w : World) : Bq P (EV P) 69 #[x0] w =
 (vl (Go.Value.string { data := #[] }) w).bind fun r1 =>
 (vl x0 r1.2).bind fun r2 =>
 (bo P .lss 3 (.tmp 3) (.const (.int .i64 10)) r2.1 (.int .i64 10) r2.2).bind fun r3 =>
 AK r3.1 (
 (vl x0 r3.2).bind fun r4 =>
 (vl x0 r4.2).bind fun r5 =>
 (bo P .add 3 (.tmp 6) (.const (.int .i64 1)) r5.1 (.int .i64 1) r5.2).bind fun r6 =>
 (sl P 9 (Go.Value.string { data := #[48, 49, 50, 51, 52, 53, 54, 55, 56, 57, 97, 98, 99, 100, 101, 102, 103, 104, 105, 106, 107, 108, 109, 110, 111, 112, 113, 114, 115, 116, 117, 118, 119, 120, 121, 122] }) (some r4.1) (some r6.1) none r6.2).bind fun r7 =>
 (vl r7.1 r7.2).bind fun r8 =>
 some (r8.1, r8.2)) (
 (vl x0 r3.2).bind fun r9 =>
 (bo P .mul 3 (.tmp 9) (.const (.int .i64 2)) r9.1 (.int .i64 2) r9.2).bind fun r10 =>
 (vl x0 r10.2).bind fun r11 =>
 (bo P .mul 3 (.tmp 11) (.const (.int .i64 2)) r11.1 (.int .i64 2) r11.2).bind fun r12 =>
 (bo P .add 3 (.tmp 12) (.const (.int .i64 2)) r12.1 (.int .i64 2) r12.2).bind fun r13 =>
 (sl P 9 (Go.Value.string { data := #[48, 48, 48, 49, 48, 50, 48, 51, 48, 52, 48, 53, 48, 54, 48, 55, 48, 56, 48, 57, 49, 48, 49, 49, 49, 50, 49, 51, 49, 52, 49, 53, 49, 54, 49, 55, 49, 56, 49, 57, 50, 48, 50, 49, 50, 50, 50, 51, 50, 52, 50, 53, 50, 54, 50, 55, 50, 56, 50, 57, 51, 48, 51, 49, 51, 50, 51, 51, 51, 52, 51, 53, 51, 54, 51, 55, 51, 56, 51, 57, 52, 48, 52, 49, 52, 50, 52, 51, 52, 52, 52, 53, 52, 54, 52, 55, 52, 56, 52, 57, 53, 48, 53, 49, 53, 50, 53, 51, 53, 52, 53, 53, 53, 54, 53, 55, 53, 56, 53, 57, 54, 48, 54, 49, 54, 50, 54, 51, 54, 52, 54, 53, 54, 54, 54, 55, 54, 56, 54, 57, 55, 48, 55, 49, 55, 50, 55, 51, 55, 52, 55, 53, 55, 54, 55, 55, 55, 56, 55, 57, 56, 48, 56, 49, 56, 50, 56, 51, 56, 52, 56, 53, 56, 54, 56, 55, 56, 56, 56, 57, 57, 48, 57, 49, 57, 50, 57, 51, 57, 52, 57, 53, 57, 54, 57, 55, 57, 56, 57, 57] }) (some r10.1) (some r13.1) none r13.2).bind fun r14 =>
 (vl r14.1 r14.2).bind fun r15 =>
 some (r15.1, r15.2)) := by kernel_rfl
theorem EE (x0 : Value) (w : World) : Bq P (EV P) 70 #[x0] w =
 (vl (.int .i64 0) w).bind fun r1 =>
 (vl x0 r1.2).bind fun r2 =>
 (EV P 94 #[r2.1] r2.2).bind fun r3 =>
 (EV P 93 #[r3.1] r3.2).bind fun r4 =>
 (vl r4.1 r4.2).bind fun r5 =>
 (vl r5.1 r5.2).bind fun r6 =>
 (vl x0 r6.2).bind fun r7 =>
 (vl r5.1 r7.2).bind fun r8 =>
 (ia P 140 (.pointer (some ⟨1, 0, none⟩)) r8.1 r8.2).bind fun r9 =>
 (ld P 120 r9.1 r9.2).bind fun r10 =>
 (bo P .geq 120 (.tmp 8) (.tmp 11) r7.1 r10.1 r10.2).bind fun r11 =>
 (EV P 95 #[r11.1] r11.2).bind fun r12 =>
 (bo P .add 3 (.tmp 7) (.tmp 13) r6.1 r12.1 r12.2).bind fun r13 =>
 (vl r13.1 r13.2).bind fun r14 =>
 some (r14.1, r14.2) := by kernel_rfl
noncomputable def Br (e : Env) (w : World) : Option (Value × World) := BB P (EV P) 71 167 (.loop (cA (cA (cA (cB (Af P 71)))))) e w (An 0 (AB P (EV P) 71 167 (cB (cB (Af P 71))) (Bl P (AA P 71))))
noncomputable def Bs (e : Env) (w : World) : Option (Value × World) := BB P (EV P) 71 167 (cB (cB (cB (cB (Af P 71))))) e w (Bl P (AA P 71))
noncomputable def Bt (e : Env) (w : World) : Option (Value × World) := BB P (EV P) 71 167 (cB (cB (cB (cB (cB (Af P 71)))))) e w (Bl P (AA P 71))
theorem CX (e : Env) (w : World) : Br e w =
 (vl (e 4) w).bind fun r1 =>
 (bo P .geq 3 (.tmp 19) (.const (.int .i64 8)) r1.1 (.int .i64 8) r1.2).bind fun r2 =>
 AK r2.1 (
 (vl (e 1) r2.2).bind fun r3 =>
 (bo P .rem 120 (.tmp 21) (.const (.int .u64 100000000)) r3.1 (.int .u64 100000000) r3.2).bind fun r4 =>
 (cv P 120 141 r4.1 r4.2).bind fun r5 =>
 (vl r5.1 r5.2).bind fun r6 =>
 (vl (e 1) r6.2).bind fun r7 =>
 (bo P .quo 120 (.tmp 24) (.const (.int .u64 100000000)) r7.1 (.int .u64 100000000) r7.2).bind fun r8 =>
 (vl r8.1 r8.2).bind fun r9 =>
 (vl r6.1 r9.2).bind fun r10 =>
 (bo P .quo 141 (.tmp 26) (.const (.int .u32 10000)) r10.1 (.int .u32 10000) r10.2).bind fun r11 =>
 (vl r6.1 r11.2).bind fun r12 =>
 (bo P .rem 141 (.tmp 28) (.const (.int .u32 10000)) r12.1 (.int .u32 10000) r12.2).bind fun r13 =>
 (vl r11.1 r13.2).bind fun r14 =>
 (vl r13.1 r14.2).bind fun r15 =>
 (vl r15.1 r15.2).bind fun r16 =>
 (bo P .quo 141 (.tmp 30) (.const (.int .u32 100)) r16.1 (.int .u32 100) r16.2).bind fun r17 =>
 (bo P .mul 141 (.tmp 31) (.const (.int .u32 2)) r17.1 (.int .u32 2) r17.2).bind fun r18 =>
 (vl r15.1 r18.2).bind fun r19 =>
 (bo P .rem 141 (.tmp 33) (.const (.int .u32 100)) r19.1 (.int .u32 100) r19.2).bind fun r20 =>
 (bo P .mul 141 (.tmp 34) (.const (.int .u32 2)) r20.1 (.int .u32 2) r20.2).bind fun r21 =>
 (vl r18.1 r21.2).bind fun r22 =>
 (vl r21.1 r22.2).bind fun r23 =>
 (vl r14.1 r23.2).bind fun r24 =>
 (bo P .quo 141 (.tmp 36) (.const (.int .u32 100)) r24.1 (.int .u32 100) r24.2).bind fun r25 =>
 (bo P .mul 141 (.tmp 37) (.const (.int .u32 2)) r25.1 (.int .u32 2) r25.2).bind fun r26 =>
 (vl r14.1 r26.2).bind fun r27 =>
 (bo P .rem 141 (.tmp 39) (.const (.int .u32 100)) r27.1 (.int .u32 100) r27.2).bind fun r28 =>
 (bo P .mul 141 (.tmp 40) (.const (.int .u32 2)) r28.1 (.int .u32 2) r28.2).bind fun r29 =>
 (vl r26.1 r29.2).bind fun r30 =>
 (vl r29.1 r30.2).bind fun r31 =>
 (vl (e 0) (dw r31.2)).bind fun r33 =>
 Ag (r33.2 = (dw r31.2)) <|
 (vl (e 4) (dw r31.2)).bind fun r34 =>
 Ag (r34.2 = (dw r31.2)) <|
 (bo P .sub 3 (.tmp 43) (.const (.int .i64 1)) r34.1 (.int .i64 1) (dw r31.2)).bind fun r35 =>
 Ag (r35.2 = (dw r31.2)) <|
 (vl (e 0) (dw r31.2)).bind fun r36 =>
 Ag (r36.2 = (dw r31.2)) <|
 (vl (e 4) (dw r31.2)).bind fun r37 =>
 Ag (r37.2 = (dw r31.2)) <|
 (bo P .sub 3 (.tmp 46) (.const (.int .i64 2)) r37.1 (.int .i64 2) (dw r31.2)).bind fun r38 =>
 Ag (r38.2 = (dw r31.2)) <|
 (vl r23.1 (dw r31.2)).bind fun r39 =>
 Ag (r39.2 = (dw r31.2)) <|
 (bo P .add 141 (.tmp 48) (.const (.int .u32 1)) r39.1 (.int .u32 1) (dw r31.2)).bind fun r40 =>
 Ag (r40.2 = (dw r31.2)) <|
 (ix P 9 (Go.Value.string { data := #[48, 48, 48, 49, 48, 50, 48, 51, 48, 52, 48, 53, 48, 54, 48, 55, 48, 56, 48, 57, 49, 48, 49, 49, 49, 50, 49, 51, 49, 52, 49, 53, 49, 54, 49, 55, 49, 56, 49, 57, 50, 48, 50, 49, 50, 50, 50, 51, 50, 52, 50, 53, 50, 54, 50, 55, 50, 56, 50, 57, 51, 48, 51, 49, 51, 50, 51, 51, 51, 52, 51, 53, 51, 54, 51, 55, 51, 56, 51, 57, 52, 48, 52, 49, 52, 50, 52, 51, 52, 52, 52, 53, 52, 54, 52, 55, 52, 56, 52, 57, 53, 48, 53, 49, 53, 50, 53, 51, 53, 52, 53, 53, 53, 54, 53, 55, 53, 56, 53, 57, 54, 48, 54, 49, 54, 50, 54, 51, 54, 52, 54, 53, 54, 54, 54, 55, 54, 56, 54, 57, 55, 48, 55, 49, 55, 50, 55, 51, 55, 52, 55, 53, 55, 54, 55, 55, 55, 56, 55, 57, 56, 48, 56, 49, 56, 50, 56, 51, 56, 52, 56, 53, 56, 54, 56, 55, 56, 56, 56, 57, 57, 48, 57, 49, 57, 50, 57, 51, 57, 52, 57, 53, 57, 54, 57, 55, 57, 56, 57, 57] }) r40.1 (dw r31.2)).bind fun r41 =>
 Ag (r41.2 = (dw r31.2)) <|
 (vl r23.1 (dw r31.2)).bind fun r42 =>
 Ag (r42.2 = (dw r31.2)) <|
 (ix P 9 (Go.Value.string { data := #[48, 48, 48, 49, 48, 50, 48, 51, 48, 52, 48, 53, 48, 54, 48, 55, 48, 56, 48, 57, 49, 48, 49, 49, 49, 50, 49, 51, 49, 52, 49, 53, 49, 54, 49, 55, 49, 56, 49, 57, 50, 48, 50, 49, 50, 50, 50, 51, 50, 52, 50, 53, 50, 54, 50, 55, 50, 56, 50, 57, 51, 48, 51, 49, 51, 50, 51, 51, 51, 52, 51, 53, 51, 54, 51, 55, 51, 56, 51, 57, 52, 48, 52, 49, 52, 50, 52, 51, 52, 52, 52, 53, 52, 54, 52, 55, 52, 56, 52, 57, 53, 48, 53, 49, 53, 50, 53, 51, 53, 52, 53, 53, 53, 54, 53, 55, 53, 56, 53, 57, 54, 48, 54, 49, 54, 50, 54, 51, 54, 52, 54, 53, 54, 54, 54, 55, 54, 56, 54, 57, 55, 48, 55, 49, 55, 50, 55, 51, 55, 52, 55, 53, 55, 54, 55, 55, 55, 56, 55, 57, 56, 48, 56, 49, 56, 50, 56, 51, 56, 52, 56, 53, 56, 54, 56, 55, 56, 56, 56, 57, 57, 48, 57, 49, 57, 50, 57, 51, 57, 52, 57, 53, 57, 54, 57, 55, 57, 56, 57, 57] }) r42.1 (dw r31.2)).bind fun r43 =>
 Ag (r43.2 = (dw r31.2)) <|
 (ia P 22 r33.1 r35.1 (dw r31.2)).bind fun r44 =>
 Ag (r44.2 = (dw r31.2)) <|
 (st P 5 r44.1 r41.1 (dw r31.2)).bind fun r45 =>
 Ag (True ∧ ix P 9 (Go.Value.string { data := #[48, 48, 48, 49, 48, 50, 48, 51, 48, 52, 48, 53, 48, 54, 48, 55, 48, 56, 48, 57, 49, 48, 49, 49, 49, 50, 49, 51, 49, 52, 49, 53, 49, 54, 49, 55, 49, 56, 49, 57, 50, 48, 50, 49, 50, 50, 50, 51, 50, 52, 50, 53, 50, 54, 50, 55, 50, 56, 50, 57, 51, 48, 51, 49, 51, 50, 51, 51, 51, 52, 51, 53, 51, 54, 51, 55, 51, 56, 51, 57, 52, 48, 52, 49, 52, 50, 52, 51, 52, 52, 52, 53, 52, 54, 52, 55, 52, 56, 52, 57, 53, 48, 53, 49, 53, 50, 53, 51, 53, 52, 53, 53, 53, 54, 53, 55, 53, 56, 53, 57, 54, 48, 54, 49, 54, 50, 54, 51, 54, 52, 54, 53, 54, 54, 54, 55, 54, 56, 54, 57, 55, 48, 55, 49, 55, 50, 55, 51, 55, 52, 55, 53, 55, 54, 55, 55, 55, 56, 55, 57, 56, 48, 56, 49, 56, 50, 56, 51, 56, 52, 56, 53, 56, 54, 56, 55, 56, 56, 56, 57, 57, 48, 57, 49, 57, 50, 57, 51, 57, 52, 57, 53, 57, 54, 57, 55, 57, 56, 57, 57] }) r42.1 r45.2 = some (r43.1, r45.2) ∧ True ∧ True ∧ bo P .sub 3 (.tmp 46) (.const (.int .i64 2)) r37.1 (.int .i64 2) r45.2 = some (r38.1, r45.2) ∧ True ∧ True) <|
 (ia P 22 r36.1 r38.1 r45.2).bind fun r46 =>
 Ag (r46.2 = r45.2) <|
 (st P 5 r46.1 r43.1 r45.2).bind fun r47 =>
 Ag (True ∧ True ∧ True ∧ True ∧ True ∧ True ∧ True ∧ True) <|
 (vl (e 0) (dw r47.2)).bind fun r49 =>
 Ag (r49.2 = (dw r47.2)) <|
 (vl (e 4) (dw r47.2)).bind fun r50 =>
 Ag (r50.2 = (dw r47.2)) <|
 (bo P .sub 3 (.tmp 56) (.const (.int .i64 3)) r50.1 (.int .i64 3) (dw r47.2)).bind fun r51 =>
 Ag (r51.2 = (dw r47.2)) <|
 (vl (e 0) (dw r47.2)).bind fun r52 =>
 Ag (r52.2 = (dw r47.2)) <|
 (vl (e 4) (dw r47.2)).bind fun r53 =>
 Ag (r53.2 = (dw r47.2)) <|
 (bo P .sub 3 (.tmp 59) (.const (.int .i64 4)) r53.1 (.int .i64 4) (dw r47.2)).bind fun r54 =>
 Ag (r54.2 = (dw r47.2)) <|
 (vl r22.1 (dw r47.2)).bind fun r55 =>
 Ag (r55.2 = (dw r47.2)) <|
 (bo P .add 141 (.tmp 61) (.const (.int .u32 1)) r55.1 (.int .u32 1) (dw r47.2)).bind fun r56 =>
 Ag (r56.2 = (dw r47.2)) <|
 (ix P 9 (Go.Value.string { data := #[48, 48, 48, 49, 48, 50, 48, 51, 48, 52, 48, 53, 48, 54, 48, 55, 48, 56, 48, 57, 49, 48, 49, 49, 49, 50, 49, 51, 49, 52, 49, 53, 49, 54, 49, 55, 49, 56, 49, 57, 50, 48, 50, 49, 50, 50, 50, 51, 50, 52, 50, 53, 50, 54, 50, 55, 50, 56, 50, 57, 51, 48, 51, 49, 51, 50, 51, 51, 51, 52, 51, 53, 51, 54, 51, 55, 51, 56, 51, 57, 52, 48, 52, 49, 52, 50, 52, 51, 52, 52, 52, 53, 52, 54, 52, 55, 52, 56, 52, 57, 53, 48, 53, 49, 53, 50, 53, 51, 53, 52, 53, 53, 53, 54, 53, 55, 53, 56, 53, 57, 54, 48, 54, 49, 54, 50, 54, 51, 54, 52, 54, 53, 54, 54, 54, 55, 54, 56, 54, 57, 55, 48, 55, 49, 55, 50, 55, 51, 55, 52, 55, 53, 55, 54, 55, 55, 55, 56, 55, 57, 56, 48, 56, 49, 56, 50, 56, 51, 56, 52, 56, 53, 56, 54, 56, 55, 56, 56, 56, 57, 57, 48, 57, 49, 57, 50, 57, 51, 57, 52, 57, 53, 57, 54, 57, 55, 57, 56, 57, 57] }) r56.1 (dw r47.2)).bind fun r57 =>
 Ag (r57.2 = (dw r47.2)) <|
 (vl r22.1 (dw r47.2)).bind fun r58 =>
 Ag (r58.2 = (dw r47.2)) <|
 (ix P 9 (Go.Value.string { data := #[48, 48, 48, 49, 48, 50, 48, 51, 48, 52, 48, 53, 48, 54, 48, 55, 48, 56, 48, 57, 49, 48, 49, 49, 49, 50, 49, 51, 49, 52, 49, 53, 49, 54, 49, 55, 49, 56, 49, 57, 50, 48, 50, 49, 50, 50, 50, 51, 50, 52, 50, 53, 50, 54, 50, 55, 50, 56, 50, 57, 51, 48, 51, 49, 51, 50, 51, 51, 51, 52, 51, 53, 51, 54, 51, 55, 51, 56, 51, 57, 52, 48, 52, 49, 52, 50, 52, 51, 52, 52, 52, 53, 52, 54, 52, 55, 52, 56, 52, 57, 53, 48, 53, 49, 53, 50, 53, 51, 53, 52, 53, 53, 53, 54, 53, 55, 53, 56, 53, 57, 54, 48, 54, 49, 54, 50, 54, 51, 54, 52, 54, 53, 54, 54, 54, 55, 54, 56, 54, 57, 55, 48, 55, 49, 55, 50, 55, 51, 55, 52, 55, 53, 55, 54, 55, 55, 55, 56, 55, 57, 56, 48, 56, 49, 56, 50, 56, 51, 56, 52, 56, 53, 56, 54, 56, 55, 56, 56, 56, 57, 57, 48, 57, 49, 57, 50, 57, 51, 57, 52, 57, 53, 57, 54, 57, 55, 57, 56, 57, 57] }) r58.1 (dw r47.2)).bind fun r59 =>
 Ag (r59.2 = (dw r47.2)) <|
 (ia P 22 r49.1 r51.1 (dw r47.2)).bind fun r60 =>
 Ag (r60.2 = (dw r47.2)) <|
 (st P 5 r60.1 r57.1 (dw r47.2)).bind fun r61 =>
 Ag (True ∧ ix P 9 (Go.Value.string { data := #[48, 48, 48, 49, 48, 50, 48, 51, 48, 52, 48, 53, 48, 54, 48, 55, 48, 56, 48, 57, 49, 48, 49, 49, 49, 50, 49, 51, 49, 52, 49, 53, 49, 54, 49, 55, 49, 56, 49, 57, 50, 48, 50, 49, 50, 50, 50, 51, 50, 52, 50, 53, 50, 54, 50, 55, 50, 56, 50, 57, 51, 48, 51, 49, 51, 50, 51, 51, 51, 52, 51, 53, 51, 54, 51, 55, 51, 56, 51, 57, 52, 48, 52, 49, 52, 50, 52, 51, 52, 52, 52, 53, 52, 54, 52, 55, 52, 56, 52, 57, 53, 48, 53, 49, 53, 50, 53, 51, 53, 52, 53, 53, 53, 54, 53, 55, 53, 56, 53, 57, 54, 48, 54, 49, 54, 50, 54, 51, 54, 52, 54, 53, 54, 54, 54, 55, 54, 56, 54, 57, 55, 48, 55, 49, 55, 50, 55, 51, 55, 52, 55, 53, 55, 54, 55, 55, 55, 56, 55, 57, 56, 48, 56, 49, 56, 50, 56, 51, 56, 52, 56, 53, 56, 54, 56, 55, 56, 56, 56, 57, 57, 48, 57, 49, 57, 50, 57, 51, 57, 52, 57, 53, 57, 54, 57, 55, 57, 56, 57, 57] }) r58.1 r61.2 = some (r59.1, r61.2) ∧ True ∧ True ∧ bo P .sub 3 (.tmp 59) (.const (.int .i64 4)) r53.1 (.int .i64 4) r61.2 = some (r54.1, r61.2) ∧ True ∧ True) <|
 (ia P 22 r52.1 r54.1 r61.2).bind fun r62 =>
 Ag (r62.2 = r61.2) <|
 (st P 5 r62.1 r59.1 r61.2).bind fun r63 =>
 Ag (True ∧ True ∧ True ∧ True ∧ True ∧ True ∧ True ∧ True) <|
 (vl (e 0) (dw r63.2)).bind fun r65 =>
 Ag (r65.2 = (dw r63.2)) <|
 (vl (e 4) (dw r63.2)).bind fun r66 =>
 Ag (r66.2 = (dw r63.2)) <|
 (bo P .sub 3 (.tmp 69) (.const (.int .i64 5)) r66.1 (.int .i64 5) (dw r63.2)).bind fun r67 =>
 Ag (r67.2 = (dw r63.2)) <|
 (vl (e 0) (dw r63.2)).bind fun r68 =>
 Ag (r68.2 = (dw r63.2)) <|
 (vl (e 4) (dw r63.2)).bind fun r69 =>
 Ag (r69.2 = (dw r63.2)) <|
 (bo P .sub 3 (.tmp 72) (.const (.int .i64 6)) r69.1 (.int .i64 6) (dw r63.2)).bind fun r70 =>
 Ag (r70.2 = (dw r63.2)) <|
 (vl r31.1 (dw r63.2)).bind fun r71 =>
 Ag (r71.2 = (dw r63.2)) <|
 (bo P .add 141 (.tmp 74) (.const (.int .u32 1)) r71.1 (.int .u32 1) (dw r63.2)).bind fun r72 =>
 Ag (r72.2 = (dw r63.2)) <|
 (ix P 9 (Go.Value.string { data := #[48, 48, 48, 49, 48, 50, 48, 51, 48, 52, 48, 53, 48, 54, 48, 55, 48, 56, 48, 57, 49, 48, 49, 49, 49, 50, 49, 51, 49, 52, 49, 53, 49, 54, 49, 55, 49, 56, 49, 57, 50, 48, 50, 49, 50, 50, 50, 51, 50, 52, 50, 53, 50, 54, 50, 55, 50, 56, 50, 57, 51, 48, 51, 49, 51, 50, 51, 51, 51, 52, 51, 53, 51, 54, 51, 55, 51, 56, 51, 57, 52, 48, 52, 49, 52, 50, 52, 51, 52, 52, 52, 53, 52, 54, 52, 55, 52, 56, 52, 57, 53, 48, 53, 49, 53, 50, 53, 51, 53, 52, 53, 53, 53, 54, 53, 55, 53, 56, 53, 57, 54, 48, 54, 49, 54, 50, 54, 51, 54, 52, 54, 53, 54, 54, 54, 55, 54, 56, 54, 57, 55, 48, 55, 49, 55, 50, 55, 51, 55, 52, 55, 53, 55, 54, 55, 55, 55, 56, 55, 57, 56, 48, 56, 49, 56, 50, 56, 51, 56, 52, 56, 53, 56, 54, 56, 55, 56, 56, 56, 57, 57, 48, 57, 49, 57, 50, 57, 51, 57, 52, 57, 53, 57, 54, 57, 55, 57, 56, 57, 57] }) r72.1 (dw r63.2)).bind fun r73 =>
 Ag (r73.2 = (dw r63.2)) <|
 (vl r31.1 (dw r63.2)).bind fun r74 =>
 Ag (r74.2 = (dw r63.2)) <|
 (ix P 9 (Go.Value.string { data := #[48, 48, 48, 49, 48, 50, 48, 51, 48, 52, 48, 53, 48, 54, 48, 55, 48, 56, 48, 57, 49, 48, 49, 49, 49, 50, 49, 51, 49, 52, 49, 53, 49, 54, 49, 55, 49, 56, 49, 57, 50, 48, 50, 49, 50, 50, 50, 51, 50, 52, 50, 53, 50, 54, 50, 55, 50, 56, 50, 57, 51, 48, 51, 49, 51, 50, 51, 51, 51, 52, 51, 53, 51, 54, 51, 55, 51, 56, 51, 57, 52, 48, 52, 49, 52, 50, 52, 51, 52, 52, 52, 53, 52, 54, 52, 55, 52, 56, 52, 57, 53, 48, 53, 49, 53, 50, 53, 51, 53, 52, 53, 53, 53, 54, 53, 55, 53, 56, 53, 57, 54, 48, 54, 49, 54, 50, 54, 51, 54, 52, 54, 53, 54, 54, 54, 55, 54, 56, 54, 57, 55, 48, 55, 49, 55, 50, 55, 51, 55, 52, 55, 53, 55, 54, 55, 55, 55, 56, 55, 57, 56, 48, 56, 49, 56, 50, 56, 51, 56, 52, 56, 53, 56, 54, 56, 55, 56, 56, 56, 57, 57, 48, 57, 49, 57, 50, 57, 51, 57, 52, 57, 53, 57, 54, 57, 55, 57, 56, 57, 57] }) r74.1 (dw r63.2)).bind fun r75 =>
 Ag (r75.2 = (dw r63.2)) <|
 (ia P 22 r65.1 r67.1 (dw r63.2)).bind fun r76 =>
 Ag (r76.2 = (dw r63.2)) <|
 (st P 5 r76.1 r73.1 (dw r63.2)).bind fun r77 =>
 Ag (True ∧ ix P 9 (Go.Value.string { data := #[48, 48, 48, 49, 48, 50, 48, 51, 48, 52, 48, 53, 48, 54, 48, 55, 48, 56, 48, 57, 49, 48, 49, 49, 49, 50, 49, 51, 49, 52, 49, 53, 49, 54, 49, 55, 49, 56, 49, 57, 50, 48, 50, 49, 50, 50, 50, 51, 50, 52, 50, 53, 50, 54, 50, 55, 50, 56, 50, 57, 51, 48, 51, 49, 51, 50, 51, 51, 51, 52, 51, 53, 51, 54, 51, 55, 51, 56, 51, 57, 52, 48, 52, 49, 52, 50, 52, 51, 52, 52, 52, 53, 52, 54, 52, 55, 52, 56, 52, 57, 53, 48, 53, 49, 53, 50, 53, 51, 53, 52, 53, 53, 53, 54, 53, 55, 53, 56, 53, 57, 54, 48, 54, 49, 54, 50, 54, 51, 54, 52, 54, 53, 54, 54, 54, 55, 54, 56, 54, 57, 55, 48, 55, 49, 55, 50, 55, 51, 55, 52, 55, 53, 55, 54, 55, 55, 55, 56, 55, 57, 56, 48, 56, 49, 56, 50, 56, 51, 56, 52, 56, 53, 56, 54, 56, 55, 56, 56, 56, 57, 57, 48, 57, 49, 57, 50, 57, 51, 57, 52, 57, 53, 57, 54, 57, 55, 57, 56, 57, 57] }) r74.1 r77.2 = some (r75.1, r77.2) ∧ True ∧ True ∧ bo P .sub 3 (.tmp 72) (.const (.int .i64 6)) r69.1 (.int .i64 6) r77.2 = some (r70.1, r77.2) ∧ True ∧ True) <|
 (ia P 22 r68.1 r70.1 r77.2).bind fun r78 =>
 Ag (r78.2 = r77.2) <|
 (st P 5 r78.1 r75.1 r77.2).bind fun r79 =>
 Ag (True ∧ True ∧ True ∧ True ∧ True ∧ True ∧ True ∧ True) <|
 (vl (e 0) (dw r79.2)).bind fun r81 =>
 Ag (r81.2 = (dw r79.2)) <|
 (vl (e 4) (dw r79.2)).bind fun r82 =>
 Ag (r82.2 = (dw r79.2)) <|
 (bo P .sub 3 (.tmp 82) (.const (.int .i64 7)) r82.1 (.int .i64 7) (dw r79.2)).bind fun r83 =>
 Ag (r83.2 = (dw r79.2)) <|
 (vl (e 0) (dw r79.2)).bind fun r84 =>
 Ag (r84.2 = (dw r79.2)) <|
 (vl (e 4) (dw r79.2)).bind fun r85 =>
 Ag (r85.2 = (dw r79.2)) <|
 (bo P .sub 3 (.tmp 85) (.const (.int .i64 8)) r85.1 (.int .i64 8) (dw r79.2)).bind fun r86 =>
 Ag (r86.2 = (dw r79.2)) <|
 (vl r30.1 (dw r79.2)).bind fun r87 =>
 Ag (r87.2 = (dw r79.2)) <|
 (bo P .add 141 (.tmp 87) (.const (.int .u32 1)) r87.1 (.int .u32 1) (dw r79.2)).bind fun r88 =>
 Ag (r88.2 = (dw r79.2)) <|
 (ix P 9 (Go.Value.string { data := #[48, 48, 48, 49, 48, 50, 48, 51, 48, 52, 48, 53, 48, 54, 48, 55, 48, 56, 48, 57, 49, 48, 49, 49, 49, 50, 49, 51, 49, 52, 49, 53, 49, 54, 49, 55, 49, 56, 49, 57, 50, 48, 50, 49, 50, 50, 50, 51, 50, 52, 50, 53, 50, 54, 50, 55, 50, 56, 50, 57, 51, 48, 51, 49, 51, 50, 51, 51, 51, 52, 51, 53, 51, 54, 51, 55, 51, 56, 51, 57, 52, 48, 52, 49, 52, 50, 52, 51, 52, 52, 52, 53, 52, 54, 52, 55, 52, 56, 52, 57, 53, 48, 53, 49, 53, 50, 53, 51, 53, 52, 53, 53, 53, 54, 53, 55, 53, 56, 53, 57, 54, 48, 54, 49, 54, 50, 54, 51, 54, 52, 54, 53, 54, 54, 54, 55, 54, 56, 54, 57, 55, 48, 55, 49, 55, 50, 55, 51, 55, 52, 55, 53, 55, 54, 55, 55, 55, 56, 55, 57, 56, 48, 56, 49, 56, 50, 56, 51, 56, 52, 56, 53, 56, 54, 56, 55, 56, 56, 56, 57, 57, 48, 57, 49, 57, 50, 57, 51, 57, 52, 57, 53, 57, 54, 57, 55, 57, 56, 57, 57] }) r88.1 (dw r79.2)).bind fun r89 =>
 Ag (r89.2 = (dw r79.2)) <|
 (vl r30.1 (dw r79.2)).bind fun r90 =>
 Ag (r90.2 = (dw r79.2)) <|
 (ix P 9 (Go.Value.string { data := #[48, 48, 48, 49, 48, 50, 48, 51, 48, 52, 48, 53, 48, 54, 48, 55, 48, 56, 48, 57, 49, 48, 49, 49, 49, 50, 49, 51, 49, 52, 49, 53, 49, 54, 49, 55, 49, 56, 49, 57, 50, 48, 50, 49, 50, 50, 50, 51, 50, 52, 50, 53, 50, 54, 50, 55, 50, 56, 50, 57, 51, 48, 51, 49, 51, 50, 51, 51, 51, 52, 51, 53, 51, 54, 51, 55, 51, 56, 51, 57, 52, 48, 52, 49, 52, 50, 52, 51, 52, 52, 52, 53, 52, 54, 52, 55, 52, 56, 52, 57, 53, 48, 53, 49, 53, 50, 53, 51, 53, 52, 53, 53, 53, 54, 53, 55, 53, 56, 53, 57, 54, 48, 54, 49, 54, 50, 54, 51, 54, 52, 54, 53, 54, 54, 54, 55, 54, 56, 54, 57, 55, 48, 55, 49, 55, 50, 55, 51, 55, 52, 55, 53, 55, 54, 55, 55, 55, 56, 55, 57, 56, 48, 56, 49, 56, 50, 56, 51, 56, 52, 56, 53, 56, 54, 56, 55, 56, 56, 56, 57, 57, 48, 57, 49, 57, 50, 57, 51, 57, 52, 57, 53, 57, 54, 57, 55, 57, 56, 57, 57] }) r90.1 (dw r79.2)).bind fun r91 =>
 Ag (r91.2 = (dw r79.2)) <|
 (ia P 22 r81.1 r83.1 (dw r79.2)).bind fun r92 =>
 Ag (r92.2 = (dw r79.2)) <|
 (st P 5 r92.1 r89.1 (dw r79.2)).bind fun r93 =>
 Ag (True ∧ ix P 9 (Go.Value.string { data := #[48, 48, 48, 49, 48, 50, 48, 51, 48, 52, 48, 53, 48, 54, 48, 55, 48, 56, 48, 57, 49, 48, 49, 49, 49, 50, 49, 51, 49, 52, 49, 53, 49, 54, 49, 55, 49, 56, 49, 57, 50, 48, 50, 49, 50, 50, 50, 51, 50, 52, 50, 53, 50, 54, 50, 55, 50, 56, 50, 57, 51, 48, 51, 49, 51, 50, 51, 51, 51, 52, 51, 53, 51, 54, 51, 55, 51, 56, 51, 57, 52, 48, 52, 49, 52, 50, 52, 51, 52, 52, 52, 53, 52, 54, 52, 55, 52, 56, 52, 57, 53, 48, 53, 49, 53, 50, 53, 51, 53, 52, 53, 53, 53, 54, 53, 55, 53, 56, 53, 57, 54, 48, 54, 49, 54, 50, 54, 51, 54, 52, 54, 53, 54, 54, 54, 55, 54, 56, 54, 57, 55, 48, 55, 49, 55, 50, 55, 51, 55, 52, 55, 53, 55, 54, 55, 55, 55, 56, 55, 57, 56, 48, 56, 49, 56, 50, 56, 51, 56, 52, 56, 53, 56, 54, 56, 55, 56, 56, 56, 57, 57, 48, 57, 49, 57, 50, 57, 51, 57, 52, 57, 53, 57, 54, 57, 55, 57, 56, 57, 57] }) r90.1 r93.2 = some (r91.1, r93.2) ∧ True ∧ True ∧ bo P .sub 3 (.tmp 85) (.const (.int .i64 8)) r85.1 (.int .i64 8) r93.2 = some (r86.1, r93.2) ∧ True ∧ True) <|
 (ia P 22 r84.1 r86.1 r93.2).bind fun r94 =>
 Ag (r94.2 = r93.2) <|
 (st P 5 r94.1 r91.1 r93.2).bind fun r95 =>
 Ag (True ∧ True ∧ True ∧ True ∧ True ∧ True ∧ True ∧ True) <|
 (vl (e 4) r95.2).bind fun r96 =>
 (bo P .sub 3 (.tmp 94) (.const (.int .i64 8)) r96.1 (.int .i64 8) r96.2).bind fun r97 =>
 (vl r97.1 r97.2).bind fun r98 =>
 Br (AG e [(19, r1.1), (20, r2.1), (21, r3.1), (22, r4.1), (23, r5.1), (5, r6.1), (24, r7.1), (25, r8.1), (1, r9.1), (26, r10.1), (27, r11.1), (28, r12.1), (29, r13.1), (6, r14.1), (7, r15.1), (30, r16.1), (31, r17.1), (32, r18.1), (33, r19.1), (34, r20.1), (35, r21.1), (8, r22.1), (9, r23.1), (36, r24.1), (37, r25.1), (38, r26.1), (39, r27.1), (40, r28.1), (41, r29.1), (10, r30.1), (11, r31.1), (42, r33.1), (43, r34.1), (44, r35.1), (45, r36.1), (46, r37.1), (47, r38.1), (48, r39.1), (49, r40.1), (50, r41.1), (51, r42.1), (52, r43.1), (53, r44.1), (54, r46.1), (55, r49.1), (56, r50.1), (57, r51.1), (58, r52.1), (59, r53.1), (60, r54.1), (61, r55.1), (62, r56.1), (63, r57.1), (64, r58.1), (65, r59.1), (66, r60.1), (67, r62.1), (68, r65.1), (69, r66.1), (70, r67.1), (71, r68.1), (72, r69.1), (73, r70.1), (74, r71.1), (75, r72.1), (76, r73.1), (77, r74.1), (78, r75.1), (79, r76.1), (80, r78.1), (81, r81.1), (82, r82.1), (83, r83.1), (84, r84.1), (85, r85.1), (86, r86.1), (87, r87.1), (88, r88.1), (89, r89.1), (90, r90.1), (91, r91.1), (92, r92.1), (93, r94.1), (94, r96.1), (95, r97.1), (4, r98.1)]) r98.2) (
 (vl (e 1) r2.2).bind fun r99 =>
 (cv P 120 141 r99.1 r99.2).bind fun r100 =>
 (vl r100.1 r100.2).bind fun r101 =>
 (vl (e 4) r101.2).bind fun r102 =>
 (bo P .geq 3 (.tmp 98) (.const (.int .i64 4)) r102.1 (.int .i64 4) r102.2).bind fun r103 =>
 AK r103.1 (
 (vl r101.1 r103.2).bind fun r104 =>
 (bo P .rem 141 (.tmp 100) (.const (.int .u32 10000)) r104.1 (.int .u32 10000) r104.2).bind fun r105 =>
 (vl r105.1 r105.2).bind fun r106 =>
 (vl r101.1 r106.2).bind fun r107 =>
 (bo P .quo 141 (.tmp 102) (.const (.int .u32 10000)) r107.1 (.int .u32 10000) r107.2).bind fun r108 =>
 (vl r108.1 r108.2).bind fun r109 =>
 (vl r106.1 r109.2).bind fun r110 =>
 (bo P .quo 141 (.tmp 104) (.const (.int .u32 100)) r110.1 (.int .u32 100) r110.2).bind fun r111 =>
 (bo P .mul 141 (.tmp 105) (.const (.int .u32 2)) r111.1 (.int .u32 2) r111.2).bind fun r112 =>
 (vl r106.1 r112.2).bind fun r113 =>
 (bo P .rem 141 (.tmp 107) (.const (.int .u32 100)) r113.1 (.int .u32 100) r113.2).bind fun r114 =>
 (bo P .mul 141 (.tmp 108) (.const (.int .u32 2)) r114.1 (.int .u32 2) r114.2).bind fun r115 =>
 (vl r112.1 r115.2).bind fun r116 =>
 (vl r115.1 r116.2).bind fun r117 =>
 (vl (e 0) (dw r117.2)).bind fun r119 =>
 Ag (r119.2 = (dw r117.2)) <|
 (vl (e 4) (dw r117.2)).bind fun r120 =>
 Ag (r120.2 = (dw r117.2)) <|
 (bo P .sub 3 (.tmp 111) (.const (.int .i64 1)) r120.1 (.int .i64 1) (dw r117.2)).bind fun r121 =>
 Ag (r121.2 = (dw r117.2)) <|
 (vl (e 0) (dw r117.2)).bind fun r122 =>
 Ag (r122.2 = (dw r117.2)) <|
 (vl (e 4) (dw r117.2)).bind fun r123 =>
 Ag (r123.2 = (dw r117.2)) <|
 (bo P .sub 3 (.tmp 114) (.const (.int .i64 2)) r123.1 (.int .i64 2) (dw r117.2)).bind fun r124 =>
 Ag (r124.2 = (dw r117.2)) <|
 (vl r117.1 (dw r117.2)).bind fun r125 =>
 Ag (r125.2 = (dw r117.2)) <|
 (bo P .add 141 (.tmp 116) (.const (.int .u32 1)) r125.1 (.int .u32 1) (dw r117.2)).bind fun r126 =>
 Ag (r126.2 = (dw r117.2)) <|
 (ix P 9 (Go.Value.string { data := #[48, 48, 48, 49, 48, 50, 48, 51, 48, 52, 48, 53, 48, 54, 48, 55, 48, 56, 48, 57, 49, 48, 49, 49, 49, 50, 49, 51, 49, 52, 49, 53, 49, 54, 49, 55, 49, 56, 49, 57, 50, 48, 50, 49, 50, 50, 50, 51, 50, 52, 50, 53, 50, 54, 50, 55, 50, 56, 50, 57, 51, 48, 51, 49, 51, 50, 51, 51, 51, 52, 51, 53, 51, 54, 51, 55, 51, 56, 51, 57, 52, 48, 52, 49, 52, 50, 52, 51, 52, 52, 52, 53, 52, 54, 52, 55, 52, 56, 52, 57, 53, 48, 53, 49, 53, 50, 53, 51, 53, 52, 53, 53, 53, 54, 53, 55, 53, 56, 53, 57, 54, 48, 54, 49, 54, 50, 54, 51, 54, 52, 54, 53, 54, 54, 54, 55, 54, 56, 54, 57, 55, 48, 55, 49, 55, 50, 55, 51, 55, 52, 55, 53, 55, 54, 55, 55, 55, 56, 55, 57, 56, 48, 56, 49, 56, 50, 56, 51, 56, 52, 56, 53, 56, 54, 56, 55, 56, 56, 56, 57, 57, 48, 57, 49, 57, 50, 57, 51, 57, 52, 57, 53, 57, 54, 57, 55, 57, 56, 57, 57] }) r126.1 (dw r117.2)).bind fun r127 =>
 Ag (r127.2 = (dw r117.2)) <|
 (vl r117.1 (dw r117.2)).bind fun r128 =>
 Ag (r128.2 = (dw r117.2)) <|
 (ix P 9 (Go.Value.string { data := #[48, 48, 48, 49, 48, 50, 48, 51, 48, 52, 48, 53, 48, 54, 48, 55, 48, 56, 48, 57, 49, 48, 49, 49, 49, 50, 49, 51, 49, 52, 49, 53, 49, 54, 49, 55, 49, 56, 49, 57, 50, 48, 50, 49, 50, 50, 50, 51, 50, 52, 50, 53, 50, 54, 50, 55, 50, 56, 50, 57, 51, 48, 51, 49, 51, 50, 51, 51, 51, 52, 51, 53, 51, 54, 51, 55, 51, 56, 51, 57, 52, 48, 52, 49, 52, 50, 52, 51, 52, 52, 52, 53, 52, 54, 52, 55, 52, 56, 52, 57, 53, 48, 53, 49, 53, 50, 53, 51, 53, 52, 53, 53, 53, 54, 53, 55, 53, 56, 53, 57, 54, 48, 54, 49, 54, 50, 54, 51, 54, 52, 54, 53, 54, 54, 54, 55, 54, 56, 54, 57, 55, 48, 55, 49, 55, 50, 55, 51, 55, 52, 55, 53, 55, 54, 55, 55, 55, 56, 55, 57, 56, 48, 56, 49, 56, 50, 56, 51, 56, 52, 56, 53, 56, 54, 56, 55, 56, 56, 56, 57, 57, 48, 57, 49, 57, 50, 57, 51, 57, 52, 57, 53, 57, 54, 57, 55, 57, 56, 57, 57] }) r128.1 (dw r117.2)).bind fun r129 =>
 Ag (r129.2 = (dw r117.2)) <|
 (ia P 22 r119.1 r121.1 (dw r117.2)).bind fun r130 =>
 Ag (r130.2 = (dw r117.2)) <|
 (st P 5 r130.1 r127.1 (dw r117.2)).bind fun r131 =>
 Ag (True ∧ ix P 9 (Go.Value.string { data := #[48, 48, 48, 49, 48, 50, 48, 51, 48, 52, 48, 53, 48, 54, 48, 55, 48, 56, 48, 57, 49, 48, 49, 49, 49, 50, 49, 51, 49, 52, 49, 53, 49, 54, 49, 55, 49, 56, 49, 57, 50, 48, 50, 49, 50, 50, 50, 51, 50, 52, 50, 53, 50, 54, 50, 55, 50, 56, 50, 57, 51, 48, 51, 49, 51, 50, 51, 51, 51, 52, 51, 53, 51, 54, 51, 55, 51, 56, 51, 57, 52, 48, 52, 49, 52, 50, 52, 51, 52, 52, 52, 53, 52, 54, 52, 55, 52, 56, 52, 57, 53, 48, 53, 49, 53, 50, 53, 51, 53, 52, 53, 53, 53, 54, 53, 55, 53, 56, 53, 57, 54, 48, 54, 49, 54, 50, 54, 51, 54, 52, 54, 53, 54, 54, 54, 55, 54, 56, 54, 57, 55, 48, 55, 49, 55, 50, 55, 51, 55, 52, 55, 53, 55, 54, 55, 55, 55, 56, 55, 57, 56, 48, 56, 49, 56, 50, 56, 51, 56, 52, 56, 53, 56, 54, 56, 55, 56, 56, 56, 57, 57, 48, 57, 49, 57, 50, 57, 51, 57, 52, 57, 53, 57, 54, 57, 55, 57, 56, 57, 57] }) r128.1 r131.2 = some (r129.1, r131.2) ∧ True ∧ True ∧ bo P .sub 3 (.tmp 114) (.const (.int .i64 2)) r123.1 (.int .i64 2) r131.2 = some (r124.1, r131.2) ∧ True ∧ True) <|
 (ia P 22 r122.1 r124.1 r131.2).bind fun r132 =>
 Ag (r132.2 = r131.2) <|
 (st P 5 r132.1 r129.1 r131.2).bind fun r133 =>
 Ag (True ∧ True ∧ True ∧ True ∧ True ∧ True ∧ True ∧ True) <|
 (vl (e 0) (dw r133.2)).bind fun r135 =>
 Ag (r135.2 = (dw r133.2)) <|
 (vl (e 4) (dw r133.2)).bind fun r136 =>
 Ag (r136.2 = (dw r133.2)) <|
 (bo P .sub 3 (.tmp 124) (.const (.int .i64 3)) r136.1 (.int .i64 3) (dw r133.2)).bind fun r137 =>
 Ag (r137.2 = (dw r133.2)) <|
 (vl (e 0) (dw r133.2)).bind fun r138 =>
 Ag (r138.2 = (dw r133.2)) <|
 (vl (e 4) (dw r133.2)).bind fun r139 =>
 Ag (r139.2 = (dw r133.2)) <|
 (bo P .sub 3 (.tmp 127) (.const (.int .i64 4)) r139.1 (.int .i64 4) (dw r133.2)).bind fun r140 =>
 Ag (r140.2 = (dw r133.2)) <|
 (vl r116.1 (dw r133.2)).bind fun r141 =>
 Ag (r141.2 = (dw r133.2)) <|
 (bo P .add 141 (.tmp 129) (.const (.int .u32 1)) r141.1 (.int .u32 1) (dw r133.2)).bind fun r142 =>
 Ag (r142.2 = (dw r133.2)) <|
 (ix P 9 (Go.Value.string { data := #[48, 48, 48, 49, 48, 50, 48, 51, 48, 52, 48, 53, 48, 54, 48, 55, 48, 56, 48, 57, 49, 48, 49, 49, 49, 50, 49, 51, 49, 52, 49, 53, 49, 54, 49, 55, 49, 56, 49, 57, 50, 48, 50, 49, 50, 50, 50, 51, 50, 52, 50, 53, 50, 54, 50, 55, 50, 56, 50, 57, 51, 48, 51, 49, 51, 50, 51, 51, 51, 52, 51, 53, 51, 54, 51, 55, 51, 56, 51, 57, 52, 48, 52, 49, 52, 50, 52, 51, 52, 52, 52, 53, 52, 54, 52, 55, 52, 56, 52, 57, 53, 48, 53, 49, 53, 50, 53, 51, 53, 52, 53, 53, 53, 54, 53, 55, 53, 56, 53, 57, 54, 48, 54, 49, 54, 50, 54, 51, 54, 52, 54, 53, 54, 54, 54, 55, 54, 56, 54, 57, 55, 48, 55, 49, 55, 50, 55, 51, 55, 52, 55, 53, 55, 54, 55, 55, 55, 56, 55, 57, 56, 48, 56, 49, 56, 50, 56, 51, 56, 52, 56, 53, 56, 54, 56, 55, 56, 56, 56, 57, 57, 48, 57, 49, 57, 50, 57, 51, 57, 52, 57, 53, 57, 54, 57, 55, 57, 56, 57, 57] }) r142.1 (dw r133.2)).bind fun r143 =>
 Ag (r143.2 = (dw r133.2)) <|
 (vl r116.1 (dw r133.2)).bind fun r144 =>
 Ag (r144.2 = (dw r133.2)) <|
 (ix P 9 (Go.Value.string { data := #[48, 48, 48, 49, 48, 50, 48, 51, 48, 52, 48, 53, 48, 54, 48, 55, 48, 56, 48, 57, 49, 48, 49, 49, 49, 50, 49, 51, 49, 52, 49, 53, 49, 54, 49, 55, 49, 56, 49, 57, 50, 48, 50, 49, 50, 50, 50, 51, 50, 52, 50, 53, 50, 54, 50, 55, 50, 56, 50, 57, 51, 48, 51, 49, 51, 50, 51, 51, 51, 52, 51, 53, 51, 54, 51, 55, 51, 56, 51, 57, 52, 48, 52, 49, 52, 50, 52, 51, 52, 52, 52, 53, 52, 54, 52, 55, 52, 56, 52, 57, 53, 48, 53, 49, 53, 50, 53, 51, 53, 52, 53, 53, 53, 54, 53, 55, 53, 56, 53, 57, 54, 48, 54, 49, 54, 50, 54, 51, 54, 52, 54, 53, 54, 54, 54, 55, 54, 56, 54, 57, 55, 48, 55, 49, 55, 50, 55, 51, 55, 52, 55, 53, 55, 54, 55, 55, 55, 56, 55, 57, 56, 48, 56, 49, 56, 50, 56, 51, 56, 52, 56, 53, 56, 54, 56, 55, 56, 56, 56, 57, 57, 48, 57, 49, 57, 50, 57, 51, 57, 52, 57, 53, 57, 54, 57, 55, 57, 56, 57, 57] }) r144.1 (dw r133.2)).bind fun r145 =>
 Ag (r145.2 = (dw r133.2)) <|
 (ia P 22 r135.1 r137.1 (dw r133.2)).bind fun r146 =>
 Ag (r146.2 = (dw r133.2)) <|
 (st P 5 r146.1 r143.1 (dw r133.2)).bind fun r147 =>
 Ag (True ∧ ix P 9 (Go.Value.string { data := #[48, 48, 48, 49, 48, 50, 48, 51, 48, 52, 48, 53, 48, 54, 48, 55, 48, 56, 48, 57, 49, 48, 49, 49, 49, 50, 49, 51, 49, 52, 49, 53, 49, 54, 49, 55, 49, 56, 49, 57, 50, 48, 50, 49, 50, 50, 50, 51, 50, 52, 50, 53, 50, 54, 50, 55, 50, 56, 50, 57, 51, 48, 51, 49, 51, 50, 51, 51, 51, 52, 51, 53, 51, 54, 51, 55, 51, 56, 51, 57, 52, 48, 52, 49, 52, 50, 52, 51, 52, 52, 52, 53, 52, 54, 52, 55, 52, 56, 52, 57, 53, 48, 53, 49, 53, 50, 53, 51, 53, 52, 53, 53, 53, 54, 53, 55, 53, 56, 53, 57, 54, 48, 54, 49, 54, 50, 54, 51, 54, 52, 54, 53, 54, 54, 54, 55, 54, 56, 54, 57, 55, 48, 55, 49, 55, 50, 55, 51, 55, 52, 55, 53, 55, 54, 55, 55, 55, 56, 55, 57, 56, 48, 56, 49, 56, 50, 56, 51, 56, 52, 56, 53, 56, 54, 56, 55, 56, 56, 56, 57, 57, 48, 57, 49, 57, 50, 57, 51, 57, 52, 57, 53, 57, 54, 57, 55, 57, 56, 57, 57] }) r144.1 r147.2 = some (r145.1, r147.2) ∧ True ∧ True ∧ bo P .sub 3 (.tmp 127) (.const (.int .i64 4)) r139.1 (.int .i64 4) r147.2 = some (r140.1, r147.2) ∧ True ∧ True) <|
 (ia P 22 r138.1 r140.1 r147.2).bind fun r148 =>
 Ag (r148.2 = r147.2) <|
 (st P 5 r148.1 r145.1 r147.2).bind fun r149 =>
 Ag (True ∧ True ∧ True ∧ True ∧ True ∧ True ∧ True ∧ True) <|
 (vl (e 4) r149.2).bind fun r150 =>
 (bo P .sub 3 (.tmp 136) (.const (.int .i64 4)) r150.1 (.int .i64 4) r150.2).bind fun r151 =>
 (vl r151.1 r151.2).bind fun r152 =>
 Bs (AG e [(19, r1.1), (20, r2.1), (96, r99.1), (97, r100.1), (12, r101.1), (98, r102.1), (99, r103.1), (100, r104.1), (101, r105.1), (13, r106.1), (102, r107.1), (103, r108.1), (12, r109.1), (104, r110.1), (105, r111.1), (106, r112.1), (107, r113.1), (108, r114.1), (109, r115.1), (14, r116.1), (15, r117.1), (110, r119.1), (111, r120.1), (112, r121.1), (113, r122.1), (114, r123.1), (115, r124.1), (116, r125.1), (117, r126.1), (118, r127.1), (119, r128.1), (120, r129.1), (121, r130.1), (122, r132.1), (123, r135.1), (124, r136.1), (125, r137.1), (126, r138.1), (127, r139.1), (128, r140.1), (129, r141.1), (130, r142.1), (131, r143.1), (132, r144.1), (133, r145.1), (134, r146.1), (135, r148.1), (136, r150.1), (137, r151.1), (4, r152.1)]) r152.2) (
 Bs (AG e [(19, r1.1), (20, r2.1), (96, r99.1), (97, r100.1), (12, r101.1), (98, r102.1), (99, r103.1)]) r103.2)) := (AD P (EV P) 71 167 (cA (cA (cA (cB (Af P 71))))) e w (An 0 (AB P (EV P) 71 167 (cB (cB (Af P 71))) (Bl P (AA P 71))))).trans (by kernel_rfl)
theorem CY (e : Env) (w : World) : Bs e w =
 (vl (e 4) w).bind fun r1 =>
 (bo P .geq 3 (.tmp 138) (.const (.int .i64 2)) r1.1 (.int .i64 2) r1.2).bind fun r2 =>
 AK r2.1 (
 (vl (e 12) r2.2).bind fun r3 =>
 (bo P .rem 141 (.tmp 140) (.const (.int .u32 100)) r3.1 (.int .u32 100) r3.2).bind fun r4 =>
 (bo P .mul 141 (.tmp 141) (.const (.int .u32 2)) r4.1 (.int .u32 2) r4.2).bind fun r5 =>
 (vl r5.1 r5.2).bind fun r6 =>
 (vl (e 12) r6.2).bind fun r7 =>
 (bo P .quo 141 (.tmp 143) (.const (.int .u32 100)) r7.1 (.int .u32 100) r7.2).bind fun r8 =>
 (vl r8.1 r8.2).bind fun r9 =>
 (vl (e 0) (dw r9.2)).bind fun r11 =>
 Ag (r11.2 = (dw r9.2)) <|
 (vl (e 4) (dw r9.2)).bind fun r12 =>
 Ag (r12.2 = (dw r9.2)) <|
 (bo P .sub 3 (.tmp 146) (.const (.int .i64 1)) r12.1 (.int .i64 1) (dw r9.2)).bind fun r13 =>
 Ag (r13.2 = (dw r9.2)) <|
 (vl (e 0) (dw r9.2)).bind fun r14 =>
 Ag (r14.2 = (dw r9.2)) <|
 (vl (e 4) (dw r9.2)).bind fun r15 =>
 Ag (r15.2 = (dw r9.2)) <|
 (bo P .sub 3 (.tmp 149) (.const (.int .i64 2)) r15.1 (.int .i64 2) (dw r9.2)).bind fun r16 =>
 Ag (r16.2 = (dw r9.2)) <|
 (vl r6.1 (dw r9.2)).bind fun r17 =>
 Ag (r17.2 = (dw r9.2)) <|
 (bo P .add 141 (.tmp 151) (.const (.int .u32 1)) r17.1 (.int .u32 1) (dw r9.2)).bind fun r18 =>
 Ag (r18.2 = (dw r9.2)) <|
 (ix P 9 (Go.Value.string { data := #[48, 48, 48, 49, 48, 50, 48, 51, 48, 52, 48, 53, 48, 54, 48, 55, 48, 56, 48, 57, 49, 48, 49, 49, 49, 50, 49, 51, 49, 52, 49, 53, 49, 54, 49, 55, 49, 56, 49, 57, 50, 48, 50, 49, 50, 50, 50, 51, 50, 52, 50, 53, 50, 54, 50, 55, 50, 56, 50, 57, 51, 48, 51, 49, 51, 50, 51, 51, 51, 52, 51, 53, 51, 54, 51, 55, 51, 56, 51, 57, 52, 48, 52, 49, 52, 50, 52, 51, 52, 52, 52, 53, 52, 54, 52, 55, 52, 56, 52, 57, 53, 48, 53, 49, 53, 50, 53, 51, 53, 52, 53, 53, 53, 54, 53, 55, 53, 56, 53, 57, 54, 48, 54, 49, 54, 50, 54, 51, 54, 52, 54, 53, 54, 54, 54, 55, 54, 56, 54, 57, 55, 48, 55, 49, 55, 50, 55, 51, 55, 52, 55, 53, 55, 54, 55, 55, 55, 56, 55, 57, 56, 48, 56, 49, 56, 50, 56, 51, 56, 52, 56, 53, 56, 54, 56, 55, 56, 56, 56, 57, 57, 48, 57, 49, 57, 50, 57, 51, 57, 52, 57, 53, 57, 54, 57, 55, 57, 56, 57, 57] }) r18.1 (dw r9.2)).bind fun r19 =>
 Ag (r19.2 = (dw r9.2)) <|
 (vl r6.1 (dw r9.2)).bind fun r20 =>
 Ag (r20.2 = (dw r9.2)) <|
 (ix P 9 (Go.Value.string { data := #[48, 48, 48, 49, 48, 50, 48, 51, 48, 52, 48, 53, 48, 54, 48, 55, 48, 56, 48, 57, 49, 48, 49, 49, 49, 50, 49, 51, 49, 52, 49, 53, 49, 54, 49, 55, 49, 56, 49, 57, 50, 48, 50, 49, 50, 50, 50, 51, 50, 52, 50, 53, 50, 54, 50, 55, 50, 56, 50, 57, 51, 48, 51, 49, 51, 50, 51, 51, 51, 52, 51, 53, 51, 54, 51, 55, 51, 56, 51, 57, 52, 48, 52, 49, 52, 50, 52, 51, 52, 52, 52, 53, 52, 54, 52, 55, 52, 56, 52, 57, 53, 48, 53, 49, 53, 50, 53, 51, 53, 52, 53, 53, 53, 54, 53, 55, 53, 56, 53, 57, 54, 48, 54, 49, 54, 50, 54, 51, 54, 52, 54, 53, 54, 54, 54, 55, 54, 56, 54, 57, 55, 48, 55, 49, 55, 50, 55, 51, 55, 52, 55, 53, 55, 54, 55, 55, 55, 56, 55, 57, 56, 48, 56, 49, 56, 50, 56, 51, 56, 52, 56, 53, 56, 54, 56, 55, 56, 56, 56, 57, 57, 48, 57, 49, 57, 50, 57, 51, 57, 52, 57, 53, 57, 54, 57, 55, 57, 56, 57, 57] }) r20.1 (dw r9.2)).bind fun r21 =>
 Ag (r21.2 = (dw r9.2)) <|
 (ia P 22 r11.1 r13.1 (dw r9.2)).bind fun r22 =>
 Ag (r22.2 = (dw r9.2)) <|
 (st P 5 r22.1 r19.1 (dw r9.2)).bind fun r23 =>
 Ag (True ∧ ix P 9 (Go.Value.string { data := #[48, 48, 48, 49, 48, 50, 48, 51, 48, 52, 48, 53, 48, 54, 48, 55, 48, 56, 48, 57, 49, 48, 49, 49, 49, 50, 49, 51, 49, 52, 49, 53, 49, 54, 49, 55, 49, 56, 49, 57, 50, 48, 50, 49, 50, 50, 50, 51, 50, 52, 50, 53, 50, 54, 50, 55, 50, 56, 50, 57, 51, 48, 51, 49, 51, 50, 51, 51, 51, 52, 51, 53, 51, 54, 51, 55, 51, 56, 51, 57, 52, 48, 52, 49, 52, 50, 52, 51, 52, 52, 52, 53, 52, 54, 52, 55, 52, 56, 52, 57, 53, 48, 53, 49, 53, 50, 53, 51, 53, 52, 53, 53, 53, 54, 53, 55, 53, 56, 53, 57, 54, 48, 54, 49, 54, 50, 54, 51, 54, 52, 54, 53, 54, 54, 54, 55, 54, 56, 54, 57, 55, 48, 55, 49, 55, 50, 55, 51, 55, 52, 55, 53, 55, 54, 55, 55, 55, 56, 55, 57, 56, 48, 56, 49, 56, 50, 56, 51, 56, 52, 56, 53, 56, 54, 56, 55, 56, 56, 56, 57, 57, 48, 57, 49, 57, 50, 57, 51, 57, 52, 57, 53, 57, 54, 57, 55, 57, 56, 57, 57] }) r20.1 r23.2 = some (r21.1, r23.2) ∧ True ∧ True ∧ bo P .sub 3 (.tmp 149) (.const (.int .i64 2)) r15.1 (.int .i64 2) r23.2 = some (r16.1, r23.2) ∧ True ∧ True) <|
 (ia P 22 r14.1 r16.1 r23.2).bind fun r24 =>
 Ag (r24.2 = r23.2) <|
 (st P 5 r24.1 r21.1 r23.2).bind fun r25 =>
 Ag (True ∧ True ∧ True ∧ True ∧ True ∧ True ∧ True ∧ True) <|
 (vl (e 4) r25.2).bind fun r26 =>
 (bo P .sub 3 (.tmp 158) (.const (.int .i64 2)) r26.1 (.int .i64 2) r26.2).bind fun r27 =>
 (vl r27.1 r27.2).bind fun r28 =>
 Bt (AG e [(138, r1.1), (139, r2.1), (140, r3.1), (141, r4.1), (142, r5.1), (16, r6.1), (143, r7.1), (144, r8.1), (12, r9.1), (145, r11.1), (146, r12.1), (147, r13.1), (148, r14.1), (149, r15.1), (150, r16.1), (151, r17.1), (152, r18.1), (153, r19.1), (154, r20.1), (155, r21.1), (156, r22.1), (157, r24.1), (158, r26.1), (159, r27.1), (4, r28.1)]) r28.2) (
 Bt (AG e [(138, r1.1), (139, r2.1)]) r2.2) := by kernel_rfl
theorem CZ (e : Env) (w : World) : Bt e w =
 (vl (e 4) w).bind fun r1 =>
 (bo P .gtr 3 (.tmp 160) (.const (.int .i64 0)) r1.1 (.int .i64 0) r1.2).bind fun r2 =>
 AK r2.1 (
 (vl (e 0) r2.2).bind fun r3 =>
 (vl (e 12) r3.2).bind fun r4 =>
 (bo P .add 141 (.const (.int .u32 48)) (.tmp 163) (.int .u32 48) r4.1 r4.2).bind fun r5 =>
 (cv P 141 5 r5.1 r5.2).bind fun r6 =>
 (ia P 22 r3.1 (.int .i64 0) r6.2).bind fun r7 =>
 (st P 5 r7.1 r6.1 r7.2).bind fun r8 =>
 some (.tuple #[], r8.2)) (
 some (.tuple #[], r2.2)) := by kernel_rfl
theorem DH (x0 x1 : Value) (w : World) : Bq P (EV P) 71 #[x0, x1] w =
 (vl x0 w).bind fun r1 =>
 (Au P #[22] 3 #[r1.1] r1.2).bind fun r2 =>
 (vl r2.1 r2.2).bind fun r3 =>
 Br (AG (AL #[x0, x1]) [(17, r1.1), (18, r2.1), (4, r3.1)]) r3.2 := by kernel_rfl
theorem Du (x0 x1 : Value) (w : World) : Bq P (EV P) 73 #[x0, x1] w =
 (vl (.int .i64 0) w).bind fun r1 =>
 (vl x0 r1.2).bind fun r2 =>
 (vl x1 r2.2).bind fun r3 =>
 (xf P 98 #[r2.1, r3.1] r3.2).bind fun r4 =>
 (vl r4.1 r4.2).bind fun r5 =>
 some (r5.1, r5.2) := by kernel_rfl
noncomputable def JP (e : Env) (w : World) : Option (Value × World) := BB P (EV P) 78 34 (.loop (cA (cA (cB (cB (cB (cB (Af P 78)))))))) e w (An 0 (Bl P (AA P 78)))
theorem JQ (x0 x1 : Value) (w : World) : Bq P (EV P) 78 #[x0, x1] w =
 (vl (.int .i64 0) w).bind fun r1 =>
 (vl x1 r1.2).bind fun r2 =>
 (Au P #[9] 3 #[r2.1] r2.2).bind fun r3 =>
 (bo P .eql 3 (.tmp 8) (.const (.int .i64 0)) r3.1 (.int .i64 0) r3.2).bind fun r4 =>
 AK r4.1 (
 (vl x0 r4.2).bind fun r5 =>
 (EV P 100 #[r5.1] r5.2).bind fun r6 =>
 (bo P .add 3 (.tmp 11) (.const (.int .i64 1)) r6.1 (.int .i64 1) r6.2).bind fun r7 =>
 (vl r7.1 r7.2).bind fun r8 =>
 some (r8.1, r8.2)) (
 (vl x1 r4.2).bind fun r9 =>
 (Au P #[9] 3 #[r9.1] r9.2).bind fun r10 =>
 (bo P .eql 3 (.tmp 14) (.const (.int .i64 1)) r10.1 (.int .i64 1) r10.2).bind fun r11 =>
 AK r11.1 (
 (vl x0 r11.2).bind fun r12 =>
 (vl x1 r12.2).bind fun r13 =>
 (ix P 9 r13.1 (.int .i64 0) r13.2).bind fun r14 =>
 (xf P 102 #[r12.1, r14.1] r14.2).bind fun r15 =>
 (vl r15.1 r15.2).bind fun r16 =>
 some (r16.1, r16.2)) (
 (vl (.int .i64 0) r11.2).bind fun r17 =>
 JP (AG (AL #[x0, x1]) [(4, r1.1), (7, r2.1), (8, r3.1), (9, r4.1), (13, r9.1), (14, r10.1), (15, r11.1), (5, r17.1)]) r17.2)) := by kernel_rfl
theorem JR (x0 x1 : Value) (w : World) : Bq P (EV P) 79 #[x0, x1] w =
 (vl (.int .i64 0) w).bind fun r1 =>
 (vl x0 r1.2).bind fun r2 =>
 (vl x1 r2.2).bind fun r3 =>
 (EV P 60 #[r2.1, r3.1] r3.2).bind fun r4 =>
 (vl r4.1 r4.2).bind fun r5 =>
 some (r5.1, r5.2) := by kernel_rfl
noncomputable def AQ (e : Env) (w : World) : Option (Value × World) := BB P (EV P) 80 73 (cB (cB (cB (cB (Af P 80))))) e w (Bl P (AA P 80))
noncomputable def Bk (e : Env) (w : World) : Option (Value × World) := BB P (EV P) 80 73 (cB (cB (cB (cB (cB (cB (cB (cB (Af P 80))))))))) e w (Bl P (AA P 80))
noncomputable def BJ (e : Env) (w : World) : Option (Value × World) := BB P (EV P) 80 73 (cB (cB (cB (cB (cB (cB (cB (cB (cB (cB (cB (cB (cB (Af P 80)))))))))))))) e w (Bl P (AA P 80))
theorem Ee (e : Env) (w : World) : AQ e w =
 (vl (.int .u64 0) w).bind fun r1 =>
 (vl (e 0) r1.2).bind fun r2 =>
 (vl (e 1) r2.2).bind fun r3 =>
 (vl (e 2) r3.2).bind fun r4 =>
 (EV P 103 #[r2.1, r3.1, r4.1] r4.2).bind fun r5 =>
 (vl r5.1 r5.2).bind fun r6 =>
 (xt P r6.1 0 r6.2).bind fun r7 =>
 (xt P r6.1 1 r7.2).bind fun r8 =>
 (vl r7.1 r8.2).bind fun r9 =>
 (vl r8.1 r9.2).bind fun r10 =>
 (vl r10.1 r10.2).bind fun r11 =>
 (bo P .neq 43 (.tmp 32) (.const Go.Value.nilIface) r11.1 Go.Value.nilIface r11.2).bind fun r12 =>
 (vl r12.1 r12.2).bind fun r13 =>
 (Am r13.1 true (vl r10.1 r13.2) r13.2).bind fun r14 =>
 (Am r13.1 true (mi P 128 (.int .i64 1) r14.2) r14.2).bind fun r15 =>
 (Am r13.1 true (bo P .neq 43 (.tmp 35) (.tmp 36) r14.1 r15.1 r15.2) r15.2).bind fun r16 =>
 (Ax r13.1 r16.1 (.bool false) r16.2).bind fun r17 =>
 AK r17.1 (
 (vl r10.1 r17.2).bind fun r18 =>
 (vl (.int .i64 0) r18.2).bind fun r19 =>
 (vl r18.1 r19.2).bind fun r20 =>
 some (.tuple #[r19.1, r20.1], r20.2)) (
 (vl (e 2) r17.2).bind fun r21 =>
 (bo P .eql 3 (.tmp 40) (.const (.int .i64 0)) r21.1 (.int .i64 0) r21.2).bind fun r22 =>
 AK r22.1 (
 (vl (.int .i64 64) r22.2).bind fun r23 =>
 Bk (AG e [(9, r1.1), (26, r2.1), (27, r3.1), (28, r4.1), (29, r5.1), (25, r6.1), (30, r7.1), (31, r8.1), (9, r9.1), (7, r10.1), (32, r11.1), (33, r12.1), (34, r13.1), (35, r14.1), (36, r15.1), (37, r16.1), (38, r17.1), (40, r21.1), (41, r22.1), (2, r23.1)]) r23.2) (
 Bk (AG e [(9, r1.1), (26, r2.1), (27, r3.1), (28, r4.1), (29, r5.1), (25, r6.1), (30, r7.1), (31, r8.1), (9, r9.1), (7, r10.1), (32, r11.1), (33, r12.1), (34, r13.1), (35, r14.1), (36, r15.1), (37, r16.1), (38, r17.1), (40, r21.1), (41, r22.1)]) r22.2)) := by kernel_rfl
theorem Ef (e : Env) (w : World) : Bk e w =
 (vl (e 2) w).bind fun r1 =>
 (bo P .sub 3 (.tmp 42) (.const (.int .i64 1)) r1.1 (.int .i64 1) r1.2).bind fun r2 =>
 (cv P 3 126 r2.1 r2.2).bind fun r3 =>
 (bo P .shl 120 (.const (.int .u64 1)) (.tmp 44) (.int .u64 1) r3.1 r3.2).bind fun r4 =>
 (vl r4.1 r4.2).bind fun r5 =>
 (vl (e 8) r5.2).bind fun r6 =>
 (uo P .not r6.1 r6.2).bind fun r7 =>
 (vl r7.1 r7.2).bind fun r8 =>
 (Am r8.1 true (vl (e 9) r8.2) r8.2).bind fun r9 =>
 (Am r8.1 true (vl r5.1 r9.2) r9.2).bind fun r10 =>
 (Am r8.1 true (bo P .geq 120 (.tmp 49) (.tmp 50) r9.1 r10.1 r10.2) r10.2).bind fun r11 =>
 (Ax r8.1 r11.1 (.bool false) r11.2).bind fun r12 =>
 AK r12.1 (
 (vl r5.1 r12.2).bind fun r13 =>
 (bo P .sub 120 (.tmp 53) (.const (.int .u64 1)) r13.1 (.int .u64 1) r13.2).bind fun r14 =>
 (cv P 120 2 r14.1 r14.2).bind fun r15 =>
 (mi P 128 (.int .i64 1) r15.2).bind fun r16 =>
 (vl r15.1 r16.2).bind fun r17 =>
 (vl r16.1 r17.2).bind fun r18 =>
 some (.tuple #[r17.1, r18.1], r18.2)) (
 (vl (e 8) r12.2).bind fun r19 =>
 (vl r19.1 r19.2).bind fun r20 =>
 (Am r20.1 true (vl (e 9) r20.2) r20.2).bind fun r21 =>
 (Am r20.1 true (vl r5.1 r21.2) r21.2).bind fun r22 =>
 (Am r20.1 true (bo P .gtr 120 (.tmp 59) (.tmp 60) r21.1 r22.1 r22.2) r22.2).bind fun r23 =>
 (Ax r20.1 r23.1 (.bool false) r23.2).bind fun r24 =>
 AK r24.1 (
 (vl r5.1 r24.2).bind fun r25 =>
 (cv P 120 2 r25.1 r25.2).bind fun r26 =>
 (uo P .neg r26.1 r26.2).bind fun r27 =>
 (mi P 128 (.int .i64 1) r27.2).bind fun r28 =>
 (vl r27.1 r28.2).bind fun r29 =>
 (vl r28.1 r29.2).bind fun r30 =>
 some (.tuple #[r29.1, r30.1], r30.2)) (
 (vl (e 9) r24.2).bind fun r31 =>
 (cv P 120 2 r31.1 r31.2).bind fun r32 =>
 (vl r32.1 r32.2).bind fun r33 =>
 (vl (e 8) r33.2).bind fun r34 =>
 AK r34.1 (
 (vl r33.1 r34.2).bind fun r35 =>
 (uo P .neg r35.1 r35.2).bind fun r36 =>
 (vl r36.1 r36.2).bind fun r37 =>
 BJ (AG e [(42, r1.1), (43, r2.1), (44, r3.1), (45, r4.1), (10, r5.1), (46, r6.1), (47, r7.1), (48, r8.1), (49, r9.1), (50, r10.1), (51, r11.1), (52, r12.1), (57, r19.1), (58, r20.1), (59, r21.1), (60, r22.1), (61, r23.1), (62, r24.1), (67, r31.1), (68, r32.1), (11, r33.1), (69, r34.1), (70, r35.1), (71, r36.1), (11, r37.1)]) r37.2) (
 BJ (AG e [(42, r1.1), (43, r2.1), (44, r3.1), (45, r4.1), (10, r5.1), (46, r6.1), (47, r7.1), (48, r8.1), (49, r9.1), (50, r10.1), (51, r11.1), (52, r12.1), (57, r19.1), (58, r20.1), (59, r21.1), (60, r22.1), (61, r23.1), (62, r24.1), (67, r31.1), (68, r32.1), (11, r33.1), (69, r34.1)]) r34.2))) := by kernel_rfl
theorem BX (e : Env) (w : World) : BJ e w =
 (vl (e 11) w).bind fun r1 =>
 (vl r1.1 r1.2).bind fun r2 =>
 (vl Go.Value.nilIface r2.2).bind fun r3 =>
 some (.tuple #[r2.1, r3.1], r3.2) := by kernel_rfl
theorem EM (x0 x1 x2 : Value) (w : World) : Bq P (EV P) 80 #[x0, x1, x2] w =
 (vl (.int .i64 0) w).bind fun r1 =>
 (vl Go.Value.nilIface r1.2).bind fun r2 =>
 (vl x0 r2.2).bind fun r3 =>
 (bo P .eql 9 (.tmp 12) (.const (Go.Value.string { data := #[] })) r3.1 (Go.Value.string { data := #[] }) r3.2).bind fun r4 =>
 AK r4.1 (
 (mi P 128 (.int .i64 2) r4.2).bind fun r5 =>
 (vl (.int .i64 0) r5.2).bind fun r6 =>
 (vl r5.1 r6.2).bind fun r7 =>
 some (.tuple #[r6.1, r7.1], r7.2)) (
 (vl (.bool false) r4.2).bind fun r8 =>
 (vl x0 r8.2).bind fun r9 =>
 (ix P 9 r9.1 (.int .i64 0) r9.2).bind fun r10 =>
 (bo P .eql 5 (.tmp 16) (.const (.int .u8 43)) r10.1 (.int .u8 43) r10.2).bind fun r11 =>
 (vl r11.1 r11.2).bind fun r12 =>
 AK r12.1 (
 (vl x0 r12.2).bind fun r13 =>
 (sl P 9 r13.1 (some (.int .i64 1)) none none r13.2).bind fun r14 =>
 (vl r14.1 r14.2).bind fun r15 =>
 AQ (AG (AL #[x0, x1, x2]) [(6, r1.1), (7, r2.1), (12, r3.1), (13, r4.1), (8, r8.1), (15, r9.1), (16, r10.1), (18, r11.1), (17, r12.1), (19, r13.1), (20, r14.1), (0, r15.1)]) r15.2) (
 (bo P .eql 5 (.tmp 16) (.const (.int .u8 45)) r10.1 (.int .u8 45) r12.2).bind fun r16 =>
 (vl r16.1 r16.2).bind fun r17 =>
 AK r17.1 (
 (vl x0 r17.2).bind fun r18 =>
 (sl P 9 r18.1 (some (.int .i64 1)) none none r18.2).bind fun r19 =>
 (vl r19.1 r19.2).bind fun r20 =>
 (vl (.bool true) r20.2).bind fun r21 =>
 AQ (AG (AL #[x0, x1, x2]) [(6, r1.1), (7, r2.1), (12, r3.1), (13, r4.1), (8, r8.1), (15, r9.1), (16, r10.1), (18, r11.1), (17, r12.1), (22, r16.1), (21, r17.1), (23, r18.1), (24, r19.1), (0, r20.1), (8, r21.1)]) r21.2) (
 AQ (AG (AL #[x0, x1, x2]) [(6, r1.1), (7, r2.1), (12, r3.1), (13, r4.1), (8, r8.1), (15, r9.1), (16, r10.1), (18, r11.1), (17, r12.1), (22, r16.1), (21, r17.1)]) r17.2))) := by kernel_rfl
theorem GX (x0 x1 : Value) (w : World) : Bq P (EV P) 81 #[x0, x1] w =
 (vl (Go.Value.pointer none) w).bind fun r1 =>
 (vl x0 (dw r1.2)).bind fun r3 =>
 Ag (r3.2 = (dw r1.2)) <|
 (vl x1 (dw r1.2)).bind fun r4 =>
 Ag (r4.2 = (dw r1.2)) <|
 (ld P 43 (.pointer (some ⟨2, 0, none⟩)) (dw r1.2)).bind fun r5 =>
 Ag (r5.2 = (dw r1.2)) <|
 (EV P 104 #[r4.1] (dw r1.2)).bind fun r6 =>
 Ag (ld P 43 (.pointer (some ⟨2, 0, none⟩)) r6.2 = some (r5.1, r6.2) ∧ True) <|
 (bd P 152 #[(0, r3.1), (1, r6.1), (2, r5.1)] r6.2).bind fun r7 =>
 Ag (r7.2 = r6.2) <|
 (bx P 152 r7.1 r6.2).bind fun r8 =>
 Ag (True ∧ True ∧ True) <|
 (vl r8.1 r8.2).bind fun r9 =>
 Ag (r9.2 = r8.2) <|
 some (r9.1, r8.2) := by kernel_rfl
theorem Hm (x0 x1 : Value) (w : World) : Bq P (EV P) 82 #[x0, x1] w =
 (vl (Go.Value.pointer none) w).bind fun r1 =>
 (vl x0 (dw r1.2)).bind fun r3 =>
 Ag (r3.2 = (dw r1.2)) <|
 (vl x1 (dw r1.2)).bind fun r4 =>
 Ag (r4.2 = (dw r1.2)) <|
 (ld P 43 (.pointer (some ⟨3, 0, none⟩)) (dw r1.2)).bind fun r5 =>
 Ag (r5.2 = (dw r1.2)) <|
 (EV P 104 #[r4.1] (dw r1.2)).bind fun r6 =>
 Ag (ld P 43 (.pointer (some ⟨3, 0, none⟩)) r6.2 = some (r5.1, r6.2) ∧ True) <|
 (bd P 152 #[(0, r3.1), (1, r6.1), (2, r5.1)] r6.2).bind fun r7 =>
 Ag (r7.2 = r6.2) <|
 (bx P 152 r7.1 r6.2).bind fun r8 =>
 Ag (True ∧ True ∧ True) <|
 (vl r8.1 r8.2).bind fun r9 =>
 Ag (r9.2 = r8.2) <|
 some (r9.1, r8.2) := by kernel_rfl
noncomputable def BO (e : Env) (w : World) : Option (Value × World) := BB P (EV P) 85 106 (cB (cA (cB (cA (cB (cB (Af P 85))))))) e w (An 0 (AB P (EV P) 85 106 (cB (cB (cB (Af P 85)))) (Bl P (AA P 85))))
noncomputable def Ca (e : Env) (w : World) : Option (Value × World) := BB P (EV P) 85 106 (cB (cB (cB (cB (cB (cA (cB (cA (cB (cB (Af P 85))))))))))) e w (An 0 (AB P (EV P) 85 106 (cB (cB (cB (Af P 85)))) (Bl P (AA P 85))))
noncomputable def Cb (e : Env) (w : World) : Option (Value × World) := BB P (EV P) 85 106 (cB (cB (cB (cB (cB (cB (cB (cA (cB (cA (cB (cB (Af P 85))))))))))))) e w (An 0 (AB P (EV P) 85 106 (cB (cB (cB (Af P 85)))) (Bl P (AA P 85))))
noncomputable def Cc (e : Env) (w : World) : Option (Value × World) := BB P (EV P) 85 106 (cB (cB (cB (cB (cB (cB (cB (cB (cB (cB (cB (cA (cB (cA (cB (cB (Af P 85))))))))))))))))) e w (An 0 (AB P (EV P) 85 106 (cB (cB (cB (Af P 85)))) (Bl P (AA P 85))))
noncomputable def CK (e : Env) (w : World) : Option (Value × World) := BB P (EV P) 85 106 (cB (cB (cB (cB (cB (cB (cB (cB (cB (cB (cB (cB (cB (cB (cB (cA (cB (cA (cB (cB (Af P 85))))))))))))))))))))) e w (An 0 (AB P (EV P) 85 106 (cB (cB (cB (Af P 85)))) (Bl P (AA P 85))))
noncomputable def CL (e : Env) (w : World) : Option (Value × World) := BB P (EV P) 85 106 (cB (cB (cB (cB (cB (cB (cB (cB (cB (cB (cB (cB (cB (cB (cB (cB (cB (cA (cB (cA (cB (cB (Af P 85))))))))))))))))))))))) e w (An 0 (AB P (EV P) 85 106 (cB (cB (cB (Af P 85)))) (Bl P (AA P 85))))
theorem H0 (e : Env) (w : World) : BO e w =
 AK (e 11) (
 (vl (e 0) w).bind fun r1 =>
 (EV P 25 #[r1.1, (.int .i64 4)] r1.2).bind fun r2 =>
 (vl (e 0) r2.2).bind fun r3 =>
 (EV P 25 #[r3.1, (.int .i64 4)] r3.2).bind fun r4 =>
 (vl (e 0) r4.2).bind fun r5 =>
 (EV P 106 #[r5.1] r5.2).bind fun r6 =>
 (bd P 118 #[(0, (.int .i64 1)), (1, r2.1), (3, r4.1), (4, r6.1)] r6.2).bind fun r7 =>
 (st P 118 (e 4) r7.1 r7.2).bind fun r8 =>
 ((ld P 118 (e 4) r8.2).bind fun r9 => Ag (r9.2 = r8.2) (some r9.1)).bind fun v10 =>
 some (v10, r8.2)) (
 (bo P .eql 3 (.tmp 10) (.const (.int .i64 3)) (e 10) (.int .i64 3) w).bind fun r11 =>
 (vl r11.1 r11.2).bind fun r12 =>
 AK r12.1 (
 (vl (e 0) r12.2).bind fun r13 =>
 (EV P 25 #[r13.1, (.int .i64 4)] r13.2).bind fun r14 =>
 (vl (e 0) r14.2).bind fun r15 =>
 (EV P 25 #[r15.1, (.int .i64 4)] r15.2).bind fun r16 =>
 (bd P 118 #[(0, (.int .i64 1)), (1, r14.1), (3, r16.1), (5, (.bool true))] r16.2).bind fun r17 =>
 (st P 118 (e 4) r17.1 r17.2).bind fun r18 =>
 ((ld P 118 (e 4) r18.2).bind fun r19 => Ag (r19.2 = r18.2) (some r19.1)).bind fun v20 =>
 some (v20, r18.2)) (
 (bo P .eql 3 (.tmp 10) (.const (.int .i64 4)) (e 10) (.int .i64 4) r12.2).bind fun r21 =>
 (vl r21.1 r21.2).bind fun r22 =>
 AK r22.1 (
 Ca (AG e [(23, r11.1), (22, r12.1), (30, r21.1), (29, r22.1)]) r22.2) (
 (bo P .eql 3 (.tmp 10) (.const (.int .i64 5)) (e 10) (.int .i64 5) r22.2).bind fun r23 =>
 (vl r23.1 r23.2).bind fun r24 =>
 AK r24.1 (
 Ca (AG e [(23, r11.1), (22, r12.1), (30, r21.1), (29, r22.1), (31, r23.1), (29, r24.1)]) r24.2) (
 (bo P .eql 3 (.tmp 10) (.const (.int .i64 6)) (e 10) (.int .i64 6) r24.2).bind fun r25 =>
 (vl r25.1 r25.2).bind fun r26 =>
 Ca (AG e [(23, r11.1), (22, r12.1), (30, r21.1), (29, r22.1), (31, r23.1), (29, r24.1), (32, r25.1), (29, r26.1)]) r26.2)))) := by kernel_rfl
theorem H4 (e : Env) (w : World) : Ca e w =
 AK (e 29) (
 (vl (e 0) w).bind fun r1 =>
 (EV P 25 #[r1.1, (.int .i64 4)] r1.2).bind fun r2 =>
 (bd P 118 #[(0, (.int .i64 2)), (1, r2.1)] r2.2).bind fun r3 =>
 (st P 118 (e 4) r3.1 r3.2).bind fun r4 =>
 ((ld P 118 (e 4) r4.2).bind fun r5 => Ag (r5.2 = r4.2) (some r5.1)).bind fun v6 =>
 some (v6, r4.2)) (
 (bo P .eql 3 (.tmp 10) (.const (.int .i64 7)) (e 10) (.int .i64 7) w).bind fun r7 =>
 (vl r7.1 r7.2).bind fun r8 =>
 AK r8.1 (
 Cb (AG e [(37, r7.1), (36, r8.1)]) r8.2) (
 (bo P .eql 3 (.tmp 10) (.const (.int .i64 8)) (e 10) (.int .i64 8) r8.2).bind fun r9 =>
 (vl r9.1 r9.2).bind fun r10 =>
 AK r10.1 (
 Cb (AG e [(37, r7.1), (36, r8.1), (38, r9.1), (36, r10.1)]) r10.2) (
 (bo P .eql 3 (.tmp 10) (.const (.int .i64 9)) (e 10) (.int .i64 9) r10.2).bind fun r11 =>
 (vl r11.1 r11.2).bind fun r12 =>
 Cb (AG e [(37, r7.1), (36, r8.1), (38, r9.1), (36, r10.1), (39, r11.1), (36, r12.1)]) r12.2))) := by kernel_rfl
theorem H5 (e : Env) (w : World) : Cb e w =
 AK (e 36) (
 (vl (e 0) w).bind fun r1 =>
 (EV P 25 #[r1.1, (.int .i64 4)] r1.2).bind fun r2 =>
 (vl (e 0) r2.2).bind fun r3 =>
 (EV P 25 #[r3.1, (.int .i64 4)] r3.2).bind fun r4 =>
 (vl (e 0) r4.2).bind fun r5 =>
 (EV P 25 #[r5.1, (.int .i64 4)] r5.2).bind fun r6 =>
 (bd P 118 #[(0, (.int .i64 3)), (1, r2.1), (2, r4.1), (3, r6.1)] r6.2).bind fun r7 =>
 (st P 118 (e 4) r7.1 r7.2).bind fun r8 =>
 ((ld P 118 (e 4) r8.2).bind fun r9 => Ag (r9.2 = r8.2) (some r9.1)).bind fun v10 =>
 some (v10, r8.2)) (
 (bo P .eql 3 (.tmp 10) (.const (.int .i64 10)) (e 10) (.int .i64 10) w).bind fun r11 =>
 (vl r11.1 r11.2).bind fun r12 =>
 AK r12.1 (
 (vl (e 0) r12.2).bind fun r13 =>
 (bs P 87 2 #[(0, (.int .i64 4)), (1, (.int .i64 5))] r13.2).bind fun r14 =>
 (EV P 54 #[r13.1, r14.1] r14.2).bind fun r15 =>
 (vl (e 0) r15.2).bind fun r16 =>
 (EV P 25 #[r16.1, (.int .i64 4)] r16.2).bind fun r17 =>
 (vl (e 0) r17.2).bind fun r18 =>
 (EV P 25 #[r18.1, (.int .i64 3)] r18.2).bind fun r19 =>
 (bd P 118 #[(0, r15.1), (1, r17.1), (2, r19.1)] r19.2).bind fun r20 =>
 (st P 118 (e 4) r20.1 r20.2).bind fun r21 =>
 ((ld P 118 (e 4) r21.2).bind fun r22 => Ag (r22.2 = r21.2) (some r22.1)).bind fun v23 =>
 some (v23, r21.2)) (
 (bo P .eql 3 (.tmp 10) (.const (.int .i64 11)) (e 10) (.int .i64 11) r12.2).bind fun r24 =>
 (vl r24.1 r24.2).bind fun r25 =>
 AK r25.1 (
 Cc (AG e [(48, r11.1), (47, r12.1), (58, r24.1), (57, r25.1)]) r25.2) (
 (bo P .eql 3 (.tmp 10) (.const (.int .i64 12)) (e 10) (.int .i64 12) r25.2).bind fun r26 =>
 (vl r26.1 r26.2).bind fun r27 =>
 AK r27.1 (
 Cc (AG e [(48, r11.1), (47, r12.1), (58, r24.1), (57, r25.1), (59, r26.1), (57, r27.1)]) r27.2) (
 (bo P .eql 3 (.tmp 10) (.const (.int .i64 13)) (e 10) (.int .i64 13) r27.2).bind fun r28 =>
 (vl r28.1 r28.2).bind fun r29 =>
 Cc (AG e [(48, r11.1), (47, r12.1), (58, r24.1), (57, r25.1), (59, r26.1), (57, r27.1), (60, r28.1), (57, r29.1)]) r29.2)))) := by kernel_rfl
theorem H6 (e : Env) (w : World) : Cc e w =
 AK (e 57) (
 (vl (e 5) w).bind fun r1 =>
 (vl (e 0) r1.2).bind fun r2 =>
 (bs P 87 4 #[(0, (.int .i64 0)), (1, (.int .i64 0)), (2, (.int .i64 1)), (3, (.int .i64 2))] r2.2).bind fun r3 =>
 (EV P 54 #[r2.1, r3.1] r3.2).bind fun r4 =>
 (bd P 118 #[(0, (.int .i64 6)), (1, r1.1), (2, r4.1)] r4.2).bind fun r5 =>
 (st P 118 (e 4) r5.1 r5.2).bind fun r6 =>
 ((ld P 118 (e 4) r6.2).bind fun r7 => Ag (r7.2 = r6.2) (some r7.1)).bind fun v8 =>
 some (v8, r6.2)) (
 (bo P .eql 3 (.tmp 10) (.const (.int .i64 14)) (e 10) (.int .i64 14) w).bind fun r9 =>
 (vl r9.1 r9.2).bind fun r10 =>
 AK r10.1 (
 (vl (e 0) r10.2).bind fun r11 =>
 (bs P 87 2 #[(0, (.int .i64 7)), (1, (.int .i64 8))] r11.2).bind fun r12 =>
 (EV P 54 #[r11.1, r12.1] r12.2).bind fun r13 =>
 (vl (e 5) r13.2).bind fun r14 =>
 (vl (e 0) r14.2).bind fun r15 =>
 (EV P 25 #[r15.1, (.int .i64 4)] r15.2).bind fun r16 =>
 (bd P 118 #[(0, r13.1), (1, r14.1), (2, r16.1)] r16.2).bind fun r17 =>
 (st P 118 (e 4) r17.1 r17.2).bind fun r18 =>
 ((ld P 118 (e 4) r18.2).bind fun r19 => Ag (r19.2 = r18.2) (some r19.1)).bind fun v20 =>
 some (v20, r18.2)) (
 (bo P .eql 3 (.tmp 10) (.const (.int .i64 15)) (e 10) (.int .i64 15) r10.2).bind fun r21 =>
 (vl r21.1 r21.2).bind fun r22 =>
 AK r22.1 (
 CK (AG e [(67, r9.1), (66, r10.1), (76, r21.1), (75, r22.1)]) r22.2) (
 (bo P .eql 3 (.tmp 10) (.const (.int .i64 16)) (e 10) (.int .i64 16) r22.2).bind fun r23 =>
 (vl r23.1 r23.2).bind fun r24 =>
 CK (AG e [(67, r9.1), (66, r10.1), (76, r21.1), (75, r22.1), (77, r23.1), (75, r24.1)]) r24.2))) := by kernel_rfl
theorem H7 (e : Env) (w : World) : CK e w =
 AK (e 75) (
 (vl (e 5) w).bind fun r1 =>
 (vl (e 0) r1.2).bind fun r2 =>
 (EV P 25 #[r2.1, (.int .i64 3)] r2.2).bind fun r3 =>
 (bd P 118 #[(0, (.int .i64 9)), (1, r1.1), (2, r3.1)] r3.2).bind fun r4 =>
 (st P 118 (e 4) r4.1 r4.2).bind fun r5 =>
 ((ld P 118 (e 4) r5.2).bind fun r6 => Ag (r6.2 = r5.2) (some r6.1)).bind fun v7 =>
 some (v7, r5.2)) (
 (bo P .eql 3 (.tmp 10) (.const (.int .i64 17)) (e 10) (.int .i64 17) w).bind fun r8 =>
 (vl r8.1 r8.2).bind fun r9 =>
 AK r9.1 (
 CL (AG e [(83, r8.1), (82, r9.1)]) r9.2) (
 (bo P .eql 3 (.tmp 10) (.const (.int .i64 18)) (e 10) (.int .i64 18) r9.2).bind fun r10 =>
 (vl r10.1 r10.2).bind fun r11 =>
 CL (AG e [(83, r8.1), (82, r9.1), (84, r10.1), (82, r11.1)]) r11.2)) := by kernel_rfl
theorem H8 (e : Env) (w : World) : CL e w =
 AK (e 82) (
 (vl (e 0) w).bind fun r1 =>
 (EV P 25 #[r1.1, (.int .i64 3)] r1.2).bind fun r2 =>
 (vl r2.1 r2.2).bind fun r3 =>
 (vl (e 5) r3.2).bind fun r4 =>
 (vl r3.1 r4.2).bind fun r5 =>
 (fa P 67 (e 3) 0 r5.2).bind fun r6 =>
 (ld P 63 r6.1 r6.2).bind fun r7 =>
 (vl r3.1 r7.2).bind fun r8 =>
 (ia P 63 r7.1 r8.1 r8.2).bind fun r9 =>
 (fa P 102 r9.1 4 r9.2).bind fun r10 =>
 (ld P 100 r10.1 r10.2).bind fun r11 =>
 (vl (e 5) r11.2).bind fun r12 =>
 (ia P 100 r11.1 r12.1 r12.2).bind fun r13 =>
 (ld P 99 r13.1 r13.2).bind fun r14 =>
 (Au P #[99] 3 #[r14.1] r14.2).bind fun r15 =>
 (bd P 118 #[(0, (.int .i64 10)), (1, r4.1), (2, r5.1), (3, r15.1)] r15.2).bind fun r16 =>
 (st P 118 (e 4) r16.1 r16.2).bind fun r17 =>
 ((ld P 118 (e 4) r17.2).bind fun r18 => Ag (r18.2 = r17.2) (some r18.1)).bind fun v19 =>
 some (v19, r17.2)) (
 (vl (e 0) w).bind fun r20 =>
 (bs P 87 7 #[(0, (.int .i64 11)), (1, (.int .i64 11)), (2, (.int .i64 11)), (3, (.int .i64 12)), (4, (.int .i64 13)), (5, (.int .i64 0)), (6, (.int .i64 14))] r20.2).bind fun r21 =>
 (EV P 54 #[r20.1, r21.1] r21.2).bind fun r22 =>
 (vl (e 0) r22.2).bind fun r23 =>
 (EV P 25 #[r23.1, (.int .i64 3)] r23.2).bind fun r24 =>
 (bd P 118 #[(0, r22.1), (1, r24.1)] r24.2).bind fun r25 =>
 (st P 118 (e 4) r25.1 r25.2).bind fun r26 =>
 ((ld P 118 (e 4) r26.2).bind fun r27 => Ag (r27.2 = r26.2) (some r27.1)).bind fun v28 =>
 some (v28, r26.2)) := by kernel_rfl
theorem JS (x0 x1 : Value) (w : World) : Bq P (EV P) 85 #[x0, x1] w =
 (bx P 67 x1 w).bind fun r1 =>
 (al P 118 r1.2).bind fun r2 =>
 (vl x0 r2.2).bind fun r3 =>
 (EV P 25 #[r3.1, (.int .i64 3)] r3.2).bind fun r4 =>
 (vl r4.1 r4.2).bind fun r5 =>
 (vl x0 r5.2).bind fun r6 =>
 (EV P 25 #[r6.1, (.int .i64 20)] r6.2).bind fun r7 =>
 (bo P .eql 3 (.tmp 10) (.const (.int .i64 0)) r7.1 (.int .i64 0) r7.2).bind fun r8 =>
 (vl r8.1 r8.2).bind fun r9 =>
 AK r9.1 (
 BO (AG (AL #[x0, x1]) [(3, r1.1), (4, r2.1), (7, r3.1), (8, r4.1), (5, r5.1), (9, r6.1), (10, r7.1), (12, r8.1), (11, r9.1)]) r9.2) (
 (bo P .eql 3 (.tmp 10) (.const (.int .i64 1)) r7.1 (.int .i64 1) r9.2).bind fun r10 =>
 (vl r10.1 r10.2).bind fun r11 =>
 AK r11.1 (
 BO (AG (AL #[x0, x1]) [(3, r1.1), (4, r2.1), (7, r3.1), (8, r4.1), (5, r5.1), (9, r6.1), (10, r7.1), (12, r8.1), (11, r9.1), (13, r10.1), (11, r11.1)]) r11.2) (
 (bo P .eql 3 (.tmp 10) (.const (.int .i64 2)) r7.1 (.int .i64 2) r11.2).bind fun r12 =>
 (vl r12.1 r12.2).bind fun r13 =>
 BO (AG (AL #[x0, x1]) [(3, r1.1), (4, r2.1), (7, r3.1), (8, r4.1), (5, r5.1), (9, r6.1), (10, r7.1), (12, r8.1), (11, r9.1), (13, r10.1), (11, r11.1), (14, r12.1), (11, r13.1)]) r13.2)) := by kernel_rfl
end Go.Proofs.YtkhbpmhagpljiaaGreatDoor.X
