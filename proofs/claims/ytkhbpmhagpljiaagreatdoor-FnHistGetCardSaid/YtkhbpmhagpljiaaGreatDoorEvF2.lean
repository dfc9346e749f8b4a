/- A part of the proof, without conditions. -/
import Derived.Test.YtkhbpmhagpljiaaGreatDoorEvT
set_option linter.unusedVariables false
set_option linter.unusedSimpArgs false
set_option linter.deprecated false
set_option maxRecDepth 100000
namespace Go.Proofs.YtkhbpmhagpljiaaGreatDoor.X
open Go Go.Ev
theorem JG (x0 : Value) (w : World) : Bv P (EV P) 4 #[x0] w = (do
 let r1 ← vl (.bool false) w
 let r2 ← vl x0 r1.2
 let r3 ← Au P #[22] 3 #[r2.1] r2.2
 let r4 ← bo P .gtr 3 (.tmp 9) (.const (.int .i64 1048576)) r3.1 (.int .i64 1048576) r3.2
 AL r4.1 (do
 let r5 ← vl (.bool true) r4.2
 some (r5.1, r5.2)) (do
 let r6 ← vl x0 r4.2
 let r7 ← EV P 10 #[r6.1] r6.2
 let r8 ← vl r7.1 r7.2
 let r9 ← vl r8.1 r8.2
 let r10 ← EV P 8 #[r9.1] r9.2
 let r11 ← vl r10.1 r10.2
 let r12 ← xt P r11.1 0 r11.2
 let r13 ← xt P r11.1 1 r12.2
 let r14 ← vl r12.1 r13.2
 let r15 ← vl r13.1 r14.2
 let r16 ← vl r8.1 r15.2
 let r17 ← EV P 11 #[r16.1] r16.2
 let r18 ← vl r17.1 r17.2
 let r19 ← xt P r18.1 0 r18.2
 let r20 ← xt P r18.1 1 r19.2
 let r21 ← vl r19.1 r20.2
 let r22 ← vl r20.1 r21.2
 let r23 ← vl r15.1 r22.2
 let r24 ← vl r22.1 r23.2
 let r25 ← bo P .neq 4 (.tmp 23) (.tmp 24) r23.1 r24.1 r24.2
 let r26 ← vl r25.1 r25.2
 let r27 ← Ao r26.1 false (vl r14.1 r26.2) r26.2
 let r28 ← Ao r26.1 false (vl r21.1 r27.2) r27.2
 let r29 ← Ao r26.1 false (EV P 9 #[r27.1, r28.1] r28.2) r28.2
 let r30 ← Ao r26.1 false (uo P .not r29.1 r29.2) r29.2
 let r31 ← Ax r26.1 (.bool true) r30.1 r30.2
 let r32 ← vl r31.1 r31.2
 let r33 ← Ao r32.1 false (vl r15.1 r32.2) r32.2
 let r34 ← Ao r32.1 false (uo P .not r33.1 r33.2) r33.2
 let r35 ← Ax r32.1 (.bool true) r34.1 r34.2
 AL r35.1 (do
 let r36 ← vl r15.1 r35.2
 let r37 ← vl r22.1 r36.2
 let r38 ← bo P .eql 4 (.tmp 36) (.tmp 37) r36.1 r37.1 r37.2
 let r39 ← vl r38.1 r38.2
 let r40 ← Ao r39.1 true (vl r14.1 r39.2) r39.2
 let r41 ← Ao r39.1 true (vl r21.1 r40.2) r40.2
 let r42 ← Ao r39.1 true (EV P 9 #[r40.1, r41.1] r41.2) r41.2
 let r43 ← Ax r39.1 r42.1 (.bool false) r42.2
 let r44 ← vl r43.1 r43.2
 some (r44.1, r44.2)) (do
 let r45 ← vl r14.1 r35.2
 let r46 ← EV P 6 #[r45.1] r45.2
 let r47 ← vl r8.1 r46.2
 let r48 ← bo P .eql 9 (.tmp 45) (.tmp 46) r46.1 r47.1 r47.2
 let r49 ← vl r48.1 r48.2
 let r50 ← Ao r49.1 true (vl r14.1 r49.2) r49.2
 let r51 ← Ao r49.1 true (Au P #[23] 3 #[r50.1] r50.2) r50.2
 let r52 ← Ao r49.1 true (bo P .leq 3 (.tmp 50) (.const (.int .i64 80)) r51.1 (.int .i64 80) r51.2) r51.2
 let r53 ← Ax r49.1 r52.1 (.bool false) r52.2
 let r54 ← vl r53.1 r53.2
 some (r54.1, r54.2)))) := by kernel_rfl
noncomputable def Dr (e : Env) (w : World) : Option (Value × World) := BA P (EV P) 6 39 (.loop (cA (cA (cB (cA (cB (cB (cB (Ae P 6))))))))) e w (Am 0 (AE P (EV P) 6 39 (cB (cB (cB (cB (Ae P 6))))) (Bc P (AB P 6))))
theorem FK (e : Env) (w : World) : Dr e w = (do
 let r1 ← bo P .lss 3 (.tmp 11) (.tmp 10) (e 11) (e 10) w
 AL r1.1 (do
 let r2 ← ia P 23 (e 9) (e 11) r1.2
 let r3 ← ld P 41 r2.1 r2.2
 let r4 ← al P 41 r3.2
 let r5 ← st P 41 r4.1 r3.1 r4.2
 Ah (fa P 41 r4.1 0) (dw r5.2) fun r7 => do
 Ah (ld P 3 r7.1) (dw r5.2) fun r8 => do
 Ah (fa P 41 r4.1 1) (dw r5.2) fun r9 => do
 Ah (ld P 3 r9.1) (dw r5.2) fun r10 => do
 Ah (fa P 41 r4.1 2) (dw r5.2) fun r11 => do
 Ah (ld P 3 r11.1) (dw r5.2) fun r12 => do
 Ah (fa P 41 r4.1 3) (dw r5.2) fun r13 => do
 Ah (ld P 39 r13.1) (dw r5.2) fun r14 => do
 let r15 ← EV P 16 #[r8.1] (dw r5.2)
 AG (ld P 39 r13.1 r15.2 = some (r14.1, r15.2) ∧ fa P 41 r4.1 3 r15.2 = some (r13.1, r15.2) ∧ ld P 3 r11.1 r15.2 = some (r12.1, r15.2) ∧ fa P 41 r4.1 2 r15.2 = some (r11.1, r15.2) ∧ ld P 3 r9.1 r15.2 = some (r10.1, r15.2) ∧ fa P 41 r4.1 1 r15.2 = some (r9.1, r15.2) ∧ True ∧ True ∧ True) <| do
 Ah (bo P .add 9 (.tmp 17) (.const (Go.Value.string { data := #[32] })) r15.1 (Go.Value.string { data := #[32] })) r15.2 fun r16 => do
 let r17 ← EV P 17 #[] r15.2
 AG (bo P .add 9 (.tmp 17) (.const (Go.Value.string { data := #[32] })) r15.1 (Go.Value.string { data := #[32] }) r17.2 = some (r16.1, r17.2) ∧ ld P 39 r13.1 r17.2 = some (r14.1, r17.2) ∧ fa P 41 r4.1 3 r17.2 = some (r13.1, r17.2) ∧ ld P 3 r11.1 r17.2 = some (r12.1, r17.2) ∧ fa P 41 r4.1 2 r17.2 = some (r11.1, r17.2) ∧ ld P 3 r9.1 r17.2 = some (r10.1, r17.2) ∧ fa P 41 r4.1 1 r17.2 = some (r9.1, r17.2) ∧ True ∧ True ∧ True) <| do
 Ah (ia P 47 r17.1 r10.1) r17.2 fun r18 => do
 Ah (ld P 9 r18.1) r17.2 fun r19 => do
 Ah (bo P .add 9 (.tmp 18) (.tmp 23) r16.1 r19.1) r17.2 fun r20 => do
 Ah (bo P .add 9 (.tmp 24) (.const (Go.Value.string { data := #[32] })) r20.1 (Go.Value.string { data := #[32] })) r17.2 fun r21 => do
 let r22 ← EV P 16 #[r12.1] r17.2
 AG (bo P .add 9 (.tmp 24) (.const (Go.Value.string { data := #[32] })) r20.1 (Go.Value.string { data := #[32] }) r22.2 = some (r21.1, r22.2) ∧ bo P .add 9 (.tmp 18) (.tmp 23) r16.1 r19.1 r22.2 = some (r20.1, r22.2) ∧ ld P 9 r18.1 r22.2 = some (r19.1, r22.2) ∧ ia P 47 r17.1 r10.1 r22.2 = some (r18.1, r22.2) ∧ bo P .add 9 (.tmp 17) (.const (Go.Value.string { data := #[32] })) r15.1 (Go.Value.string { data := #[32] }) r22.2 = some (r16.1, r22.2) ∧ ld P 39 r13.1 r22.2 = some (r14.1, r22.2) ∧ fa P 41 r4.1 3 r22.2 = some (r13.1, r22.2) ∧ True ∧ True ∧ ld P 3 r9.1 r22.2 = some (r10.1, r22.2) ∧ fa P 41 r4.1 1 r22.2 = some (r9.1, r22.2) ∧ True ∧ True ∧ True) <| do
 Ah (bo P .add 9 (.tmp 25) (.tmp 28) r21.1 r22.1) r22.2 fun r23 => do
 Ah (bo P .add 9 (.tmp 29) (.const (Go.Value.string { data := #[32] })) r23.1 (Go.Value.string { data := #[32] })) r22.2 fun r24 => do
 let r25 ← EV P 18 #[r14.1] r22.2
 AG (bo P .add 9 (.tmp 29) (.const (Go.Value.string { data := #[32] })) r23.1 (Go.Value.string { data := #[32] }) r25.2 = some (r24.1, r25.2) ∧ bo P .add 9 (.tmp 25) (.tmp 28) r21.1 r22.1 r25.2 = some (r23.1, r25.2) ∧ bo P .add 9 (.tmp 24) (.const (Go.Value.string { data := #[32] })) r20.1 (Go.Value.string { data := #[32] }) r25.2 = some (r21.1, r25.2) ∧ bo P .add 9 (.tmp 18) (.tmp 23) r16.1 r19.1 r25.2 = some (r20.1, r25.2) ∧ ld P 9 r18.1 r25.2 = some (r19.1, r25.2) ∧ ia P 47 r17.1 r10.1 r25.2 = some (r18.1, r25.2) ∧ bo P .add 9 (.tmp 17) (.const (Go.Value.string { data := #[32] })) r15.1 (Go.Value.string { data := #[32] }) r25.2 = some (r16.1, r25.2) ∧ True ∧ True ∧ True ∧ True ∧ ld P 3 r9.1 r25.2 = some (r10.1, r25.2) ∧ fa P 41 r4.1 1 r25.2 = some (r9.1, r25.2) ∧ True ∧ True ∧ True) <| do
 Ah (bo P .add 9 (.tmp 30) (.tmp 33) r24.1 r25.1) r25.2 fun r26 => do
 Ah (bo P .add 9 (.tmp 34) (.const (Go.Value.string { data := #[10] })) r26.1 (Go.Value.string { data := #[10] })) r25.2 fun r27 => do
 let r28 ← EV P 15 #[(e 3), r27.1] r25.2
 AG qt18 <| do
 let r29 ← bo P .add 3 (.tmp 11) (.const (.int .i64 1)) (e 11) (.int .i64 1) r28.2
 let r30 ← vl r29.1 r29.2
 Dr (AJ e [(12, r1.1), (13, r2.1), (14, r3.1), (5, r4.1), (15, r7.1), (16, r8.1), (20, r9.1), (21, r10.1), (26, r11.1), (27, r12.1), (31, r13.1), (32, r14.1), (17, r15.1), (18, r16.1), (19, r17.1), (22, r18.1), (23, r19.1), (24, r20.1), (25, r21.1), (28, r22.1), (29, r23.1), (30, r24.1), (33, r25.1), (34, r26.1), (35, r27.1), (36, r28.1), (37, r29.1), (11, r30.1)]) r30.2) (do
 let r31 ← EV P 19 #[(e 3)] r1.2
 let r32 ← vl r31.1 r31.2
 some (r32.1, r32.2))) := (AH P (EV P) 6 39 (cA (cA (cB (cA (cB (cB (cB (Ae P 6)))))))) e w (Am 0 (AE P (EV P) 6 39 (cB (cB (cB (cB (Ae P 6))))) (Bc P (AB P 6))))).trans (by kernel_rfl)
theorem Lk (x0 : Value) (w : World) : Bv P (EV P) 6 #[x0] w = (do
 let r1 ← vl (Go.Value.string { data := #[] }) w
 let r2 ← vl x0 r1.2
 let r3 ← EV P 14 #[r2.1] r2.2
 let r4 ← uo P .not r3.1 r3.2
 AL r4.1 (do
 let r5 ← vl (Go.Value.string { data := #[] }) r4.2
 some (r5.1, r5.2)) (do
 let r6 ← al P 37 r4.2
 let r7 ← vl x0 r6.2
 let r8 ← Au P #[23] 3 #[r7.1] r7.2
 let r9 ← vl (.int .i64 0) r8.2
 Dr (AJ (AO #[x0]) [(2, r1.1), (6, r2.1), (7, r3.1), (8, r4.1), (3, r6.1), (9, r7.1), (10, r8.1), (11, r9.1)]) r9.2)) := by kernel_rfl
noncomputable def Ds (e : Env) (w : World) : Option (Value × World) := BA P (EV P) 7 23 (.loop (cA (cA (cB (cA (cB (cB (Ae P 7)))))))) e w (Am 0 (AE P (EV P) 7 23 (cB (cB (cB (Ae P 7)))) (Bc P (AB P 7))))
theorem DB (e : Env) (w : World) : Ds e w = (do
 let r1 ← vl (e 4) w
 let r2 ← vl (e 0) r1.2
 let r3 ← Au P #[23] 3 #[r2.1] r2.2
 let r4 ← bo P .lss 3 (.tmp 5) (.tmp 7) r1.1 r3.1 r3.2
 let r5 ← vl r4.1 r4.2
 let r6 ← Ao r5.1 true (vl (e 0) r5.2) r5.2
 let r7 ← Ao r5.1 true (EV P 20 #[r6.1] r6.2) r6.2
 let r8 ← Ax r5.1 r7.1 (.bool false) r7.2
 AL r8.1 (do
 let r9 ← vl (e 3) r8.2
 let r10 ← vl (e 0) r9.2
 let r11 ← vl (e 4) r10.2
 let r12 ← ia P 23 r10.1 r11.1 r11.2
 let r13 ← ld P 41 r12.1 r12.2
 let r14 ← EV P 21 #[r13.1] r13.2
 let r15 ← bo P .add 9 (.tmp 15) (.tmp 20) r9.1 r14.1 r14.2
 let r16 ← vl r15.1 r15.2
 let r17 ← vl (e 4) r16.2
 let r18 ← bo P .add 3 (.tmp 13) (.const (.int .i64 1)) r17.1 (.int .i64 1) r17.2
 let r19 ← vl r18.1 r18.2
 Ds (AJ e [(5, r1.1), (6, r2.1), (7, r3.1), (8, r4.1), (9, r5.1), (10, r6.1), (11, r7.1), (12, r8.1), (15, r9.1), (16, r10.1), (17, r11.1), (18, r12.1), (19, r13.1), (20, r14.1), (21, r15.1), (3, r16.1), (13, r17.1), (14, r18.1), (4, r19.1)]) r19.2) (do
 let r20 ← vl (e 3) r8.2
 let r21 ← vl r20.1 r20.2
 some (r21.1, r21.2))) := (AH P (EV P) 7 23 (cA (cA (cB (cA (cB (cB (Ae P 7))))))) e w (Am 0 (AE P (EV P) 7 23 (cB (cB (cB (Ae P 7)))) (Bc P (AB P 7))))).trans (by kernel_rfl)
theorem Ll (x0 : Value) (w : World) : Bv P (EV P) 7 #[x0] w = (do
 let r1 ← vl (Go.Value.string { data := #[] }) w
 let r2 ← vl (Go.Value.string { data := #[] }) r1.2
 let r3 ← vl (.int .i64 0) r2.2
 Ds (AJ (AO #[x0]) [(2, r1.1), (3, r2.1), (4, r3.1)]) r3.2) := by kernel_rfl
noncomputable def Cy (e : Env) (w : World) : Option (Value × World) := BA P (EV P) 8 49 (.loop (cA (cA (cB (cA (cB (cB (Ae P 8)))))))) e w (Am 0 (AE P (EV P) 8 49 (cB (cB (cB (Ae P 8)))) (Bc P (AB P 8))))
theorem FL (e : Env) (w : World) : Cy e w = (do
 let r1 ← vl (e 5) w
 let r2 ← bo P .neq 9 (.tmp 13) (.const (Go.Value.string { data := #[] })) r1.1 (Go.Value.string { data := #[] }) r1.2
 let r3 ← vl r2.1 r2.2
 let r4 ← Ao r3.1 true (vl (e 4) r3.2) r3.2
 let r5 ← Ao r3.1 true (Au P #[23] 3 #[r4.1] r4.2) r4.2
 let r6 ← Ao r3.1 true (bo P .leq 3 (.tmp 17) (.const (.int .i64 80)) r5.1 (.int .i64 80) r5.2) r5.2
 let r7 ← Ax r3.1 r6.1 (.bool false) r6.2
 AL r7.1 (do
 let r8 ← vl (e 5) r7.2
 let r9 ← EV P 22 #[r8.1, (Go.Value.string { data := #[10] })] r8.2
 let r10 ← vl r9.1 r9.2
 let r11 ← xt P r10.1 0 r10.2
 let r12 ← xt P r10.1 1 r11.2
 let r13 ← xt P r10.1 2 r12.2
 let r14 ← vl r11.1 r13.2
 let r15 ← vl r12.1 r14.2
 let r16 ← vl r13.1 r15.2
 let r17 ← vl r14.1 r16.2
 let r18 ← EV P 23 #[r17.1] r17.2
 let r19 ← vl r18.1 r18.2
 let r20 ← xt P r19.1 0 r19.2
 let r21 ← xt P r19.1 1 r20.2
 let r22 ← al P 41 r21.2
 let r23 ← st P 41 r22.1 r20.1 r22.2
 let r24 ← vl r21.1 r23.2
 let r25 ← vl r24.1 r24.2
 let r26 ← uo P .not r25.1 r25.2
 AL r26.1 (do
 let r27 ← vl (Go.Value.slice none 0 0) r26.2
 let r28 ← vl (.bool false) r27.2
 some (.tuple #[r27.1, r28.1], r28.2)) (do
 let r29 ← vl (e 4) r26.2
 let r30 ← ld P 41 r22.1 r29.2
 let r31 ← bs P 23 1 #[(0, r30.1)] r30.2
 let r32 ← Ar P #[23, 23] 23 #[r29.1, r31.1] r31.2
 let r33 ← vl r32.1 r32.2
 let r34 ← vl r15.1 r33.2
 let r35 ← vl r34.1 r34.2
 Cy (AJ e [(13, r1.1), (14, r2.1), (15, r3.1), (16, r4.1), (17, r5.1), (18, r6.1), (19, r7.1), (21, r8.1), (22, r9.1), (20, r10.1), (23, r11.1), (24, r12.1), (25, r13.1), (6, r14.1), (7, r15.1), (8, r16.1), (27, r17.1), (28, r18.1), (26, r19.1), (29, r20.1), (30, r21.1), (9, r22.1), (10, r24.1), (31, r25.1), (32, r26.1), (33, r29.1), (34, r30.1), (35, r31.1), (36, r32.1), (4, r33.1), (37, r34.1), (5, r35.1)]) r35.2)) (do
 let r36 ← vl (e 4) r7.2
 let r37 ← EV P 14 #[r36.1] r36.2
 let r38 ← uo P .not r37.1 r37.2
 let r39 ← vl r38.1 r38.2
 let r40 ← Ao r39.1 false (vl (e 4) r39.2) r39.2
 let r41 ← Ao r39.1 false (EV P 6 #[r40.1] r40.2) r40.2
 let r42 ← Ao r39.1 false (vl (e 0) r41.2) r41.2
 let r43 ← Ao r39.1 false (bo P .neq 9 (.tmp 43) (.tmp 44) r41.1 r42.1 r42.2) r42.2
 let r44 ← Ax r39.1 (.bool true) r43.1 r43.2
 AL r44.1 (do
 let r45 ← vl (Go.Value.slice none 0 0) r44.2
 let r46 ← vl (.bool false) r45.2
 some (.tuple #[r45.1, r46.1], r46.2)) (do
 let r47 ← vl (e 4) r44.2
 let r48 ← EV P 24 #[r47.1] r47.2
 let r49 ← vl r48.1 r48.2
 let r50 ← vl (.bool true) r49.2
 some (.tuple #[r49.1, r50.1], r50.2)))) := (AH P (EV P) 8 49 (cA (cA (cB (cA (cB (cB (Ae P 8))))))) e w (Am 0 (AE P (EV P) 8 49 (cB (cB (cB (Ae P 8)))) (Bc P (AB P 8))))).trans (by kernel_rfl)
theorem Lm (x0 : Value) (w : World) : Bv P (EV P) 8 #[x0] w = (do
 let r1 ← vl (Go.Value.slice none 0 0) w
 let r2 ← vl (.bool false) r1.2
 let r3 ← bs P 23 0 #[] r2.2
 let r4 ← vl r3.1 r3.2
 let r5 ← vl x0 r4.2
 let r6 ← vl r5.1 r5.2
 Cy (AJ (AO #[x0]) [(2, r1.1), (3, r2.1), (11, r3.1), (4, r4.1), (12, r5.1), (5, r6.1)]) r6.2) := by kernel_rfl
noncomputable def DP (e : Env) (w : World) : Option (Value × World) := BA P (EV P) 9 26 (.loop (cA (cA (cB (cA (cB (cB (Ae P 9)))))))) e w (Am 0 (AE P (EV P) 9 26 (cB (cB (cB (Ae P 9)))) (Bc P (AB P 9))))
theorem Ge (e : Env) (w : World) : DP e w = (do
 let r1 ← vl (e 5) w
 let r2 ← vl (e 0) r1.2
 let r3 ← Au P #[23] 3 #[r2.1] r2.2
 let r4 ← bo P .lss 3 (.tmp 11) (.tmp 13) r1.1 r3.1 r3.2
 AL r4.1 (do
 Ah (vl (e 0)) (dw r4.2) fun r6 => do
 Ah (vl (e 5)) (dw r4.2) fun r7 => do
 Ah (ia P 23 r6.1 r7.1) (dw r4.2) fun r8 => do
 Ah (ld P 41 r8.1) (dw r4.2) fun r9 => do
 Ah (vl (e 1)) (dw r4.2) fun r10 => do
 Ah (vl (e 5)) (dw r4.2) fun r11 => do
 Ah (ia P 23 r10.1 r11.1) (dw r4.2) fun r12 => do
 Ah (ld P 41 r12.1) (dw r4.2) fun r13 => do
 Ah (bo P .neq 41 (.tmp 20) (.tmp 24) r9.1 r13.1) (dw r4.2) fun r14 => do
 AL r14.1 (do
 let r15 ← vl (.bool false) (dw r4.2)
 some (r15.1, r15.2)) (do
 let r16 ← vl (e 5) (dw r4.2)
 let r17 ← bo P .add 3 (.tmp 15) (.const (.int .i64 1)) r16.1 (.int .i64 1) r16.2
 let r18 ← vl r17.1 r17.2
 DP (AJ e [(11, r1.1), (12, r2.1), (13, r3.1), (14, r4.1), (17, r6.1), (18, r7.1), (19, r8.1), (20, r9.1), (21, r10.1), (22, r11.1), (23, r12.1), (24, r13.1), (25, r14.1), (15, r16.1), (16, r17.1), (5, r18.1)]) r18.2)) (do
 let r19 ← vl (.bool true) r4.2
 some (r19.1, r19.2))) := (AH P (EV P) 9 26 (cA (cA (cB (cA (cB (cB (Ae P 9))))))) e w (Am 0 (AE P (EV P) 9 26 (cB (cB (cB (Ae P 9)))) (Bc P (AB P 9))))).trans (by kernel_rfl)
theorem Mf (x0 x1 : Value) (w : World) : Bv P (EV P) 9 #[x0, x1] w = (do
 let r1 ← vl (.bool false) w
 let r2 ← vl x0 r1.2
 let r3 ← Au P #[23] 3 #[r2.1] r2.2
 let r4 ← vl x1 r3.2
 let r5 ← Au P #[23] 3 #[r4.1] r4.2
 let r6 ← bo P .neq 3 (.tmp 7) (.tmp 9) r3.1 r5.1 r5.2
 AL r6.1 (do
 let r7 ← vl (.bool false) r6.2
 some (r7.1, r7.2)) (do
 let r8 ← vl (.int .i64 0) r6.2
 DP (AJ (AO #[x0, x1]) [(4, r1.1), (6, r2.1), (7, r3.1), (8, r4.1), (9, r5.1), (10, r6.1), (5, r8.1)]) r8.2)) := by kernel_rfl
theorem IJ (x0 : Value) (w : World) : Bv P (EV P) 10 #[x0] w = (do
 let r1 ← vl (Go.Value.string { data := #[] }) w
 let r2 ← vl x0 r1.2
 let r3 ← EV P 13 #[r2.1] r2.2
 let r4 ← vl r3.1 r3.2
 let r5 ← vl r4.1 r4.2
 let r6 ← EV P 12 #[r5.1] r5.2
 let r7 ← EV P 7 #[r6.1] r6.2
 let r8 ← vl r7.1 r7.2
 let r9 ← vl r4.1 r8.2
 let r10 ← EV P 25 #[r9.1, (.int .i64 2)] r9.2
 let r11 ← bo P .eql 3 (.tmp 11) (.const (.int .i64 0)) r10.1 (.int .i64 0) r10.2
 AL r11.1 (do
 let r12 ← vl r8.1 r11.2
 let r13 ← vl r12.1 r12.2
 some (r13.1, r13.2)) (do
 let r14 ← vl r4.1 r11.2
 let r15 ← vl r8.1 r14.2
 let r16 ← EV P 26 #[r14.1, r15.1] r15.2
 let r17 ← vl r16.1 r16.2
 some (r17.1, r17.2))) := by kernel_rfl
noncomputable def Cz (e : Env) (w : World) : Option (Value × World) := BA P (EV P) 11 102 (.loop (cA (cA (cB (cA (cB (cB (cB (cB (cB (Ae P 11))))))))))) e w (Am 0 (AE P (EV P) 11 102 (cB (cB (cB (cB (cB (cB (Ae P 11))))))) (Bc P (AB P 11))))
noncomputable def HL (e : Env) (w : World) : Option (Value × World) := BA P (EV P) 11 102 (cA (cB (cB (cB (cA (cA (cB (cA (cA (cB (cA (cB (cB (cB (cB (cB (Ae P 11))))))))))))))))) e w (AE P (EV P) 11 102 (cB (cB (cB (cB (cA (cA (cB (cA (cA (cB (cA (cB (cB (cB (cB (cB (Ae P 11))))))))))))))))) (Am 1 (AE P (EV P) 11 102 (cB (cB (cA (cA (cB (cA (cB (cB (cB (cB (cB (Ae P 11)))))))))))) (DM P (EV P) 11 102 (cA (cA (cB (cA (cB (cB (cB (cB (cB (Ae P 11)))))))))) (Am 0 (AE P (EV P) 11 102 (cB (cB (cB (cB (cB (cB (Ae P 11))))))) (Bc P (AB P 11))))))))
noncomputable def CA (e : Env) (w : World) : Option (Value × World) := BA P (EV P) 11 102 (cB (cB (cB (cB (cA (cA (cB (cA (cA (cB (cA (cB (cB (cB (cB (cB (Ae P 11))))))))))))))))) e w (Am 1 (AE P (EV P) 11 102 (cB (cB (cA (cA (cB (cA (cB (cB (cB (cB (cB (Ae P 11)))))))))))) (DM P (EV P) 11 102 (cA (cA (cB (cA (cB (cB (cB (cB (cB (Ae P 11)))))))))) (Am 0 (AE P (EV P) 11 102 (cB (cB (cB (cB (cB (cB (Ae P 11))))))) (Bc P (AB P 11)))))))
noncomputable def Dt (e : Env) (w : World) : Option (Value × World) := BA P (EV P) 11 102 (.loop (cA (cA (cB (cA (cB (cB (cB (cB (cA (cA (cB (cA (cA (cB (cA (cB (cB (cB (cB (cB (Ae P 11)))))))))))))))))))))) e w (Am 2 (AE P (EV P) 11 102 (cB (cB (cB (cB (cB (cA (cA (cB (cA (cA (cB (cA (cB (cB (cB (cB (cB (Ae P 11)))))))))))))))))) (Am 1 (AE P (EV P) 11 102 (cB (cB (cA (cA (cB (cA (cB (cB (cB (cB (cB (Ae P 11)))))))))))) (DM P (EV P) 11 102 (cA (cA (cB (cA (cB (cB (cB (cB (cB (Ae P 11)))))))))) (Am 0 (AE P (EV P) 11 102 (cB (cB (cB (cB (cB (cB (Ae P 11))))))) (Bc P (AB P 11)))))))))
noncomputable def Fk (e : Env) (w : World) : Option (Value × World) := BA P (EV P) 11 102 (cB (cB (cA (cA (cB (cA (cB (cB (cB (cB (cA (cA (cB (cA (cA (cB (cA (cB (cB (cB (cB (cB (Ae P 11))))))))))))))))))))))) e w (DM P (EV P) 11 102 (cA (cA (cB (cA (cB (cB (cB (cB (cA (cA (cB (cA (cA (cB (cA (cB (cB (cB (cB (cB (Ae P 11))))))))))))))))))))) (Am 2 (AE P (EV P) 11 102 (cB (cB (cB (cB (cB (cA (cA (cB (cA (cA (cB (cA (cB (cB (cB (cB (cB (Ae P 11)))))))))))))))))) (Am 1 (AE P (EV P) 11 102 (cB (cB (cA (cA (cB (cA (cB (cB (cB (cB (cB (Ae P 11)))))))))))) (DM P (EV P) 11 102 (cA (cA (cB (cA (cB (cB (cB (cB (cB (Ae P 11)))))))))) (Am 0 (AE P (EV P) 11 102 (cB (cB (cB (cB (cB (cB (Ae P 11))))))) (Bc P (AB P 11))))))))))
theorem FM (e : Env) (w : World) : Cz e w = (do
 let r1 ← vl (e 6) w
 let r2 ← vl (e 5) r1.2
 let r3 ← Au P #[47] 3 #[r2.1] r2.2
 let r4 ← bo P .lss 3 (.tmp 30) (.tmp 32) r1.1 r3.1 r3.2
 let r5 ← vl r4.1 r4.2
 let r6 ← Ao r5.1 true (vl (e 6) r5.2) r5.2
 let r7 ← Ao r5.1 true (bo P .leq 3 (.tmp 35) (.const (.int .i64 80)) r6.1 (.int .i64 80) r6.2) r6.2
 let r8 ← Ax r5.1 r7.1 (.bool false) r7.2
 AL r8.1 (do
 let r9 ← vl (e 5) r8.2
 let r10 ← vl (e 6) r9.2
 let r11 ← ia P 47 r9.1 r10.1 r10.2
 let r12 ← ld P 9 r11.1 r11.2
 let r13 ← EV P 27 #[r12.1, (.int .u8 32), (.int .i64 4)] r12.2
 let r14 ← vl r13.1 r13.2
 let r15 ← vl r14.1 r14.2
 let r16 ← Au P #[47] 3 #[r15.1] r15.2
 let r17 ← bo P .neq 3 (.tmp 46) (.const (.int .i64 4)) r16.1 (.int .i64 4) r16.2
 AL r17.1 (do
 let r18 ← vl (Go.Value.slice none 0 0) r17.2
 let r19 ← vl (.bool false) r18.2
 some (.tuple #[r18.1, r19.1], r19.2)) (do
 let r20 ← vl r14.1 r17.2
 let r21 ← ia P 47 r20.1 (.int .i64 3) r20.2
 let r22 ← ld P 9 r21.1 r21.2
 let r23 ← EV P 28 #[r22.1] r22.2
 let r24 ← vl r23.1 r23.2
 let r25 ← xt P r24.1 0 r24.2
 let r26 ← xt P r24.1 1 r25.2
 let r27 ← al P 39 r26.2
 let r28 ← st P 39 r27.1 r25.1 r27.2
 let r29 ← vl r26.1 r28.2
 HL (AJ e [(30, r1.1), (31, r2.1), (32, r3.1), (33, r4.1), (34, r5.1), (35, r6.1), (36, r7.1), (37, r8.1), (40, r9.1), (41, r10.1), (42, r11.1), (43, r12.1), (44, r13.1), (7, r14.1), (45, r15.1), (46, r16.1), (47, r17.1), (49, r20.1), (50, r21.1), (51, r22.1), (52, r23.1), (48, r24.1), (53, r25.1), (54, r26.1), (8, r27.1), (9, r29.1)]) r29.2)) (do
 let r30 ← vl (e 4) r8.2
 let r31 ← EV P 20 #[r30.1] r30.2
 let r32 ← uo P .not r31.1 r31.2
 AL r32.1 (do
 let r33 ← vl (Go.Value.slice none 0 0) r32.2
 let r34 ← vl (.bool false) r33.2
 some (.tuple #[r33.1, r34.1], r34.2)) (do
 let r35 ← vl (e 4) r32.2
 let r36 ← vl r35.1 r35.2
 let r37 ← vl (.bool true) r36.2
 some (.tuple #[r36.1, r37.1], r37.2)))) := (AH P (EV P) 11 102 (cA (cA (cB (cA (cB (cB (cB (cB (cB (Ae P 11)))))))))) e w (Am 0 (AE P (EV P) 11 102 (cB (cB (cB (cB (cB (cB (Ae P 11))))))) (Bc P (AB P 11))))).trans (by kernel_rfl)
theorem IK (e : Env) (w : World) {Q : Value × World → Prop} (h :
 (Af (vl (e 7) (dw w)) fun r1 => r1.2 = (dw w) ∧
 (Af (ia P 47 r1.1 (.int .i64 0) (dw w)) fun r2 => r2.2 = (dw w) ∧
 (Af (ld P 9 r2.1 (dw w)) fun r3 => r3.2 = (dw w) ∧
 (Af (vl (e 7) (dw w)) fun r4 => r4.2 = (dw w) ∧
 (Af (ia P 47 r4.1 (.int .i64 2) (dw w)) fun r5 => r5.2 = (dw w) ∧
 (Af (ld P 9 r5.1 (dw w)) fun r6 => r6.2 = (dw w) ∧
 (Af (ld P 39 (e 8) (dw w)) fun r7 => r7.2 = (dw w) ∧
 ((Af (EV P 29 #[r3.1] (dw w)) fun r8 => (ld P 39 (e 8) r8.2 = some (r7.1, r8.2) ∧ ld P 9 r5.1 r8.2 = some (r6.1, r8.2) ∧ ia P 47 r4.1 (.int .i64 2) r8.2 = some (r5.1, r8.2) ∧ True ∧ True ∧ True) ∧
 ((Af (EV P 29 #[r6.1] r8.2) fun r9 => (ld P 39 (e 8) r9.2 = some (r7.1, r9.2) ∧ True ∧ True ∧ True ∧ True ∧ True) ∧
 (Af (bd P 41 #[(0, r8.1), (2, r9.1), (3, r7.1)] r9.2) fun r10 => r10.2 = r9.2 ∧
 ((Af (al P 41 r9.2) fun r11 => (bd P 41 #[(0, r8.1), (2, r9.1), (3, r7.1)] r11.2 = some (r10.1, r11.2) ∧ ld P 39 (e 8) r11.2 = some (r7.1, r11.2) ∧ ld P 9 r5.1 r11.2 = some (r6.1, r11.2) ∧ ia P 47 r4.1 (.int .i64 2) r11.2 = some (r5.1, r11.2) ∧ ld P 9 r2.1 r11.2 = some (r3.1, r11.2) ∧ ia P 47 r1.1 (.int .i64 0) r11.2 = some (r2.1, r11.2) ∧ True) ∧
 ((Af (st P 41 r11.1 r10.1 r11.2) fun r12 => (True ∧ True ∧ True ∧ True ∧ True ∧ True ∧ True) ∧
 Af (CA (AJ e [(55, r1.1), (56, r2.1), (57, r3.1), (59, r4.1), (60, r5.1), (61, r6.1), (63, r7.1), (58, r8.1), (62, r9.1), (64, r10.1), (10, r11.1)]) r12.2) Q)))))) ∧
 (Af (al P 41 r8.2) fun r13 => (ld P 39 (e 8) r13.2 = some (r7.1, r13.2) ∧ ld P 9 r5.1 r13.2 = some (r6.1, r13.2) ∧ ia P 47 r4.1 (.int .i64 2) r13.2 = some (r5.1, r13.2) ∧ ld P 9 r2.1 r13.2 = some (r3.1, r13.2) ∧ ia P 47 r1.1 (.int .i64 0) r13.2 = some (r2.1, r13.2) ∧ True) ∧
 ((Af (EV P 29 #[r6.1] r13.2) fun r14 => (ld P 39 (e 8) r14.2 = some (r7.1, r14.2) ∧ True ∧ True ∧ True ∧ True ∧ True) ∧
 (Af (bd P 41 #[(0, r8.1), (2, r14.1), (3, r7.1)] r14.2) fun r15 => r15.2 = r14.2 ∧
 ((Af (st P 41 r13.1 r15.1 r14.2) fun r16 => (True ∧ True ∧ True ∧ True ∧ True ∧ True ∧ True) ∧
 Af (CA (AJ e [(55, r1.1), (56, r2.1), (57, r3.1), (59, r4.1), (60, r5.1), (61, r6.1), (63, r7.1), (58, r8.1), (10, r13.1), (62, r14.1), (64, r15.1)]) r16.2) Q)))))))) ∧
 (Af (al P 41 (dw w)) fun r17 => (ld P 39 (e 8) r17.2 = some (r7.1, r17.2) ∧ ld P 9 r5.1 r17.2 = some (r6.1, r17.2) ∧ ia P 47 r4.1 (.int .i64 2) r17.2 = some (r5.1, r17.2) ∧ ld P 9 r2.1 r17.2 = some (r3.1, r17.2) ∧ ia P 47 r1.1 (.int .i64 0) r17.2 = some (r2.1, r17.2) ∧ True) ∧
 ((Af (EV P 29 #[r3.1] r17.2) fun r18 => (ld P 39 (e 8) r18.2 = some (r7.1, r18.2) ∧ ld P 9 r5.1 r18.2 = some (r6.1, r18.2) ∧ ia P 47 r4.1 (.int .i64 2) r18.2 = some (r5.1, r18.2) ∧ True ∧ True ∧ True) ∧
 ((Af (EV P 29 #[r6.1] r18.2) fun r19 => (ld P 39 (e 8) r19.2 = some (r7.1, r19.2) ∧ True ∧ True ∧ True ∧ True ∧ True) ∧
 (Af (bd P 41 #[(0, r18.1), (2, r19.1), (3, r7.1)] r19.2) fun r20 => r20.2 = r19.2 ∧
 ((Af (st P 41 r17.1 r20.1 r19.2) fun r21 => (True ∧ True ∧ True ∧ True ∧ True ∧ True ∧ True) ∧
 Af (CA (AJ e [(55, r1.1), (56, r2.1), (57, r3.1), (59, r4.1), (60, r5.1), (61, r6.1), (63, r7.1), (10, r17.1), (58, r18.1), (62, r19.1), (64, r20.1)]) r21.2) Q))))))))))))))))) : Af (HL e w) Q := FH (id := 14) (ops := opsOf (cA (cB (cB (cB (cA (cA (cB (cA (cA (cB (cA (cB (cB (cB (cB (cB (Ae P 11)))))))))))))))))) (by kernel_rfl) (by kernel_rfl) (Eq.mpr (by kernel_rfl) h)
theorem Jl (e : Env) (w : World) : CA e w = (do
 let r1 ← vl (.int .i64 1) w
 Dt (AJ e [(11, r1.1)]) r1.2) := by kernel_rfl
theorem FN (e : Env) (w : World) : Dt e w = (do
 let r1 ← vl (e 11) w
 let r2 ← EV P 30 #[] r1.2
 let r3 ← Au P #[47] 3 #[r2.1] r2.2
 let r4 ← bo P .lss 3 (.tmp 65) (.tmp 67) r1.1 r3.1 r3.2
 AL r4.1 (do
 Ah (vl (e 11)) (dw r4.2) fun r6 => do
 Ah (vl (e 7)) (dw r4.2) fun r7 => do
 Ah (ia P 47 r7.1 (.int .i64 1)) (dw r4.2) fun r8 => do
 Ah (ld P 9 r8.1) (dw r4.2) fun r9 => do
 let r10 ← EV P 30 #[] (dw r4.2)
 AG (ld P 9 r8.1 r10.2 = some (r9.1, r10.2) ∧ ia P 47 r7.1 (.int .i64 1) r10.2 = some (r8.1, r10.2) ∧ True) <| do
 Ah (ia P 47 r10.1 r6.1) r10.2 fun r11 => do
 Ah (ld P 9 r11.1) r10.2 fun r12 => do
 Ah (bo P .eql 9 (.tmp 74) (.tmp 77) r12.1 r9.1) r10.2 fun r13 => do
 AL r13.1 (do
 let r14 ← vl (e 11) r10.2
 let r15 ← fa P 41 (e 10) 1 r14.2
 let r16 ← st P 3 r15.1 r14.1 r15.2
 Fk (AJ e [(65, r1.1), (66, r2.1), (67, r3.1), (68, r4.1), (72, r6.1), (75, r7.1), (76, r8.1), (77, r9.1), (71, r10.1), (73, r11.1), (74, r12.1), (78, r13.1), (79, r14.1), (80, r15.1)]) r16.2) (do
 Fk (AJ e [(65, r1.1), (66, r2.1), (67, r3.1), (68, r4.1), (72, r6.1), (75, r7.1), (76, r8.1), (77, r9.1), (71, r10.1), (73, r11.1), (74, r12.1), (78, r13.1)]) r10.2)) (do
 Ah (ld P 41 (e 10)) (dw r4.2) fun r18 => do
 let r19 ← EV P 31 #[r18.1] (dw r4.2)
 AG Zj <| do
 Ah (uo P .not r19.1) r19.2 fun r20 => do
 Ah (vl r20.1) r19.2 fun r21 => do
 Ah (Ao r21.1 false (ld P 41 (e 10) r19.2)) r19.2 fun r22 => do
 Ah (Ao r21.1 false (vl (e 5) r19.2)) r19.2 fun r23 => do
 Ah (Ao r21.1 false (vl (e 6) r19.2)) r19.2 fun r24 => do
 Ah (Ao r21.1 false (ia P 47 r23.1 r24.1 r19.2)) r19.2 fun r25 => do
 Ah (Ao r21.1 false (ld P 9 r25.1 r19.2)) r19.2 fun r26 => do
 Ah (Ao r21.1 false (bo P .add 9 (.tmp 90) (.const (Go.Value.string { data := #[10] })) r26.1 (Go.Value.string { data := #[10] }) r19.2)) r19.2 fun r27 => do
 let r28 ← Ao r21.1 false (EV P 21 #[r22.1] r19.2) r19.2
 AG (Ao r21.1 false (bo P .add 9 (.tmp 90) (.const (Go.Value.string { data := #[10] })) r26.1 (Go.Value.string { data := #[10] }) r28.2) r28.2 = some (r27.1, r28.2) ∧ Ao r21.1 false (ld P 9 r25.1 r28.2) r28.2 = some (r26.1, r28.2) ∧ Ao r21.1 false (ia P 47 r23.1 r24.1 r28.2) r28.2 = some (r25.1, r28.2) ∧ True ∧ True ∧ True ∧ True) <| do
 Ah (Ao r21.1 false (bo P .neq 9 (.tmp 86) (.tmp 91) r28.1 r27.1 r28.2)) r28.2 fun r29 => do
 Ah (Ax r21.1 (.bool true) r29.1) r28.2 fun r30 => do
 AL r30.1 (do
 let r31 ← vl (Go.Value.slice none 0 0) r28.2
 let r32 ← vl (.bool false) r31.2
 some (.tuple #[r31.1, r32.1], r32.2)) (do
 let r33 ← vl (e 4) r28.2
 let r34 ← ld P 41 (e 10) r33.2
 let r35 ← bs P 23 1 #[(0, r34.1)] r34.2
 let r36 ← Ar P #[23, 23] 23 #[r33.1, r35.1] r35.2
 let r37 ← vl r36.1 r36.2
 let r38 ← vl (e 6) r37.2
 let r39 ← bo P .add 3 (.tmp 38) (.const (.int .i64 1)) r38.1 (.int .i64 1) r38.2
 let r40 ← vl r39.1 r39.2
 Cz (AJ e [(65, r1.1), (66, r2.1), (67, r3.1), (68, r4.1), (81, r18.1), (82, r19.1), (83, r20.1), (84, r21.1), (85, r22.1), (87, r23.1), (88, r24.1), (89, r25.1), (90, r26.1), (91, r27.1), (86, r28.1), (92, r29.1), (93, r30.1), (94, r33.1), (95, r34.1), (96, r35.1), (97, r36.1), (4, r37.1), (38, r38.1), (39, r39.1), (6, r40.1)]) r40.2))) := (AH P (EV P) 11 102 (cA (cA (cB (cA (cB (cB (cB (cB (cA (cA (cB (cA (cA (cB (cA (cB (cB (cB (cB (cB (Ae P 11))))))))))))))))))))) e w (Am 2 (AE P (EV P) 11 102 (cB (cB (cB (cB (cB (cA (cA (cB (cA (cA (cB (cA (cB (cB (cB (cB (cB (Ae P 11)))))))))))))))))) (Am 1 (AE P (EV P) 11 102 (cB (cB (cA (cA (cB (cA (cB (cB (cB (cB (cB (Ae P 11)))))))))))) (DM P (EV P) 11 102 (cA (cA (cB (cA (cB (cB (cB (cB (cB (Ae P 11)))))))))) (Am 0 (AE P (EV P) 11 102 (cB (cB (cB (cB (cB (cB (Ae P 11))))))) (Bc P (AB P 11)))))))))).trans (by kernel_rfl)
theorem FO (e : Env) (w : World) : Fk e w = (do
 let r1 ← vl (e 11) w
 let r2 ← bo P .add 3 (.tmp 69) (.const (.int .i64 1)) r1.1 (.int .i64 1) r1.2
 let r3 ← vl r2.1 r2.2
 Dt (AJ e [(69, r1.1), (70, r2.1), (11, r3.1)]) r3.2) := by kernel_rfl
theorem Ln (x0 : Value) (w : World) : Bv P (EV P) 11 #[x0] w = (do
 let r1 ← vl (Go.Value.slice none 0 0) w
 let r2 ← vl (.bool false) r1.2
 let r3 ← bs P 23 0 #[] r2.2
 let r4 ← vl r3.1 r3.2
 let r5 ← vl x0 r4.2
 let r6 ← bo P .eql 9 (.tmp 13) (.const (Go.Value.string { data := #[] })) r5.1 (Go.Value.string { data := #[] }) r5.2
 AL r6.1 (do
 let r7 ← vl r4.1 r6.2
 let r8 ← vl r7.1 r7.2
 let r9 ← vl (.bool true) r8.2
 some (.tuple #[r8.1, r9.1], r9.2)) (do
 let r10 ← vl x0 r6.2
 let r11 ← vl x0 r10.2
 let r12 ← Au P #[9] 3 #[r11.1] r11.2
 let r13 ← bo P .sub 3 (.tmp 18) (.const (.int .i64 1)) r12.1 (.int .i64 1) r12.2
 let r14 ← ix P 9 r10.1 r13.1 r13.2
 let r15 ← bo P .neq 5 (.tmp 20) (.const (.int .u8 10)) r14.1 (.int .u8 10) r14.2
 AL r15.1 (do
 let r16 ← vl (Go.Value.slice none 0 0) r15.2
 let r17 ← vl (.bool false) r16.2
 some (.tuple #[r16.1, r17.1], r17.2)) (do
 let r18 ← vl x0 r15.2
 let r19 ← vl x0 r18.2
 let r20 ← Au P #[9] 3 #[r19.1] r19.2
 let r21 ← bo P .sub 3 (.tmp 24) (.const (.int .i64 1)) r20.1 (.int .i64 1) r20.2
 let r22 ← sl P 9 r18.1 none (some r21.1) none r21.2
 let r23 ← vl x0 r22.2
 let r24 ← Au P #[9] 3 #[r23.1] r23.2
 let r25 ← EV P 27 #[r22.1, (.int .u8 10), r24.1] r24.2
 let r26 ← vl r25.1 r25.2
 let r27 ← vl (.int .i64 0) r26.2
 Cz (AJ (AO #[x0]) [(2, r1.1), (3, r2.1), (12, r3.1), (4, r4.1), (13, r5.1), (14, r6.1), (16, r10.1), (17, r11.1), (18, r12.1), (19, r13.1), (20, r14.1), (21, r15.1), (22, r18.1), (23, r19.1), (24, r20.1), (25, r21.1), (26, r22.1), (27, r23.1), (28, r24.1), (29, r25.1), (5, r26.1), (6, r27.1)]) r27.2))) := by kernel_rfl
noncomputable def Bq (e : Env) (w : World) : Option (Value × World) := BA P (EV P) 12 65 (cB (cB (cB (Ae P 12)))) e w (Bc P (AB P 12))
theorem Jm (e : Env) (w : World) : Bq e w = (do
 let r1 ← vl (e 3) w
 let r2 ← vl r1.1 r1.2
 some (r2.1, r2.2)) := by kernel_rfl
theorem Lo (x0 : Value) (w : World) : Bv P (EV P) 12 #[x0] w = (do
 let r1 ← vl (Go.Value.slice none 0 0) w
 let r2 ← bs P 23 0 #[] r1.2
 let r3 ← vl x0 r2.2
 let r4 ← EV P 32 #[r3.1] r3.2
 let r5 ← fv P 67 r4.1 3 r4.2
 let r6 ← Ar P #[23, 23] 23 #[r2.1, r5.1] r5.2
 let r7 ← vl r6.1 r6.2
 let r8 ← vl r7.1 r7.2
 let r9 ← Au P #[23] 3 #[r8.1] r8.2
 let r10 ← bo P .gtr 3 (.tmp 11) (.const (.int .i64 0)) r9.1 (.int .i64 0) r9.2
 let r11 ← vl r10.1 r10.2
 let r12 ← Ao r11.1 true (vl x0 r11.2) r11.2
 let r13 ← Ao r11.1 true (EV P 25 #[r12.1, (.int .i64 3)] r12.2) r12.2
 let r14 ← Ao r11.1 true (bo P .eql 3 (.tmp 15) (.const (.int .i64 0)) r13.1 (.int .i64 0) r13.2) r13.2
 let r15 ← Ax r11.1 r14.1 (.bool false) r14.2
 AL r15.1 (do
 let r16 ← vl x0 r15.2
 let r17 ← vl r7.1 r16.2
 let r18 ← Au P #[23] 3 #[r17.1] r17.2
 let r19 ← EV P 25 #[r16.1, r18.1] r18.2
 let r20 ← vl r19.1 r19.2
 let r21 ← vl x0 r20.2
 let r22 ← EV P 25 #[r21.1, (.int .i64 5)] r21.2
 let r23 ← bo P .eql 3 (.tmp 23) (.const (.int .i64 0)) r22.1 (.int .i64 0) r22.2
 let r24 ← vl r23.1 r23.2
 AL r24.1 (do
 let r25 ← vl r7.1 r24.2
 let r26 ← vl r20.1 r25.2
 let r27 ← vl x0 r26.2
 let r28 ← EV P 33 #[r27.1] r27.2
 let r29 ← ia P 23 r25.1 r26.1 r28.2
 let r30 ← fa P 41 r29.1 3 r29.2
 let r31 ← st P 39 r30.1 r28.1 r30.2
 Bq (AJ (AO #[x0]) [(2, r1.1), (5, r2.1), (6, r3.1), (7, r4.1), (8, r5.1), (9, r6.1), (3, r7.1), (10, r8.1), (11, r9.1), (12, r10.1), (13, r11.1), (14, r12.1), (15, r13.1), (16, r14.1), (17, r15.1), (18, r16.1), (19, r17.1), (20, r18.1), (21, r19.1), (4, r20.1), (22, r21.1), (23, r22.1), (33, r23.1), (32, r24.1), (34, r25.1), (35, r26.1), (36, r27.1), (37, r28.1), (38, r29.1), (39, r30.1)]) r31.2) (do
 let r32 ← bo P .eql 3 (.tmp 23) (.const (.int .i64 1)) r22.1 (.int .i64 1) r24.2
 let r33 ← vl r32.1 r32.2
 AL r33.1 (do
 let r34 ← vl r7.1 r33.2
 let r35 ← vl r20.1 r34.2
 let r36 ← vl x0 r35.2
 let r37 ← EV P 25 #[r36.1, (.int .i64 5)] r36.2
 let r38 ← ia P 23 r34.1 r35.1 r37.2
 let r39 ← fa P 41 r38.1 1 r38.2
 let r40 ← st P 3 r39.1 r37.1 r39.2
 Bq (AJ (AO #[x0]) [(2, r1.1), (5, r2.1), (6, r3.1), (7, r4.1), (8, r5.1), (9, r6.1), (3, r7.1), (10, r8.1), (11, r9.1), (12, r10.1), (13, r11.1), (14, r12.1), (15, r13.1), (16, r14.1), (17, r15.1), (18, r16.1), (19, r17.1), (20, r18.1), (21, r19.1), (4, r20.1), (22, r21.1), (23, r22.1), (33, r23.1), (32, r24.1), (41, r32.1), (40, r33.1), (42, r34.1), (43, r35.1), (44, r36.1), (45, r37.1), (46, r38.1), (47, r39.1)]) r40.2) (do
 let r41 ← bo P .eql 3 (.tmp 23) (.const (.int .i64 2)) r22.1 (.int .i64 2) r33.2
 let r42 ← vl r41.1 r41.2
 AL r42.1 (do
 let r43 ← vl r7.1 r42.2
 let r44 ← vl r20.1 r43.2
 let r45 ← vl x0 r44.2
 let r46 ← EV P 25 #[r45.1, (.int .i64 5)] r45.2
 let r47 ← ia P 23 r43.1 r44.1 r46.2
 let r48 ← fa P 41 r47.1 2 r47.2
 let r49 ← st P 3 r48.1 r46.1 r48.2
 Bq (AJ (AO #[x0]) [(2, r1.1), (5, r2.1), (6, r3.1), (7, r4.1), (8, r5.1), (9, r6.1), (3, r7.1), (10, r8.1), (11, r9.1), (12, r10.1), (13, r11.1), (14, r12.1), (15, r13.1), (16, r14.1), (17, r15.1), (18, r16.1), (19, r17.1), (20, r18.1), (21, r19.1), (4, r20.1), (22, r21.1), (23, r22.1), (33, r23.1), (32, r24.1), (41, r32.1), (40, r33.1), (49, r41.1), (48, r42.1), (50, r43.1), (51, r44.1), (52, r45.1), (53, r46.1), (54, r47.1), (55, r48.1)]) r49.2) (do
 let r50 ← bo P .eql 3 (.tmp 23) (.const (.int .i64 3)) r22.1 (.int .i64 3) r42.2
 let r51 ← vl r50.1 r50.2
 AL r51.1 (do
 let r52 ← vl r7.1 r51.2
 let r53 ← vl r20.1 r52.2
 let r54 ← vl x0 r53.2
 let r55 ← EV P 25 #[r54.1, (.int .i64 5)] r54.2
 let r56 ← ia P 23 r52.1 r53.1 r55.2
 let r57 ← fa P 41 r56.1 0 r56.2
 let r58 ← st P 3 r57.1 r55.1 r57.2
 Bq (AJ (AO #[x0]) [(2, r1.1), (5, r2.1), (6, r3.1), (7, r4.1), (8, r5.1), (9, r6.1), (3, r7.1), (10, r8.1), (11, r9.1), (12, r10.1), (13, r11.1), (14, r12.1), (15, r13.1), (16, r14.1), (17, r15.1), (18, r16.1), (19, r17.1), (20, r18.1), (21, r19.1), (4, r20.1), (22, r21.1), (23, r22.1), (33, r23.1), (32, r24.1), (41, r32.1), (40, r33.1), (49, r41.1), (48, r42.1), (57, r50.1), (56, r51.1), (58, r52.1), (59, r53.1), (60, r54.1), (61, r55.1), (62, r56.1), (63, r57.1)]) r58.2) (do
 Ah (vl r7.1) (dw r51.2) fun r60 => do
 Ah (vl r20.1) (dw r51.2) fun r61 => do
 Ah (sl P 23 r60.1 none (some r61.1) none) (dw r51.2) fun r62 => do
 Ah (vl r7.1) (dw r51.2) fun r63 => do
 Ah (vl r20.1) (dw r51.2) fun r64 => do
 Ah (bo P .add 3 (.tmp 28) (.const (.int .i64 1)) r64.1 (.int .i64 1)) (dw r51.2) fun r65 => do
 Ah (sl P 23 r63.1 (some r65.1) none none) (dw r51.2) fun r66 => do
 let r67 ← Ar P #[23, 23] 23 #[r62.1, r66.1] (dw r51.2)
 AG qt4 <| do
 Ah (vl r67.1) r67.2 fun r68 => do
 Bq (AJ (AO #[x0]) [(2, r1.1), (5, r2.1), (6, r3.1), (7, r4.1), (8, r5.1), (9, r6.1), (3, r7.1), (10, r8.1), (11, r9.1), (12, r10.1), (13, r11.1), (14, r12.1), (15, r13.1), (16, r14.1), (17, r15.1), (18, r16.1), (19, r17.1), (20, r18.1), (21, r19.1), (4, r20.1), (22, r21.1), (23, r22.1), (33, r23.1), (32, r24.1), (41, r32.1), (40, r33.1), (49, r41.1), (48, r42.1), (57, r50.1), (56, r51.1), (24, r60.1), (25, r61.1), (26, r62.1), (27, r63.1), (28, r64.1), (29, r65.1), (30, r66.1), (31, r67.1), (3, r68.1)]) r67.2))))) (do
 Bq (AJ (AO #[x0]) [(2, r1.1), (5, r2.1), (6, r3.1), (7, r4.1), (8, r5.1), (9, r6.1), (3, r7.1), (10, r8.1), (11, r9.1), (12, r10.1), (13, r11.1), (14, r12.1), (15, r13.1), (16, r14.1), (17, r15.1)]) r15.2)) := by kernel_rfl
noncomputable def Du (e : Env) (w : World) : Option (Value × World) := BA P (EV P) 13 11 (cB (cB (Ae P 13))) e w (Bc P (AB P 13))
theorem Jn (e : Env) (w : World) : Du e w = (do
 let r1 ← vl (e 0) w
 let r2 ← bd P 71 #[(0, r1.1)] r1.2
 let r3 ← bx P 71 r2.1 r2.2
 let r4 ← vl r3.1 r3.2
 some (r4.1, r4.2)) := by kernel_rfl
theorem Lp (x0 : Value) (w : World) : Bv P (EV P) 13 #[x0] w = (do
 let r1 ← vl (Go.Value.pointer none) w
 let r2 ← vl x0 r1.2
 let r3 ← Au P #[22] 3 #[r2.1] r2.2
 let r4 ← bo P .gtr 3 (.tmp 4) (.const (.int .i64 2000)) r3.1 (.int .i64 2000) r3.2
 AL r4.1 (do
 let r5 ← vl x0 r4.2
 let r6 ← sl P 22 r5.1 none (some (.int .i64 2000)) none r5.2
 let r7 ← vl r6.1 r6.2
 Du (AJ (AO #[x0]) [(2, r1.1), (3, r2.1), (4, r3.1), (5, r4.1), (6, r5.1), (7, r6.1), (0, r7.1)]) r7.2) (do
 Du (AJ (AO #[x0]) [(2, r1.1), (3, r2.1), (4, r3.1), (5, r4.1)]) r4.2)) := by kernel_rfl
theorem Mg (x0 : Value) (w : World) : Bv P (EV P) 14 #[x0] w = (do
 let r1 ← vl (.bool false) w
 let r2 ← vl x0 r1.2
 let r3 ← Au P #[23] 3 #[r2.1] r2.2
 let r4 ← bo P .leq 3 (.tmp 4) (.const (.int .i64 80)) r3.1 (.int .i64 80) r3.2
 let r5 ← vl r4.1 r4.2
 let r6 ← Ao r5.1 true (vl x0 r5.2) r5.2
 let r7 ← Ao r5.1 true (EV P 34 #[r6.1, (.func (.func 35) #[] #[])] r6.2) r6.2
 let r8 ← Ao r5.1 true (uo P .not r7.1 r7.2) r7.2
 let r9 ← Ax r5.1 r8.1 (.bool false) r8.2
 let r10 ← vl r9.1 r9.2
 some (r10.1, r10.2)) := by kernel_rfl
theorem EE (x0 x1 : Value) (w : World) : Bv P (EV P) 15 #[x0, x1] w = (do
 let r1 ← vl (.int .i64 0) w
 let r2 ← vl Go.Value.nilIface r1.2
 let r3 ← vl x0 r2.2
 let r4 ← EV P 39 #[r3.1] r3.2
 let r5 ← vl x0 r4.2
 let r6 ← vl x0 r5.2
 let r7 ← nk P r6.1 r6.2
 let r8 ← fa P 37 r7.1 1 r7.2
 let r9 ← ld P 22 r8.1 r8.2
 let r10 ← vl x1 r9.2
 let r11 ← Ar P #[22, 9] 22 #[r9.1, r10.1] r10.2
 let r12 ← nk P r5.1 r11.2
 let r13 ← fa P 37 r12.1 1 r12.2
 let r14 ← st P 22 r13.1 r11.1 r13.2
 let r15 ← vl x1 r14.2
 let r16 ← Au P #[9] 3 #[r15.1] r15.2
 let r17 ← vl r16.1 r16.2
 let r18 ← vl Go.Value.nilIface r17.2
 some (.tuple #[r17.1, r18.1], r18.2)) := by kernel_rfl
theorem Lq (x0 : Value) (w : World) : Bv P (EV P) 16 #[x0] w = (do
 let r1 ← vl (Go.Value.string { data := #[] }) w
 let r2 ← vl x0 r1.2
 let r3 ← EV P 40 #[r2.1] r2.2
 let r4 ← vl r3.1 r3.2
 some (r4.1, r4.2)) := by kernel_rfl
theorem JH (w : World) : Bv P (EV P) 17 #[] w = (do
 let r1 ← vl (Go.Value.slice none 0 0) w
 let r2 ← bs P 47 4 #[(0, (Go.Value.string { data := #[] })), (1, (Go.Value.string { data := #[119, 114, 105, 116, 101] })), (2, (Go.Value.string { data := #[114, 101, 97, 100] })), (3, (Go.Value.string { data := #[115, 117, 114, 101] }))] r1.2
 let r3 ← vl r2.1 r2.2
 some (r3.1, r3.2)) := by kernel_rfl
theorem Ky (x0 : Value) (w : World) : Bv P (EV P) 18 #[x0] w = (do
 let r1 ← bx P 39 x0 w
 let r2 ← vl (Go.Value.string { data := #[] }) r1.2
 Ah (fa P 39 r1.1 0) (dw r2.2) fun r4 => do
 Ah (ld P 3 r4.1) (dw r2.2) fun r5 => do
 Ah (fa P 39 r1.1 1) (dw r2.2) fun r6 => do
 Ah (ld P 3 r6.1) (dw r2.2) fun r7 => do
 let r8 ← EV P 16 #[r5.1] (dw r2.2)
 AG (ld P 3 r6.1 r8.2 = some (r7.1, r8.2) ∧ fa P 39 r1.1 1 r8.2 = some (r6.1, r8.2) ∧ True ∧ True ∧ True) <| do
 Ah (bo P .add 9 (.tmp 5) (.const (Go.Value.string { data := #[46] })) r8.1 (Go.Value.string { data := #[46] })) r8.2 fun r9 => do
 let r10 ← EV P 16 #[r7.1] r8.2
 AG (bo P .add 9 (.tmp 5) (.const (Go.Value.string { data := #[46] })) r8.1 (Go.Value.string { data := #[46] }) r10.2 = some (r9.1, r10.2) ∧ True ∧ True ∧ True ∧ True ∧ True) <| do
 Ah (bo P .add 9 (.tmp 6) (.tmp 9) r9.1 r10.1) r10.2 fun r11 => do
 Ah (vl r11.1) r10.2 fun r12 => do
 some (r12.1, r10.2)) := by kernel_rfl
theorem F9 (x0 : Value) (w : World) : Bv P (EV P) 19 #[x0] w = (do
 let r1 ← vl (Go.Value.string { data := #[] }) w
 Ah (vl x0) (dw r1.2) fun r3 => do
 Ah (nk P r3.1) (dw r1.2) fun r4 => do
 Ah (fa P 37 r4.1 1) (dw r1.2) fun r5 => do
 Ah (ld P 22 r5.1) (dw r1.2) fun r6 => do
 Ah (vl x0) (dw r1.2) fun r7 => do
 Ah (nk P r7.1) (dw r1.2) fun r8 => do
 Ah (fa P 37 r8.1 1) (dw r1.2) fun r9 => do
 Ah (ld P 22 r9.1) (dw r1.2) fun r10 => do
 Ah (Au P #[22] 3 #[r10.1]) (dw r1.2) fun r11 => do
 let r12 ← gn P { dst := (some 7), op := (Go.Op.call { callee := (Go.Callee.builtin Go.Builtin.unsafeSliceData), args := #[(Go.Operand.tmp 6)], argTypes := #[22] }), type := 76, pos := "builder.go:47", after := #[{ on := 3, ground := Go.Ground.data }], guard := none } (AJ (AO #[x0]) [(2, r1.1), (3, r3.1), (4, r4.1), (5, r5.1), (6, r6.1), (8, r7.1), (9, r8.1), (10, r9.1), (11, r10.1), (12, r11.1)]) (dw r1.2)
 AG (Au P #[22] 3 #[r10.1] r12.2 = some (r11.1, r12.2) ∧ ld P 22 r9.1 r12.2 = some (r10.1, r12.2) ∧ fa P 37 r8.1 1 r12.2 = some (r9.1, r12.2) ∧ nk P r7.1 r12.2 = some (r8.1, r12.2) ∧ True ∧ True ∧ True ∧ True) <| do
 let r13 ← gn P { dst := (some 13), op := (Go.Op.call { callee := (Go.Callee.builtin Go.Builtin.unsafeString), args := #[(Go.Operand.tmp 7), (Go.Operand.tmp 12)], argTypes := #[76, 3] }), type := 9, pos := "builder.go:47", after := #[{ on := 4, ground := Go.Ground.data }, { on := 9, ground := Go.Ground.data }], guard := none } (AJ (AO #[x0]) [(2, r1.1), (3, r3.1), (4, r4.1), (5, r5.1), (6, r6.1), (8, r7.1), (9, r8.1), (10, r9.1), (11, r10.1), (12, r11.1), (7, r12.1)]) r12.2
 AG qt8 <| do
 Ah (vl r13.1) r13.2 fun r14 => do
 some (r14.1, r13.2)) := by kernel_rfl
noncomputable def DQ (e : Env) (w : World) : Option (Value × World) := BA P (EV P) 20 19 (.loop (cA (cA (cB (cA (cB (Ae P 20))))))) e w (Am 0 (AE P (EV P) 20 19 (cB (cB (Ae P 20))) (Bc P (AB P 20))))
theorem Gf (e : Env) (w : World) : DQ e w = (do
 let r1 ← vl (e 3) w
 let r2 ← vl (e 0) r1.2
 let r3 ← Au P #[23] 3 #[r2.1] r2.2
 let r4 ← bo P .lss 3 (.tmp 4) (.tmp 6) r1.1 r3.1 r3.2
 AL r4.1 (do
 let r5 ← vl (e 0) r4.2
 let r6 ← vl (e 3) r5.2
 let r7 ← ia P 23 r5.1 r6.1 r6.2
 let r8 ← ld P 41 r7.1 r7.2
 let r9 ← EV P 31 #[r8.1] r8.2
 let r10 ← uo P .not r9.1 r9.2
 AL r10.1 (do
 let r11 ← vl (.bool false) r10.2
 some (r11.1, r11.2)) (do
 let r12 ← vl (e 3) r10.2
 let r13 ← bo P .add 3 (.tmp 8) (.const (.int .i64 1)) r12.1 (.int .i64 1) r12.2
 let r14 ← vl r13.1 r13.2
 DQ (AJ e [(4, r1.1), (5, r2.1), (6, r3.1), (7, r4.1), (10, r5.1), (11, r6.1), (12, r7.1), (13, r8.1), (14, r9.1), (15, r10.1), (8, r12.1), (9, r13.1), (3, r14.1)]) r14.2)) (do
 let r15 ← vl (e 0) r4.2
 let r16 ← Au P #[23] 3 #[r15.1] r15.2
 let r17 ← bo P .leq 3 (.tmp 17) (.const (.int .i64 80)) r16.1 (.int .i64 80) r16.2
 let r18 ← vl r17.1 r17.2
 some (r18.1, r18.2))) := (AH P (EV P) 20 19 (cA (cA (cB (cA (cB (Ae P 20)))))) e w (Am 0 (AE P (EV P) 20 19 (cB (cB (Ae P 20))) (Bc P (AB P 20))))).trans (by kernel_rfl)
theorem Mh (x0 : Value) (w : World) : Bv P (EV P) 20 #[x0] w = (do
 let r1 ← vl (.bool false) w
 let r2 ← vl (.int .i64 0) r1.2
 DQ (AJ (AO #[x0]) [(2, r1.1), (3, r2.1)]) r2.2) := by kernel_rfl
theorem Mi (x0 : Value) (w : World) : Bv P (EV P) 21 #[x0] w = (do
 let r1 ← bx P 41 x0 w
 let r2 ← vl (Go.Value.string { data := #[] }) r1.2
 Ah (fa P 41 r1.1 0) (dw r2.2) fun r4 => do
 Ah (ld P 3 r4.1) (dw r2.2) fun r5 => do
 Ah (fa P 41 r1.1 1) (dw r2.2) fun r6 => do
 Ah (ld P 3 r6.1) (dw r2.2) fun r7 => do
 Ah (fa P 41 r1.1 2) (dw r2.2) fun r8 => do
 Ah (ld P 3 r8.1) (dw r2.2) fun r9 => do
 Ah (fa P 41 r1.1 3) (dw r2.2) fun r10 => do
 Ah (ld P 39 r10.1) (dw r2.2) fun r11 => do
 let r12 ← EV P 41 #[r5.1] (dw r2.2)
 AG (ld P 39 r10.1 r12.2 = some (r11.1, r12.2) ∧ fa P 41 r1.1 3 r12.2 = some (r10.1, r12.2) ∧ ld P 3 r8.1 r12.2 = some (r9.1, r12.2) ∧ fa P 41 r1.1 2 r12.2 = some (r8.1, r12.2) ∧ ld P 3 r6.1 r12.2 = some (r7.1, r12.2) ∧ fa P 41 r1.1 1 r12.2 = some (r6.1, r12.2) ∧ True ∧ True ∧ True) <| do
 Ah (bo P .add 9 (.tmp 5) (.const (Go.Value.string { data := #[32] })) r12.1 (Go.Value.string { data := #[32] })) r12.2 fun r13 => do
 let r14 ← EV P 30 #[] r12.2
 AG (bo P .add 9 (.tmp 5) (.const (Go.Value.string { data := #[32] })) r12.1 (Go.Value.string { data := #[32] }) r14.2 = some (r13.1, r14.2) ∧ ld P 39 r10.1 r14.2 = some (r11.1, r14.2) ∧ fa P 41 r1.1 3 r14.2 = some (r10.1, r14.2) ∧ ld P 3 r8.1 r14.2 = some (r9.1, r14.2) ∧ fa P 41 r1.1 2 r14.2 = some (r8.1, r14.2) ∧ ld P 3 r6.1 r14.2 = some (r7.1, r14.2) ∧ fa P 41 r1.1 1 r14.2 = some (r6.1, r14.2) ∧ True ∧ True ∧ True) <| do
 Ah (ia P 47 r14.1 r7.1) r14.2 fun r15 => do
 Ah (ld P 9 r15.1) r14.2 fun r16 => do
 Ah (bo P .add 9 (.tmp 6) (.tmp 11) r13.1 r16.1) r14.2 fun r17 => do
 Ah (bo P .add 9 (.tmp 12) (.const (Go.Value.string { data := #[32] })) r17.1 (Go.Value.string { data := #[32] })) r14.2 fun r18 => do
 let r19 ← EV P 41 #[r9.1] r14.2
 AG (bo P .add 9 (.tmp 12) (.const (Go.Value.string { data := #[32] })) r17.1 (Go.Value.string { data := #[32] }) r19.2 = some (r18.1, r19.2) ∧ bo P .add 9 (.tmp 6) (.tmp 11) r13.1 r16.1 r19.2 = some (r17.1, r19.2) ∧ ld P 9 r15.1 r19.2 = some (r16.1, r19.2) ∧ ia P 47 r14.1 r7.1 r19.2 = some (r15.1, r19.2) ∧ bo P .add 9 (.tmp 5) (.const (Go.Value.string { data := #[32] })) r12.1 (Go.Value.string { data := #[32] }) r19.2 = some (r13.1, r19.2) ∧ ld P 39 r10.1 r19.2 = some (r11.1, r19.2) ∧ fa P 41 r1.1 3 r19.2 = some (r10.1, r19.2) ∧ True ∧ True ∧ ld P 3 r6.1 r19.2 = some (r7.1, r19.2) ∧ fa P 41 r1.1 1 r19.2 = some (r6.1, r19.2) ∧ True ∧ True ∧ True) <| do
 Ah (bo P .add 9 (.tmp 13) (.tmp 16) r18.1 r19.1) r19.2 fun r20 => do
 Ah (bo P .add 9 (.tmp 17) (.const (Go.Value.string { data := #[32] })) r20.1 (Go.Value.string { data := #[32] })) r19.2 fun r21 => do
 let r22 ← EV P 42 #[r11.1] r19.2
 AG (bo P .add 9 (.tmp 17) (.const (Go.Value.string { data := #[32] })) r20.1 (Go.Value.string { data := #[32] }) r22.2 = some (r21.1, r22.2) ∧ bo P .add 9 (.tmp 13) (.tmp 16) r18.1 r19.1 r22.2 = some (r20.1, r22.2) ∧ bo P .add 9 (.tmp 12) (.const (Go.Value.string { data := #[32] })) r17.1 (Go.Value.string { data := #[32] }) r22.2 = some (r18.1, r22.2) ∧ bo P .add 9 (.tmp 6) (.tmp 11) r13.1 r16.1 r22.2 = some (r17.1, r22.2) ∧ ld P 9 r15.1 r22.2 = some (r16.1, r22.2) ∧ ia P 47 r14.1 r7.1 r22.2 = some (r15.1, r22.2) ∧ bo P .add 9 (.tmp 5) (.const (Go.Value.string { data := #[32] })) r12.1 (Go.Value.string { data := #[32] }) r22.2 = some (r13.1, r22.2) ∧ True ∧ True ∧ True ∧ True ∧ ld P 3 r6.1 r22.2 = some (r7.1, r22.2) ∧ fa P 41 r1.1 1 r22.2 = some (r6.1, r22.2) ∧ True ∧ True ∧ True) <| do
 Ah (bo P .add 9 (.tmp 18) (.tmp 21) r21.1 r22.1) r22.2 fun r23 => do
 Ah (bo P .add 9 (.tmp 22) (.const (Go.Value.string { data := #[10] })) r23.1 (Go.Value.string { data := #[10] })) r22.2 fun r24 => do
 Ah (vl r24.1) r22.2 fun r25 => do
 some (r25.1, r22.2)) := by kernel_rfl
theorem Mj (x0 x1 : Value) (w : World) : Bv P (EV P) 22 #[x0, x1] w = (do
 let r1 ← vl (Go.Value.string { data := #[] }) w
 let r2 ← vl (Go.Value.string { data := #[] }) r1.2
 let r3 ← vl (.bool false) r2.2
 let r4 ← vl x0 r3.2
 let r5 ← vl x1 r4.2
 let r6 ← EV P 43 #[r4.1, r5.1] r5.2
 let r7 ← xt P r6.1 0 r6.2
 let r8 ← xt P r6.1 1 r7.2
 let r9 ← xt P r6.1 2 r8.2
 let r10 ← vl r7.1 r9.2
 let r11 ← vl r8.1 r10.2
 let r12 ← vl r9.1 r11.2
 some (.tuple #[r10.1, r11.1, r12.1], r12.2)) := by kernel_rfl
theorem Kz (x0 : Value) (w : World) : Bv P (EV P) 23 #[x0] w = (do
 let r1 ← al P 41 w
 let r2 ← vl (.bool false) r1.2
 let r3 ← vl x0 r2.2
 let r4 ← EV P 44 #[r3.1, (Go.Value.string { data := #[32] })] r3.2
 let r5 ← vl r4.1 r4.2
 let r6 ← vl r5.1 r5.2
 let r7 ← Au P #[47] 3 #[r6.1] r6.2
 let r8 ← bo P .neq 3 (.tmp 14) (.const (.int .i64 4)) r7.1 (.int .i64 4) r7.2
 AL r8.1 (do
 let r9 ← bd P 41 #[] r8.2
 let r10 ← st P 41 r1.1 r9.1 r9.2
 let r11 ← vl (.bool false) r10.2
 let v13 ← (ld P 41 r1.1 r11.2).bind fun r12 => AG (r12.2 = r11.2) (some r12.1)
 some (.tuple #[v13, r11.1], r11.2)) (do
 let r14 ← vl r5.1 r8.2
 let r15 ← ia P 47 r14.1 (.int .i64 0) r14.2
 let r16 ← ld P 9 r15.1 r15.2
 let r17 ← EV P 45 #[r16.1] r16.2
 let r18 ← vl r17.1 r17.2
 let r19 ← xt P r18.1 0 r18.2
 let r20 ← xt P r18.1 1 r19.2
 let r21 ← vl r19.1 r20.2
 let r22 ← vl r20.1 r21.2
 let r23 ← vl r5.1 r22.2
 let r24 ← ia P 47 r23.1 (.int .i64 2) r23.2
 let r25 ← ld P 9 r24.1 r24.2
 let r26 ← EV P 45 #[r25.1] r25.2
 let r27 ← vl r26.1 r26.2
 let r28 ← xt P r27.1 0 r27.2
 let r29 ← xt P r27.1 1 r28.2
 let r30 ← vl r28.1 r29.2
 let r31 ← vl r29.1 r30.2
 let r32 ← vl r5.1 r31.2
 let r33 ← ia P 47 r32.1 (.int .i64 3) r32.2
 let r34 ← ld P 9 r33.1 r33.2
 let r35 ← EV P 46 #[r34.1] r34.2
 let r36 ← vl r35.1 r35.2
 let r37 ← xt P r36.1 0 r36.2
 let r38 ← xt P r36.1 1 r37.2
 let r39 ← al P 39 r38.2
 let r40 ← st P 39 r39.1 r37.1 r39.2
 let r41 ← vl r38.1 r40.2
 Ah (vl r21.1) (dw r41.2) fun r43 => do
 Ah (vl r5.1) (dw r41.2) fun r44 => do
 Ah (ia P 47 r44.1 (.int .i64 1)) (dw r41.2) fun r45 => do
 Ah (ld P 9 r45.1) (dw r41.2) fun r46 => do
 Ah (vl r30.1) (dw r41.2) fun r47 => do
 Ah (ld P 39 r39.1) (dw r41.2) fun r48 => do
 Ah (vl r22.1) (dw r41.2) fun r49 => do
 Ah (bo P .eql 43 (.tmp 47) (.const Go.Value.nilIface) r49.1 Go.Value.nilIface) (dw r41.2) fun r50 => do
 let r51 ← EV P 17 #[] (dw r41.2)
 AG (bo P .eql 43 (.tmp 47) (.const Go.Value.nilIface) r49.1 Go.Value.nilIface r51.2 = some (r50.1, r51.2) ∧ ld P 39 r39.1 r51.2 = some (r48.1, r51.2) ∧ ld P 9 r45.1 r51.2 = some (r46.1, r51.2) ∧ ia P 47 r44.1 (.int .i64 1) r51.2 = some (r45.1, r51.2) ∧ True) <| do
 let r52 ← EV P 47 #[r51.1, r46.1] r51.2
 AG (bo P .eql 43 (.tmp 47) (.const Go.Value.nilIface) r49.1 Go.Value.nilIface r52.2 = some (r50.1, r52.2) ∧ ld P 39 r39.1 r52.2 = some (r48.1, r52.2) ∧ True ∧ True ∧ True) <| do
 Ah (bd P 41 #[(0, r43.1), (1, r52.1), (2, r47.1), (3, r48.1)]) r52.2 fun r53 => do
 Ah (vl r50.1) r52.2 fun r54 => do
 Ah (Ao r54.1 true (vl r31.1 r52.2)) r52.2 fun r55 => do
 Ah (Ao r54.1 true (bo P .eql 43 (.tmp 50) (.const Go.Value.nilIface) r55.1 Go.Value.nilIface r52.2)) r52.2 fun r56 => do
 Ah (Ax r54.1 r56.1 (.bool false)) r52.2 fun r57 => do
 Ah (vl r57.1) r52.2 fun r58 => do
 Ah (Ao r58.1 true (vl r41.1 r52.2)) r52.2 fun r59 => do
 Ah (Ax r58.1 r59.1 (.bool false)) r52.2 fun r60 => do
 let r61 ← st P 41 r1.1 r53.1 r52.2
 AG qt7 <| do
 Ah (vl r60.1) r61.2 fun r62 => do
 let v64 ← (ld P 41 r1.1 r61.2).bind fun r63 => AG (r63.2 = r61.2) (some r63.1)
 some (.tuple #[v64, r62.1], r61.2))) := by kernel_rfl
theorem IL (x0 : Value) (w : World) : Bv P (EV P) 24 #[x0] w = (do
 let r1 ← vl (Go.Value.slice none 0 0) w
 let r2 ← vl x0 r1.2
 let r3 ← vl x0 r2.2
 let r4 ← Au P #[23] 3 #[r3.1] r3.2
 let r5 ← vl x0 r4.2
 let r6 ← Au P #[23] 3 #[r5.1] r5.2
 let r7 ← sl P 23 r2.1 none (some r4.1) (some r6.1) r6.2
 let r8 ← vl r7.1 r7.2
 some (r8.1, r8.2)) := by kernel_rfl
theorem Jo (x0 x1 : Value) (w : World) : Bv P (EV P) 25 #[x0, x1] w = (do
 let r1 ← vl (.int .i64 0) w
 let r2 ← vl x0 r1.2
 let r3 ← vl x0 r2.2
 let r4 ← nk P r3.1 r3.2
 let r5 ← fa P 71 r4.1 1 r4.2
 let r6 ← ld P 3 r5.1 r5.2
 let r7 ← bo P .add 3 (.tmp 11) (.const (.int .i64 1)) r6.1 (.int .i64 1) r6.2
 let r8 ← nk P r2.1 r7.2
 let r9 ← fa P 71 r8.1 1 r8.2
 let r10 ← st P 3 r9.1 r7.1 r9.2
 let r11 ← vl x1 r10.2
 let r12 ← bo P .lss 3 (.tmp 15) (.const (.int .i64 1)) r11.1 (.int .i64 1) r11.2
 let r13 ← vl r12.1 r12.2
 let r14 ← Ao r13.1 false (vl x0 r13.2) r13.2
 let r15 ← Ao r13.1 false (nk P r14.1 r14.2) r14.2
 let r16 ← Ao r13.1 false (fa P 71 r15.1 0 r15.2) r15.2
 let r17 ← Ao r13.1 false (ld P 22 r16.1 r16.2) r16.2
 let r18 ← Ao r13.1 false (Au P #[22] 3 #[r17.1] r17.2) r17.2
 let r19 ← Ao r13.1 false (bo P .eql 3 (.tmp 22) (.const (.int .i64 0)) r18.1 (.int .i64 0) r18.2) r18.2
 let r20 ← Ax r13.1 (.bool true) r19.1 r19.2
 AL r20.1 (do
 let r21 ← vl (.int .i64 0) r20.2
 some (r21.1, r21.2)) (do
 let r22 ← vl x0 r20.2
 let r23 ← nk P r22.1 r22.2
 let r24 ← fa P 71 r23.1 1 r23.2
 let r25 ← ld P 3 r24.1 r24.2
 let r26 ← bo P .sub 3 (.tmp 28) (.const (.int .i64 1)) r25.1 (.int .i64 1) r25.2
 let r27 ← vl r26.1 r26.2
 let r28 ← vl r27.1 r27.2
 let r29 ← vl x0 r28.2
 let r30 ← nk P r29.1 r29.2
 let r31 ← fa P 71 r30.1 0 r30.2
 let r32 ← ld P 22 r31.1 r31.2
 let r33 ← Au P #[22] 3 #[r32.1] r32.2
 let r34 ← bo P .lss 3 (.tmp 30) (.tmp 35) r28.1 r33.1 r33.2
 AL r34.1 (do
 let r35 ← vl x0 r34.2
 let r36 ← nk P r35.1 r35.2
 let r37 ← fa P 71 r36.1 0 r36.2
 let r38 ← ld P 22 r37.1 r37.2
 let r39 ← vl r27.1 r38.2
 let r40 ← ia P 22 r38.1 r39.1 r39.2
 let r41 ← ld P 5 r40.1 r40.2
 let r42 ← cv P 5 3 r41.1 r41.2
 let r43 ← vl x1 r42.2
 let r44 ← bo P .rem 3 (.tmp 44) (.tmp 45) r42.1 r43.1 r43.2
 let r45 ← vl r44.1 r44.2
 some (r45.1, r45.2)) (do
 Ah (vl x0) (dw r34.2) fun r47 => do
 Ah (nk P r47.1) (dw r34.2) fun r48 => do
 Ah (fa P 71 r48.1 0) (dw r34.2) fun r49 => do
 Ah (ld P 22 r49.1) (dw r34.2) fun r50 => do
 Ah (vl r27.1) (dw r34.2) fun r51 => do
 Ah (vl x0) (dw r34.2) fun r52 => do
 Ah (nk P r52.1) (dw r34.2) fun r53 => do
 Ah (fa P 71 r53.1 0) (dw r34.2) fun r54 => do
 Ah (ld P 22 r54.1) (dw r34.2) fun r55 => do
 Ah (Au P #[22] 3 #[r55.1]) (dw r34.2) fun r56 => do
 Ah (bo P .rem 3 (.tmp 51) (.tmp 56) r51.1 r56.1) (dw r34.2) fun r57 => do
 Ah (ia P 22 r50.1 r57.1) (dw r34.2) fun r58 => do
 Ah (ld P 5 r58.1) (dw r34.2) fun r59 => do
 Ah (cv P 5 3 r59.1) (dw r34.2) fun r60 => do
 Ah (bo P .mul 3 (.tmp 60) (.const (.int .i64 131)) r60.1 (.int .i64 131)) (dw r34.2) fun r61 => do
 Ah (vl x0) (dw r34.2) fun r62 => do
 Ah (nk P r62.1) (dw r34.2) fun r63 => do
 Ah (fa P 71 r63.1 0) (dw r34.2) fun r64 => do
 Ah (ld P 22 r64.1) (dw r34.2) fun r65 => do
 Ah (vl r27.1) (dw r34.2) fun r66 => do
 Ah (bo P .mul 3 (.tmp 66) (.const (.int .i64 7)) r66.1 (.int .i64 7)) (dw r34.2) fun r67 => do
 Ah (bo P .add 3 (.tmp 67) (.const (.int .i64 3)) r67.1 (.int .i64 3)) (dw r34.2) fun r68 => do
 Ah (vl x0) (dw r34.2) fun r69 => do
 Ah (nk P r69.1) (dw r34.2) fun r70 => do
 Ah (fa P 71 r70.1 0) (dw r34.2) fun r71 => do
 Ah (ld P 22 r71.1) (dw r34.2) fun r72 => do
 Ah (Au P #[22] 3 #[r72.1]) (dw r34.2) fun r73 => do
 Ah (bo P .rem 3 (.tmp 68) (.tmp 73) r68.1 r73.1) (dw r34.2) fun r74 => do
 Ah (ia P 22 r65.1 r74.1) (dw r34.2) fun r75 => do
 Ah (ld P 5 r75.1) (dw r34.2) fun r76 => do
 Ah (cv P 5 3 r76.1) (dw r34.2) fun r77 => do
 Ah (bo P .mul 3 (.tmp 77) (.const (.int .i64 1117)) r77.1 (.int .i64 1117)) (dw r34.2) fun r78 => do
 Ah (bo P .add 3 (.tmp 61) (.tmp 78) r61.1 r78.1) (dw r34.2) fun r79 => do
 Ah (vl r27.1) (dw r34.2) fun r80 => do
 Ah (bo P .mul 3 (.tmp 80) (.const (.int .i64 29)) r80.1 (.int .i64 29)) (dw r34.2) fun r81 => do
 Ah (bo P .add 3 (.tmp 79) (.tmp 81) r79.1 r81.1) (dw r34.2) fun r82 => do
 Ah (vl r27.1) (dw r34.2) fun r83 => do
 Ah (vl x0) (dw r34.2) fun r84 => do
 Ah (nk P r84.1) (dw r34.2) fun r85 => do
 Ah (fa P 71 r85.1 0) (dw r34.2) fun r86 => do
 Ah (ld P 22 r86.1) (dw r34.2) fun r87 => do
 Ah (Au P #[22] 3 #[r87.1]) (dw r34.2) fun r88 => do
 Ah (bo P .quo 3 (.tmp 83) (.tmp 88) r83.1 r88.1) (dw r34.2) fun r89 => do
 Ah (bo P .mul 3 (.tmp 89) (.const (.int .i64 53)) r89.1 (.int .i64 53)) (dw r34.2) fun r90 => do
 Ah (bo P .add 3 (.tmp 82) (.tmp 90) r82.1 r90.1) (dw r34.2) fun r91 => do
 Ah (vl r91.1) (dw r34.2) fun r92 => do
 let r93 ← vl r92.1 (dw r34.2)
 let r94 ← vl r92.1 r93.2
 let r95 ← bo P .quo 3 (.tmp 93) (.const (.int .i64 64)) r94.1 (.int .i64 64) r94.2
 let r96 ← bo P .xor 3 (.tmp 92) (.tmp 94) r93.1 r95.1 r95.2
 let r97 ← vl r96.1 r96.2
 let r98 ← vl r97.1 r97.2
 let r99 ← vl x1 r98.2
 let r100 ← bo P .rem 3 (.tmp 96) (.tmp 97) r98.1 r99.1 r99.2
 let r101 ← vl r100.1 r100.2
 some (r101.1, r101.2)))) := by kernel_rfl
noncomputable def Fl (e : Env) (w : World) : Option (Value × World) := BA P (EV P) 26 44 (cB (cB (cB (Ae P 26)))) e w (Bc P (AB P 26))
theorem FP (e : Env) (w : World) : Fl e w = (do
 let r1 ← vl (e 1) w
 let r2 ← vl r1.1 r1.2
 some (r2.1, r2.2)) := by kernel_rfl
theorem Lr (x0 x1 : Value) (w : World) : Bv P (EV P) 26 #[x0, x1] w = (do
 let r1 ← vl (Go.Value.string { data := #[] }) w
 let r2 ← vl x0 r1.2
 let r3 ← vl x1 r2.2
 let r4 ← Au P #[9] 3 #[r3.1] r3.2
 let r5 ← bo P .add 3 (.tmp 8) (.const (.int .i64 1)) r4.1 (.int .i64 1) r4.2
 let r6 ← EV P 25 #[r2.1, r5.1] r5.2
 let r7 ← vl r6.1 r6.2
 let r8 ← vl x0 r7.2
 let r9 ← EV P 25 #[r8.1, (.int .i64 5)] r8.2
 let r10 ← bo P .eql 3 (.tmp 12) (.const (.int .i64 0)) r9.1 (.int .i64 0) r9.2
 let r11 ← vl r10.1 r10.2
 AL r11.1 (do
 let r12 ← vl r7.1 r11.2
 let r13 ← vl x1 r12.2
 let r14 ← Au P #[9] 3 #[r13.1] r13.2
 let r15 ← bo P .lss 3 (.tmp 15) (.tmp 17) r12.1 r14.1 r14.2
 AL r15.1 (do
 Ah (vl x1) (dw r15.2) fun r17 => do
 Ah (vl r7.1) (dw r15.2) fun r18 => do
 Ah (sl P 9 r17.1 none (some r18.1) none) (dw r15.2) fun r19 => do
 Ah (vl x0) (dw r15.2) fun r20 => do
 Ah (vl x1) (dw r15.2) fun r21 => do
 Ah (vl r7.1) (dw r15.2) fun r22 => do
 Ah (bo P .add 3 (.tmp 27) (.const (.int .i64 1)) r22.1 (.int .i64 1)) (dw r15.2) fun r23 => do
 Ah (sl P 9 r21.1 (some r23.1) none none) (dw r15.2) fun r24 => do
 let r25 ← bs P 47 8 #[(0, (Go.Value.string { data := #[48] })), (1, (Go.Value.string { data := #[49] })), (2, (Go.Value.string { data := #[32] })), (3, (Go.Value.string { data := #[46] })), (4, (Go.Value.string { data := #[35] })), (5, (Go.Value.string { data := #[61] })), (6, (Go.Value.string { data := #[10] })), (7, (Go.Value.string { data := #[57] }))] (dw r15.2)
 AG (sl P 9 r21.1 (some r23.1) none none r25.2 = some (r24.1, r25.2) ∧ bo P .add 3 (.tmp 27) (.const (.int .i64 1)) r22.1 (.int .i64 1) r25.2 = some (r23.1, r25.2) ∧ sl P 9 r17.1 none (some r18.1) none r25.2 = some (r19.1, r25.2) ∧ True) <| do
 let r26 ← EV P 48 #[r20.1, r25.1] r25.2
 AG (sl P 9 r21.1 (some r23.1) none none r26.2 = some (r24.1, r26.2) ∧ bo P .add 3 (.tmp 27) (.const (.int .i64 1)) r22.1 (.int .i64 1) r26.2 = some (r23.1, r26.2) ∧ sl P 9 r17.1 none (some r18.1) none r26.2 = some (r19.1, r26.2) ∧ True) <| do
 Ah (bo P .add 9 (.tmp 21) (.tmp 24) r19.1 r26.1) r26.2 fun r27 => do
 Ah (bo P .add 9 (.tmp 25) (.tmp 29) r27.1 r24.1) r26.2 fun r28 => do
 Ah (vl r28.1) r26.2 fun r29 => do
 some (r29.1, r26.2)) (do
 Fl (AJ (AO #[x0, x1]) [(4, r1.1), (6, r2.1), (7, r3.1), (8, r4.1), (9, r5.1), (10, r6.1), (5, r7.1), (11, r8.1), (12, r9.1), (14, r10.1), (13, r11.1), (15, r12.1), (16, r13.1), (17, r14.1), (18, r15.1)]) r15.2)) (do
 let r30 ← bo P .eql 3 (.tmp 12) (.const (.int .i64 1)) r9.1 (.int .i64 1) r11.2
 let r31 ← vl r30.1 r30.2
 AL r31.1 (do
 let r32 ← vl x1 r31.2
 let r33 ← vl r7.1 r32.2
 let r34 ← sl P 9 r32.1 none (some r33.1) none r33.2
 let r35 ← vl r34.1 r34.2
 some (r35.1, r35.2)) (do
 let r36 ← bo P .eql 3 (.tmp 12) (.const (.int .i64 2)) r9.1 (.int .i64 2) r31.2
 let r37 ← vl r36.1 r36.2
 AL r37.1 (do
 let r38 ← vl x1 r37.2
 let r39 ← vl x0 r38.2
 let r40 ← bs P 47 4 #[(0, (Go.Value.string { data := #[48] })), (1, (Go.Value.string { data := #[32] })), (2, (Go.Value.string { data := #[120] })), (3, (Go.Value.string { data := #[10] }))] r39.2
 let r41 ← EV P 48 #[r39.1, r40.1] r40.2
 let r42 ← bo P .add 9 (.tmp 38) (.tmp 41) r38.1 r41.1 r41.2
 let r43 ← vl r42.1 r42.2
 some (r43.1, r43.2)) (do
 Fl (AJ (AO #[x0, x1]) [(4, r1.1), (6, r2.1), (7, r3.1), (8, r4.1), (9, r5.1), (10, r6.1), (5, r7.1), (11, r8.1), (12, r9.1), (14, r10.1), (13, r11.1), (32, r30.1), (31, r31.1), (37, r36.1), (36, r37.1)]) r37.2)))) := by kernel_rfl
noncomputable def EJ (e : Env) (w : World) : Option (Value × World) := BA P (EV P) 27 43 (.loop (cA (cA (cB (cA (cB (cB (cB (Ae P 27))))))))) e w (Am 0 (AE P (EV P) 27 43 (cB (cB (cB (cB (Ae P 27))))) (Bc P (AB P 27))))
noncomputable def GM (e : Env) (w : World) : Option (Value × World) := BA P (EV P) 27 43 (cB (cB (cA (cA (cB (cA (cB (cB (cB (Ae P 27)))))))))) e w (DM P (EV P) 27 43 (cA (cA (cB (cA (cB (cB (cB (Ae P 27)))))))) (Am 0 (AE P (EV P) 27 43 (cB (cB (cB (cB (Ae P 27))))) (Bc P (AB P 27)))))
theorem Ha (e : Env) (w : World) : EJ e w = (do
 let r1 ← vl (e 9) w
 let r2 ← vl (e 0) r1.2
 let r3 ← Au P #[9] 3 #[r2.1] r2.2
 let r4 ← bo P .lss 3 (.tmp 11) (.tmp 13) r1.1 r3.1 r3.2
 let r5 ← vl r4.1 r4.2
 let r6 ← Ao r5.1 true (vl (e 7) r5.2) r5.2
 let r7 ← Ao r5.1 true (Au P #[47] 3 #[r6.1] r6.2) r6.2
 let r8 ← Ao r5.1 true (vl (e 2) r7.2) r7.2
 let r9 ← Ao r5.1 true (bo P .lss 3 (.tmp 17) (.tmp 18) r7.1 r8.1 r8.2) r8.2
 let r10 ← Ax r5.1 r9.1 (.bool false) r9.2
 AL r10.1 (do
 let r11 ← vl (e 0) r10.2
 let r12 ← vl (e 9) r11.2
 let r13 ← ix P 9 r11.1 r12.1 r12.2
 let r14 ← vl (e 1) r13.2
 let r15 ← bo P .eql 5 (.tmp 25) (.tmp 26) r13.1 r14.1 r14.2
 AL r15.1 (do
 let r16 ← vl (e 7) r15.2
 let r17 ← vl (e 0) r16.2
 let r18 ← vl (e 8) r17.2
 let r19 ← vl (e 9) r18.2
 let r20 ← sl P 9 r17.1 (some r18.1) (some r19.1) none r19.2
 let r21 ← bs P 47 1 #[(0, r20.1)] r20.2
 let r22 ← Ar P #[47, 47] 47 #[r16.1, r21.1] r21.2
 let r23 ← vl r22.1 r22.2
 let r24 ← vl (e 9) r23.2
 let r25 ← bo P .add 3 (.tmp 35) (.const (.int .i64 1)) r24.1 (.int .i64 1) r24.2
 let r26 ← vl r25.1 r25.2
 GM (AJ e [(11, r1.1), (12, r2.1), (13, r3.1), (14, r4.1), (15, r5.1), (16, r6.1), (17, r7.1), (18, r8.1), (19, r9.1), (20, r10.1), (23, r11.1), (24, r12.1), (25, r13.1), (26, r14.1), (27, r15.1), (28, r16.1), (29, r17.1), (30, r18.1), (31, r19.1), (32, r20.1), (33, r21.1), (34, r22.1), (7, r23.1), (35, r24.1), (36, r25.1), (8, r26.1)]) r26.2) (do
 GM (AJ e [(11, r1.1), (12, r2.1), (13, r3.1), (14, r4.1), (15, r5.1), (16, r6.1), (17, r7.1), (18, r8.1), (19, r9.1), (20, r10.1), (23, r11.1), (24, r12.1), (25, r13.1), (26, r14.1), (27, r15.1)]) r15.2)) (do
 let r27 ← vl (e 7) r10.2
 let r28 ← vl (e 0) r27.2
 let r29 ← vl (e 8) r28.2
 let r30 ← sl P 9 r28.1 (some r29.1) none none r29.2
 let r31 ← bs P 47 1 #[(0, r30.1)] r30.2
 let r32 ← Ar P #[47, 47] 47 #[r27.1, r31.1] r31.2
 let r33 ← vl r32.1 r32.2
 some (r33.1, r33.2))) := (AH P (EV P) 27 43 (cA (cA (cB (cA (cB (cB (cB (Ae P 27)))))))) e w (Am 0 (AE P (EV P) 27 43 (cB (cB (cB (cB (Ae P 27))))) (Bc P (AB P 27))))).trans (by kernel_rfl)
theorem Hb (e : Env) (w : World) : GM e w = (do
 let r1 ← vl (e 9) w
 let r2 ← bo P .add 3 (.tmp 21) (.const (.int .i64 1)) r1.1 (.int .i64 1) r1.2
 let r3 ← vl r2.1 r2.2
 EJ (AJ e [(21, r1.1), (22, r2.1), (9, r3.1)]) r3.2) := by kernel_rfl
theorem NV (x0 x1 x2 : Value) (w : World) : Bv P (EV P) 27 #[x0, x1, x2] w = (do
 let r1 ← vl (Go.Value.slice none 0 0) w
 let r2 ← bs P 47 0 #[] r1.2
 let r3 ← vl r2.1 r2.2
 let r4 ← vl (.int .i64 0) r3.2
 let r5 ← vl (.int .i64 0) r4.2
 EJ (AJ (AO #[x0, x1, x2]) [(6, r1.1), (10, r2.1), (7, r3.1), (8, r4.1), (9, r5.1)]) r5.2) := by kernel_rfl
noncomputable def H9 (e : Env) (w : World) : Option (Value × World) := BA P (EV P) 28 32 (cA (cB (cB (cB (Ae P 28))))) e w (AE P (EV P) 28 32 (cB (cB (cB (cB (Ae P 28))))) (Bc P (AB P 28)))
noncomputable def CN (e : Env) (w : World) : Option (Value × World) := BA P (EV P) 28 32 (cB (cB (cB (cB (Ae P 28))))) e w (Bc P (AB P 28))
theorem Jp (e : Env) (w : World) {Q : Value × World → Prop} (h :
 (Af (vl (e 4) (dw w)) fun r1 => r1.2 = (dw w) ∧
 (Af (ia P 47 r1.1 (.int .i64 0) (dw w)) fun r2 => r2.2 = (dw w) ∧
 (Af (ld P 9 r2.1 (dw w)) fun r3 => r3.2 = (dw w) ∧
 (Af (vl (e 4) (dw w)) fun r4 => r4.2 = (dw w) ∧
 (Af (ia P 47 r4.1 (.int .i64 1) (dw w)) fun r5 => r5.2 = (dw w) ∧
 (Af (ld P 9 r5.1 (dw w)) fun r6 => r6.2 = (dw w) ∧
 ((Af (EV P 29 #[r3.1] (dw w)) fun r7 => (ld P 9 r5.1 r7.2 = some (r6.1, r7.2) ∧ ia P 47 r4.1 (.int .i64 1) r7.2 = some (r5.1, r7.2) ∧ True ∧ True ∧ True) ∧
 ((Af (EV P 29 #[r6.1] r7.2) fun r8 => (True ∧ True ∧ True ∧ True ∧ True) ∧
 (Af (bd P 39 #[(0, r7.1), (1, r8.1)] r8.2) fun r9 => r9.2 = r8.2 ∧
 ((Af (al P 39 r8.2) fun r10 => (bd P 39 #[(0, r7.1), (1, r8.1)] r10.2 = some (r9.1, r10.2) ∧ ld P 9 r5.1 r10.2 = some (r6.1, r10.2) ∧ ia P 47 r4.1 (.int .i64 1) r10.2 = some (r5.1, r10.2) ∧ ld P 9 r2.1 r10.2 = some (r3.1, r10.2) ∧ ia P 47 r1.1 (.int .i64 0) r10.2 = some (r2.1, r10.2) ∧ True) ∧
 ((Af (st P 39 r10.1 r9.1 r10.2) fun r11 => (True ∧ True ∧ True ∧ True ∧ True ∧ True) ∧
 Af (CN (AJ e [(12, r1.1), (13, r2.1), (14, r3.1), (16, r4.1), (17, r5.1), (18, r6.1), (15, r7.1), (19, r8.1), (20, r9.1), (5, r10.1)]) r11.2) Q)))))) ∧
 (Af (al P 39 r7.2) fun r12 => (ld P 9 r5.1 r12.2 = some (r6.1, r12.2) ∧ ia P 47 r4.1 (.int .i64 1) r12.2 = some (r5.1, r12.2) ∧ ld P 9 r2.1 r12.2 = some (r3.1, r12.2) ∧ ia P 47 r1.1 (.int .i64 0) r12.2 = some (r2.1, r12.2) ∧ True) ∧
 ((Af (EV P 29 #[r6.1] r12.2) fun r13 => (True ∧ True ∧ True ∧ True ∧ True) ∧
 (Af (bd P 39 #[(0, r7.1), (1, r13.1)] r13.2) fun r14 => r14.2 = r13.2 ∧
 ((Af (st P 39 r12.1 r14.1 r13.2) fun r15 => (True ∧ True ∧ True ∧ True ∧ True ∧ True) ∧
 Af (CN (AJ e [(12, r1.1), (13, r2.1), (14, r3.1), (16, r4.1), (17, r5.1), (18, r6.1), (15, r7.1), (5, r12.1), (19, r13.1), (20, r14.1)]) r15.2) Q)))))))) ∧
 (Af (al P 39 (dw w)) fun r16 => (ld P 9 r5.1 r16.2 = some (r6.1, r16.2) ∧ ia P 47 r4.1 (.int .i64 1) r16.2 = some (r5.1, r16.2) ∧ ld P 9 r2.1 r16.2 = some (r3.1, r16.2) ∧ ia P 47 r1.1 (.int .i64 0) r16.2 = some (r2.1, r16.2) ∧ True) ∧
 ((Af (EV P 29 #[r3.1] r16.2) fun r17 => (ld P 9 r5.1 r17.2 = some (r6.1, r17.2) ∧ ia P 47 r4.1 (.int .i64 1) r17.2 = some (r5.1, r17.2) ∧ True ∧ True ∧ True) ∧
 ((Af (EV P 29 #[r6.1] r17.2) fun r18 => (True ∧ True ∧ True ∧ True ∧ True) ∧
 (Af (bd P 39 #[(0, r17.1), (1, r18.1)] r18.2) fun r19 => r19.2 = r18.2 ∧
 ((Af (st P 39 r16.1 r19.1 r18.2) fun r20 => (True ∧ True ∧ True ∧ True ∧ True ∧ True) ∧
 Af (CN (AJ e [(12, r1.1), (13, r2.1), (14, r3.1), (16, r4.1), (17, r5.1), (18, r6.1), (5, r16.1), (15, r17.1), (19, r18.1), (20, r19.1)]) r20.2) Q)))))))))))))))) : Af (H9 e w) Q := FH (id := 4) (ops := opsOf (cA (cB (cB (cB (Ae P 28)))))) (by kernel_rfl) (by kernel_rfl) (Eq.mpr (by kernel_rfl) h)
theorem JI (e : Env) (w : World) : CN e w = (do
 let r1 ← ld P 39 (e 5) w
 let r2 ← EV P 49 #[r1.1] r1.2
 let r3 ← uo P .not r2.1 r2.2
 let r4 ← vl r3.1 r3.2
 let r5 ← Ao r4.1 false (ld P 39 (e 5) r4.2) r4.2
 let r6 ← Ao r4.1 false (EV P 42 #[r5.1] r5.2) r5.2
 let r7 ← Ao r4.1 false (vl (e 0) r6.2) r6.2
 let r8 ← Ao r4.1 false (bo P .neq 9 (.tmp 26) (.tmp 27) r6.1 r7.1 r7.2) r7.2
 let r9 ← Ax r4.1 (.bool true) r8.1 r8.2
 AL r9.1 (do
 let r10 ← bd P 39 #[] r9.2
 let r11 ← st P 39 (e 2) r10.1 r10.2
 let r12 ← vl (.bool false) r11.2
 let v14 ← (ld P 39 (e 2) r12.2).bind fun r13 => AG (r13.2 = r12.2) (some r13.1)
 some (.tuple #[v14, r12.1], r12.2)) (do
 let r15 ← ld P 39 (e 5) r9.2
 let r16 ← st P 39 (e 2) r15.1 r15.2
 let r17 ← vl (.bool true) r16.2
 let v19 ← (ld P 39 (e 2) r17.2).bind fun r18 => AG (r18.2 = r17.2) (some r18.1)
 some (.tuple #[v19, r17.1], r17.2))) := by kernel_rfl
theorem Ml (x0 : Value) (w : World) : Bv P (EV P) 28 #[x0] w = (do
 let r1 ← al P 39 w
 let r2 ← vl (.bool false) r1.2
 let r3 ← vl x0 r2.2
 let r4 ← EV P 27 #[r3.1, (.int .u8 46), (.int .i64 2)] r3.2
 let r5 ← vl r4.1 r4.2
 let r6 ← vl r5.1 r5.2
 let r7 ← Au P #[47] 3 #[r6.1] r6.2
 let r8 ← bo P .neq 3 (.tmp 9) (.const (.int .i64 2)) r7.1 (.int .i64 2) r7.2
 AL r8.1 (do
 let r9 ← bd P 39 #[] r8.2
 let r10 ← st P 39 r1.1 r9.1 r9.2
 let r11 ← vl (.bool false) r10.2
 let v13 ← (ld P 39 r1.1 r11.2).bind fun r12 => AG (r12.2 = r11.2) (some r12.1)
 some (.tuple #[v13, r11.1], r11.2)) (do
 H9 (AJ (AO #[x0]) [(2, r1.1), (3, r2.1), (6, r3.1), (7, r4.1), (4, r5.1), (8, r6.1), (9, r7.1), (10, r8.1)]) r8.2)) := by kernel_rfl
noncomputable def EK (e : Env) (w : World) : Option (Value × World) := BA P (EV P) 29 47 (.loop (cA (cA (cB (cA (cB (cB (Ae P 29)))))))) e w (Am 0 (AE P (EV P) 29 47 (cB (cB (cB (Ae P 29)))) (Bc P (AB P 29))))
theorem Hc (e : Env) (w : World) : EK e w = (do
 let r1 ← vl (e 4) w
 let r2 ← vl (e 0) r1.2
 let r3 ← Au P #[9] 3 #[r2.1] r2.2
 let r4 ← bo P .lss 3 (.tmp 5) (.tmp 7) r1.1 r3.1 r3.2
 AL r4.1 (do
 let r5 ← vl (e 0) r4.2
 let r6 ← vl (e 4) r5.2
 let r7 ← ix P 9 r5.1 r6.1 r6.2
 let r8 ← bo P .lss 5 (.tmp 13) (.const (.int .u8 48)) r7.1 (.int .u8 48) r7.2
 let r9 ← vl r8.1 r8.2
 let r10 ← Ao r9.1 false (vl (e 0) r9.2) r9.2
 let r11 ← Ao r9.1 false (vl (e 4) r10.2) r10.2
 let r12 ← Ao r9.1 false (ix P 9 r10.1 r11.1 r11.2) r11.2
 let r13 ← Ao r9.1 false (bo P .gtr 5 (.tmp 18) (.const (.int .u8 57)) r12.1 (.int .u8 57) r12.2) r12.2
 let r14 ← Ax r9.1 (.bool true) r13.1 r13.2
 let r15 ← vl r14.1 r14.2
 let r16 ← Ao r15.1 false (vl (e 4) r15.2) r15.2
 let r17 ← Ao r15.1 false (bo P .geq 3 (.tmp 22) (.const (.int .i64 6)) r16.1 (.int .i64 6) r16.2) r16.2
 let r18 ← Ax r15.1 (.bool true) r17.1 r17.2
 AL r18.1 (do
 let r19 ← vl (.int .i64 (-1)) r18.2
 some (r19.1, r19.2)) (do
 let r20 ← vl (e 3) r18.2
 let r21 ← bo P .mul 3 (.tmp 25) (.const (.int .i64 10)) r20.1 (.int .i64 10) r20.2
 let r22 ← vl (e 0) r21.2
 let r23 ← vl (e 4) r22.2
 let r24 ← ix P 9 r22.1 r23.1 r23.2
 let r25 ← bo P .sub 5 (.tmp 29) (.const (.int .u8 48)) r24.1 (.int .u8 48) r24.2
 let r26 ← cv P 5 3 r25.1 r25.2
 let r27 ← bo P .add 3 (.tmp 26) (.tmp 31) r21.1 r26.1 r26.2
 let r28 ← vl r27.1 r27.2
 let r29 ← vl (e 4) r28.2
 let r30 ← bo P .add 3 (.tmp 9) (.const (.int .i64 1)) r29.1 (.int .i64 1) r29.2
 let r31 ← vl r30.1 r30.2
 EK (AJ e [(5, r1.1), (6, r2.1), (7, r3.1), (8, r4.1), (11, r5.1), (12, r6.1), (13, r7.1), (14, r8.1), (15, r9.1), (16, r10.1), (17, r11.1), (18, r12.1), (19, r13.1), (20, r14.1), (21, r15.1), (22, r16.1), (23, r17.1), (24, r18.1), (25, r20.1), (26, r21.1), (27, r22.1), (28, r23.1), (29, r24.1), (30, r25.1), (31, r26.1), (32, r27.1), (3, r28.1), (9, r29.1), (10, r30.1), (4, r31.1)]) r31.2)) (do
 let r32 ← vl (e 0) r4.2
 let r33 ← Au P #[9] 3 #[r32.1] r32.2
 let r34 ← bo P .eql 3 (.tmp 34) (.const (.int .i64 0)) r33.1 (.int .i64 0) r33.2
 let r35 ← vl r34.1 r34.2
 let r36 ← Ao r35.1 false (vl (e 0) r35.2) r35.2
 let r37 ← Ao r35.1 false (Au P #[9] 3 #[r36.1] r36.2) r36.2
 let r38 ← Ao r35.1 false (bo P .gtr 3 (.tmp 38) (.const (.int .i64 1)) r37.1 (.int .i64 1) r37.2) r37.2
 let r39 ← Ao r35.1 false (vl r38.1 r38.2) r38.2
 let r40 ← Ao r39.1 true (vl (e 0) r39.2) r39.2
 let r41 ← Ao r39.1 true (ix P 9 r40.1 (.int .i64 0) r40.2) r40.2
 let r42 ← Ao r39.1 true (bo P .eql 5 (.tmp 42) (.const (.int .u8 48)) r41.1 (.int .u8 48) r41.2) r41.2
 let r43 ← Ao r35.1 false (Ax r39.1 r42.1 (.bool false) r42.2) r42.2
 let r44 ← Ax r35.1 (.bool true) r43.1 r43.2
 AL r44.1 (do
 let r45 ← vl (.int .i64 (-1)) r44.2
 some (r45.1, r45.2)) (do
 let r46 ← vl (e 3) r44.2
 let r47 ← vl r46.1 r46.2
 some (r47.1, r47.2)))) := (AH P (EV P) 29 47 (cA (cA (cB (cA (cB (cB (Ae P 29))))))) e w (Am 0 (AE P (EV P) 29 47 (cB (cB (cB (Ae P 29)))) (Bc P (AB P 29))))).trans (by kernel_rfl)
theorem NW (x0 : Value) (w : World) : Bv P (EV P) 29 #[x0] w = (do
 let r1 ← vl (.int .i64 0) w
 let r2 ← vl (.int .i64 0) r1.2
 let r3 ← vl (.int .i64 0) r2.2
 EK (AJ (AO #[x0]) [(2, r1.1), (3, r2.1), (4, r3.1)]) r3.2) := by kernel_rfl
theorem Ls (w : World) : Bv P (EV P) 30 #[] w = (do
 let r1 ← vl (Go.Value.slice none 0 0) w
 let r2 ← bs P 47 4 #[(0, (Go.Value.string { data := #[] })), (1, (Go.Value.string { data := #[119, 114, 105, 116, 101] })), (2, (Go.Value.string { data := #[114, 101, 97, 100] })), (3, (Go.Value.string { data := #[115, 117, 114, 101] }))] r1.2
 let r3 ← vl r2.1 r2.2
 some (r3.1, r3.2)) := by kernel_rfl
theorem Mm (x0 : Value) (w : World) : Bv P (EV P) 31 #[x0] w = (do
 let r1 ← bx P 41 x0 w
 let r2 ← vl (.bool false) r1.2
 let r3 ← fa P 41 r1.1 0 r2.2
 let r4 ← ld P 3 r3.1 r3.2
 let r5 ← EV P 50 #[r4.1, (.int .i64 0), (.int .i64 3)] r4.2
 let r6 ← vl r5.1 r5.2
 let r7 ← Ao r6.1 true (fa P 41 r1.1 1 r6.2) r6.2
 let r8 ← Ao r6.1 true (ld P 3 r7.1 r7.2) r7.2
 let r9 ← Ao r6.1 true (EV P 50 #[r8.1, (.int .i64 1), (.int .i64 3)] r8.2) r8.2
 let r10 ← Ax r6.1 r9.1 (.bool false) r9.2
 let r11 ← vl r10.1 r10.2
 let r12 ← Ao r11.1 true (fa P 41 r1.1 2 r11.2) r11.2
 let r13 ← Ao r11.1 true (ld P 3 r12.1 r12.2) r12.2
 let r14 ← Ao r11.1 true (EV P 50 #[r13.1, (.int .i64 0), (.int .i64 3)] r13.2) r13.2
 let r15 ← Ax r11.1 r14.1 (.bool false) r14.2
 let r16 ← vl r15.1 r15.2
 let r17 ← Ao r16.1 true (fa P 41 r1.1 3 r16.2) r16.2
 let r18 ← Ao r16.1 true (ld P 39 r17.1 r17.2) r17.2
 let r19 ← Ao r16.1 true (EV P 49 #[r18.1] r18.2) r18.2
 let r20 ← Ax r16.1 r19.1 (.bool false) r19.2
 let r21 ← vl r20.1 r20.2
 let r22 ← Ao r21.1 true (fa P 41 r1.1 1 r21.2) r21.2
 let r23 ← Ao r21.1 true (ld P 3 r22.1 r22.2) r22.2
 let r24 ← Ao r21.1 true (bo P .eql 3 (.tmp 23) (.const (.int .i64 2)) r23.1 (.int .i64 2) r23.2) r23.2
 let r25 ← Ao r21.1 true (vl r24.1 r24.2) r24.2
 let r26 ← Ao r25.1 false (fa P 41 r1.1 3 r25.2) r25.2
 let r27 ← Ao r25.1 false (fa P 39 r26.1 0 r26.2) r26.2
 let r28 ← Ao r25.1 false (ld P 3 r27.1 r27.2) r27.2
 let r29 ← Ao r25.1 false (bo P .gtr 3 (.tmp 28) (.const (.int .i64 0)) r28.1 (.int .i64 0) r28.2) r28.2
 let r30 ← Ao r21.1 true (Ax r25.1 (.bool true) r29.1 r29.2) r29.2
 let r31 ← Ax r21.1 r30.1 (.bool false) r30.2
 let r32 ← vl r31.1 r31.2
 some (r32.1, r32.2)) := by kernel_rfl
theorem KA (x0 : Value) (w : World) : Bv P (EV P) 32 #[x0] w = (do
 let r1 ← al P 67 w
 let r2 ← vl x0 r1.2
 let r3 ← EV P 51 #[r2.1] r2.2
 let r4 ← vl r3.1 r3.2
 let r5 ← xt P r4.1 0 r4.2
 let r6 ← xt P r4.1 1 r5.2
 let r7 ← xt P r4.1 2 r6.2
 let r8 ← vl r5.1 r7.2
 let r9 ← vl r6.1 r8.2
 let r10 ← vl r7.1 r9.2
 let r11 ← vl r8.1 r10.2
 let r12 ← vl r9.1 r11.2
 let r13 ← vl r10.1 r12.2
 let r14 ← EV P 53 #[r11.1, r12.1, r13.1] r13.2
 let r15 ← EV P 52 #[r14.1] r14.2
 let r16 ← st P 67 r1.1 r15.1 r15.2
 let v18 ← (ld P 67 r1.1 r16.2).bind fun r17 => AG (r17.2 = r16.2) (some r17.1)
 some (v18, r16.2)) := by kernel_rfl
theorem JJ (x0 : Value) (w : World) : Bv P (EV P) 33 #[x0] w = (do
 let r1 ← al P 39 w
 let r2 ← vl x0 r1.2
 let r3 ← EV P 25 #[r2.1, (.int .i64 8)] r2.2
 let r4 ← bo P .eql 3 (.tmp 4) (.const (.int .i64 0)) r3.1 (.int .i64 0) r3.2
 AL r4.1 (do
 let r5 ← vl x0 r4.2
 let r6 ← bs P 87 4 #[(0, (.int .i64 0)), (1, (.int .i64 (-1))), (2, (.int .i64 1000)), (3, (.int .i64 999))] r5.2
 let r7 ← EV P 54 #[r5.1, r6.1] r6.2
 let r8 ← vl x0 r7.2
 let r9 ← bs P 87 4 #[(0, (.int .i64 0)), (1, (.int .i64 1)), (2, (.int .i64 3)), (3, (.int .i64 (-1)))] r8.2
 let r10 ← EV P 54 #[r8.1, r9.1] r9.2
 let r11 ← bd P 39 #[(0, r7.1), (1, r10.1)] r10.2
 let r12 ← st P 39 r1.1 r11.1 r11.2
 let v14 ← (ld P 39 r1.1 r12.2).bind fun r13 => AG (r13.2 = r12.2) (some r13.1)
 some (v14, r12.2)) (do
 let r15 ← vl x0 r4.2
 let r16 ← EV P 55 #[r15.1] r15.2
 let r17 ← st P 39 r1.1 r16.1 r16.2
 let v19 ← (ld P 39 r1.1 r17.2).bind fun r18 => AG (r18.2 = r17.2) (some r18.1)
 some (v19, r17.2))) := by kernel_rfl
theorem FB (x0 x1 : Value) (w : World) : Bv P (EV P) 34 #[x0, x1] w = (do
 let r1 ← vl (.bool false) w
 let r2 ← vl x0 r1.2
 let r3 ← vl x1 r2.2
 let r4 ← EV P 56 #[r2.1, r3.1] r3.2
 let r5 ← bo P .geq 3 (.tmp 7) (.const (.int .i64 0)) r4.1 (.int .i64 0) r4.2
 let r6 ← vl r5.1 r5.2
 some (r6.1, r6.2)) := by kernel_rfl
theorem KB (x0 : Value) (w : World) : Bv P (EV P) 35 #[x0] w = (do
 let r1 ← bx P 41 x0 w
 let r2 ← vl (.bool false) r1.2
 let r3 ← fa P 41 r1.1 0 r2.2
 let r4 ← ld P 3 r3.1 r3.2
 let r5 ← EV P 36 #[r4.1, (.int .i64 0), (.int .i64 3)] r4.2
 let r6 ← uo P .not r5.1 r5.2
 let r7 ← vl r6.1 r6.2
 let r8 ← Ao r7.1 false (fa P 41 r1.1 1 r7.2) r7.2
 let r9 ← Ao r7.1 false (ld P 3 r8.1 r8.2) r8.2
 let r10 ← Ao r7.1 false (EV P 36 #[r9.1, (.int .i64 1), (.int .i64 3)] r9.2) r9.2
 let r11 ← Ao r7.1 false (uo P .not r10.1 r10.2) r10.2
 let r12 ← Ax r7.1 (.bool true) r11.1 r11.2
 let r13 ← vl r12.1 r12.2
 let r14 ← Ao r13.1 false (fa P 41 r1.1 2 r13.2) r13.2
 let r15 ← Ao r13.1 false (ld P 3 r14.1 r14.2) r14.2
 let r16 ← Ao r13.1 false (EV P 37 #[r15.1] r15.2) r15.2
 let r17 ← Ao r13.1 false (uo P .not r16.1 r16.2) r16.2
 let r18 ← Ax r13.1 (.bool true) r17.1 r17.2
 let r19 ← vl r18.1 r18.2
 let r20 ← Ao r19.1 false (fa P 41 r1.1 3 r19.2) r19.2
 let r21 ← Ao r19.1 false (ld P 39 r20.1 r20.2) r20.2
 let r22 ← Ao r19.1 false (EV P 38 #[r21.1] r21.2) r21.2
 let r23 ← Ao r19.1 false (uo P .not r22.1 r22.2) r22.2
 let r24 ← Ax r19.1 (.bool true) r23.1 r23.2
 let r25 ← vl r24.1 r24.2
 let r26 ← Ao r25.1 false (fa P 41 r1.1 3 r25.2) r25.2
 let r27 ← Ao r25.1 false (ld P 39 r26.1 r26.2) r26.2
 let r28 ← Ao r25.1 false (bd P 39 #[] r27.2) r27.2
 let r29 ← Ao r25.1 false (bo P .eql 39 (.tmp 27) (.tmp 28) r27.1 r28.1 r28.2) r28.2
 let r30 ← Ao r25.1 false (vl r29.1 r29.2) r29.2
 let r31 ← Ao r30.1 true (fa P 41 r1.1 1 r30.2) r30.2
 let r32 ← Ao r30.1 true (ld P 3 r31.1 r31.2) r31.2
 let r33 ← Ao r30.1 true (bo P .neq 3 (.tmp 32) (.const (.int .i64 2)) r32.1 (.int .i64 2) r32.2) r32.2
 let r34 ← Ao r25.1 false (Ax r30.1 r33.1 (.bool false) r33.2) r33.2
 let r35 ← Ax r25.1 (.bool true) r34.1 r34.2
 let r36 ← vl r35.1 r35.2
 some (r36.1, r36.2)) := by kernel_rfl
theorem Mn (x0 x1 x2 : Value) (w : World) : Bv P (EV P) 36 #[x0, x1, x2] w = (do
 let r1 ← vl (.bool false) w
 let r2 ← vl x0 r1.2
 let r3 ← vl x1 r2.2
 let r4 ← bo P .geq 3 (.tmp 7) (.tmp 8) r2.1 r3.1 r3.2
 let r5 ← vl r4.1 r4.2
 let r6 ← Ao r5.1 true (vl x0 r5.2) r5.2
 let r7 ← Ao r5.1 true (vl x2 r6.2) r6.2
 let r8 ← Ao r5.1 true (bo P .leq 3 (.tmp 11) (.tmp 12) r6.1 r7.1 r7.2) r7.2
 let r9 ← Ax r5.1 r8.1 (.bool false) r8.2
 let r10 ← vl r9.1 r9.2
 some (r10.1, r10.2)) := by kernel_rfl
theorem NX (x0 : Value) (w : World) : Bv P (EV P) 37 #[x0] w = (do
 let r1 ← vl (.bool false) w
 let r2 ← vl x0 r1.2
 let r3 ← EV P 36 #[r2.1, (.int .i64 0), (.int .i64 3)] r2.2
 let r4 ← vl r3.1 r3.2
 some (r4.1, r4.2)) := by kernel_rfl
theorem NY (x0 : Value) (w : World) : Bv P (EV P) 38 #[x0] w = (do
 let r1 ← bx P 39 x0 w
 let r2 ← vl (.bool false) r1.2
 let r3 ← ld P 39 r1.1 r2.2
 let r4 ← bd P 39 #[] r3.2
 let r5 ← bo P .eql 39 (.tmp 3) (.tmp 4) r3.1 r4.1 r4.2
 let r6 ← vl r5.1 r5.2
 let r7 ← Ao r6.1 false (fa P 39 r1.1 0 r6.2) r6.2
 let r8 ← Ao r6.1 false (ld P 3 r7.1 r7.2) r7.2
 let r9 ← Ao r6.1 false (EV P 36 #[r8.1, (.int .i64 1), (.int .i64 999)] r8.2) r8.2
 let r10 ← Ao r6.1 false (vl r9.1 r9.2) r9.2
 let r11 ← Ao r10.1 true (fa P 39 r1.1 1 r10.2) r10.2
 let r12 ← Ao r10.1 true (ld P 3 r11.1 r11.2) r11.2
 let r13 ← Ao r10.1 true (EV P 57 #[r12.1] r12.2) r12.2
 let r14 ← Ao r6.1 false (Ax r10.1 r13.1 (.bool false) r13.2) r13.2
 let r15 ← Ax r6.1 (.bool true) r14.1 r14.2
 let r16 ← vl r15.1 r15.2
 some (r16.1, r16.2)) := by kernel_rfl
theorem Fm (x0 : Value) (w : World) : Bv P (EV P) 39 #[x0] w = (do
 let r1 ← vl x0 w
 let r2 ← nk P r1.1 r1.2
 let r3 ← fa P 37 r2.1 0 r2.2
 let r4 ← ld P 35 r3.1 r3.2
 let r5 ← bo P .eql 35 (.tmp 5) (.const (Go.Value.pointer none)) r4.1 (Go.Value.pointer none) r4.2
 AL r5.1 (do
 let r6 ← vl x0 r5.2
 let r7 ← vl x0 r6.2
 let r8 ← cv P 35 89 r7.1 r7.2
 let r9 ← xf P 58 #[r8.1] r8.2
 let r10 ← cv P 89 35 r9.1 r9.2
 let r11 ← nk P r6.1 r10.2
 let r12 ← fa P 37 r11.1 0 r11.2
 let r13 ← st P 35 r12.1 r10.1 r12.2
 some (.tuple #[], r13.2)) (do
 let r14 ← vl x0 r5.2
 let r15 ← nk P r14.1 r14.2
 let r16 ← fa P 37 r15.1 0 r15.2
 let r17 ← ld P 35 r16.1 r16.2
 let r18 ← vl x0 r17.2
 let r19 ← bo P .neq 35 (.tmp 17) (.tmp 18) r17.1 r18.1 r18.2
 AL r19.1 (do
 (none : Option (Value × World))) (do
 some (.tuple #[], r19.2)))) := by kernel_rfl
theorem GN (x0 : Value) (w : World) : Bv P (EV P) 40 #[x0] w = (do
 let r1 ← vl (Go.Value.string { data := #[] }) w
 let r2 ← vl x0 r1.2
 let r3 ← EV P 59 #[r2.1, (.int .i64 10)] r2.2
 let r4 ← vl r3.1 r3.2
 some (r4.1, r4.2)) := by kernel_rfl
noncomputable def I6 (e : Env) (w : World) : Option (Value × World) := BA P (EV P) 41 28 (cA (cB (cB (cB (cB (Ae P 41)))))) e w (AE P (EV P) 41 28 (cB (cB (cB (cB (cB (Ae P 41)))))) (Bc P (AB P 41)))
noncomputable def GO (e : Env) (w : World) : Option (Value × World) := BA P (EV P) 41 28 (cB (cB (cB (cB (cB (Ae P 41)))))) e w (Bc P (AB P 41))
theorem JK (e : Env) (w : World) {Q : Value × World → Prop} (h :
 (Af (vl (e 0) (dw w)) fun r1 => r1.2 = (dw w) ∧
 (Af (bo P .quo 3 (.tmp 18) (.const (.int .i64 10)) r1.1 (.int .i64 10) (dw w)) fun r2 => r2.2 = (dw w) ∧
 (Af (vl (e 0) (dw w)) fun r3 => r3.2 = (dw w) ∧
 (Af (bo P .rem 3 (.tmp 21) (.const (.int .i64 10)) r3.1 (.int .i64 10) (dw w)) fun r4 => r4.2 = (dw w) ∧
 (Af (bo P .add 3 (.const (.int .i64 48)) (.tmp 22) (.int .i64 48) r4.1 (dw w)) fun r5 => r5.2 = (dw w) ∧
 (Af (cv P 3 5 r5.1 (dw w)) fun r6 => r6.2 = (dw w) ∧
 ((Af (EV P 41 #[r2.1] (dw w)) fun r7 => (cv P 3 5 r5.1 r7.2 = some (r6.1, r7.2) ∧ bo P .add 3 (.const (.int .i64 48)) (.tmp 22) (.int .i64 48) r4.1 r7.2 = some (r5.1, r7.2) ∧ bo P .rem 3 (.tmp 21) (.const (.int .i64 10)) r3.1 (.int .i64 10) r7.2 = some (r4.1, r7.2) ∧ True ∧ True) ∧
 ((Af (bs P 22 1 #[(0, r6.1)] r7.2) fun r8 => (True ∧ True ∧ True ∧ bo P .quo 3 (.tmp 18) (.const (.int .i64 10)) r1.1 (.int .i64 10) r8.2 = some (r2.1, r8.2) ∧ True) ∧
 (Af (cv P 22 9 r8.1 r8.2) fun r9 => r9.2 = r8.2 ∧
 (Af (bo P .add 9 (.tmp 20) (.tmp 26) r7.1 r9.1 r8.2) fun r10 => r10.2 = r8.2 ∧
 (Af (vl r10.1 r8.2) fun r11 => r11.2 = r8.2 ∧
 Af (GO (AJ e [(18, r1.1), (19, r2.1), (21, r3.1), (22, r4.1), (23, r5.1), (24, r6.1), (20, r7.1), (25, r8.1), (26, r9.1), (27, r10.1), (2, r11.1)]) r8.2) Q)))))) ∧
 (Af (bs P 22 1 #[(0, r6.1)] (dw w)) fun r12 => (True ∧ True ∧ True ∧ bo P .quo 3 (.tmp 18) (.const (.int .i64 10)) r1.1 (.int .i64 10) r12.2 = some (r2.1, r12.2) ∧ True) ∧
 (Af (cv P 22 9 r12.1 r12.2) fun r13 => r13.2 = r12.2 ∧
 ((Af (EV P 41 #[r2.1] r12.2) fun r14 => (cv P 22 9 r12.1 r14.2 = some (r13.1, r14.2) ∧ cv P 3 5 r5.1 r14.2 = some (r6.1, r14.2) ∧ bo P .add 3 (.const (.int .i64 48)) (.tmp 22) (.int .i64 48) r4.1 r14.2 = some (r5.1, r14.2) ∧ bo P .rem 3 (.tmp 21) (.const (.int .i64 10)) r3.1 (.int .i64 10) r14.2 = some (r4.1, r14.2) ∧ True ∧ True) ∧
 (Af (bo P .add 9 (.tmp 20) (.tmp 26) r14.1 r13.1 r14.2) fun r15 => r15.2 = r14.2 ∧
 (Af (vl r15.1 r14.2) fun r16 => r16.2 = r14.2 ∧
 Af (GO (AJ e [(18, r1.1), (19, r2.1), (21, r3.1), (22, r4.1), (23, r5.1), (24, r6.1), (25, r12.1), (26, r13.1), (20, r14.1), (27, r15.1), (2, r16.1)]) r14.2) Q)))))))))))))) : Af (I6 e w) Q := FH (id := 7) (ops := opsOf (cA (cB (cB (cB (cB (Ae P 41))))))) (by kernel_rfl) (by kernel_rfl) (Eq.mpr (by kernel_rfl) h)
theorem Hd (e : Env) (w : World) : GO e w =
 some ((e 2), w) := by kernel_rfl
theorem I7 (x0 : Value) (w : World) : Bv P (EV P) 41 #[x0] w = (do
 let r1 ← vl (Go.Value.string { data := #[] }) w
 let r2 ← vl x0 r1.2
 let r3 ← bo P .lss 3 (.tmp 3) (.const (.int .i64 (-9223372036854775807))) r2.1 (.int .i64 (-9223372036854775807)) r2.2
 AL r3.1 (do
 let r4 ← vl (Go.Value.string { data := #[45, 57, 50, 50, 51, 51, 55, 50, 48, 51, 54, 56, 53, 52, 55, 55, 53, 56, 48, 56] }) r3.2
 some (r4.1, r4.2)) (do
 let r5 ← vl x0 r3.2
 let r6 ← bo P .lss 3 (.tmp 5) (.const (.int .i64 0)) r5.1 (.int .i64 0) r5.2
 AL r6.1 (do
 let r7 ← vl x0 r6.2
 let r8 ← uo P .neg r7.1 r7.2
 let r9 ← EV P 41 #[r8.1] r8.2
 let r10 ← bo P .add 9 (.const (Go.Value.string { data := #[45] })) (.tmp 9) (Go.Value.string { data := #[45] }) r9.1 r9.2
 let r11 ← vl r10.1 r10.2
 some (r11.1, r11.2)) (do
 let r12 ← vl x0 r6.2
 let r13 ← bo P .lss 3 (.tmp 11) (.const (.int .i64 10)) r12.1 (.int .i64 10) r12.2
 AL r13.1 (do
 let r14 ← vl x0 r13.2
 let r15 ← bo P .add 3 (.const (.int .i64 48)) (.tmp 13) (.int .i64 48) r14.1 r14.2
 let r16 ← cv P 3 5 r15.1 r15.2
 let r17 ← bs P 22 1 #[(0, r16.1)] r16.2
 let r18 ← cv P 22 9 r17.1 r17.2
 let r19 ← vl r18.1 r18.2
 some (r19.1, r19.2)) (do
 I6 (AJ (AO #[x0]) [(2, r1.1), (3, r2.1), (4, r3.1), (5, r5.1), (6, r6.1), (11, r12.1), (12, r13.1)]) r13.2)))) := by kernel_rfl
theorem NZ (x0 : Value) (w : World) : Bv P (EV P) 42 #[x0] w = (do
 let r1 ← bx P 39 x0 w
 let r2 ← vl (Go.Value.string { data := #[] }) r1.2
 Ah (fa P 39 r1.1 0) (dw r2.2) fun r4 => do
 Ah (ld P 3 r4.1) (dw r2.2) fun r5 => do
 Ah (fa P 39 r1.1 1) (dw r2.2) fun r6 => do
 Ah (ld P 3 r6.1) (dw r2.2) fun r7 => do
 let r8 ← EV P 41 #[r5.1] (dw r2.2)
 AG (ld P 3 r6.1 r8.2 = some (r7.1, r8.2) ∧ fa P 39 r1.1 1 r8.2 = some (r6.1, r8.2) ∧ True ∧ True ∧ True) <| do
 Ah (bo P .add 9 (.tmp 5) (.const (Go.Value.string { data := #[46] })) r8.1 (Go.Value.string { data := #[46] })) r8.2 fun r9 => do
 let r10 ← EV P 41 #[r7.1] r8.2
 AG (bo P .add 9 (.tmp 5) (.const (Go.Value.string { data := #[46] })) r8.1 (Go.Value.string { data := #[46] }) r10.2 = some (r9.1, r10.2) ∧ True ∧ True ∧ True ∧ True ∧ True) <| do
 Ah (bo P .add 9 (.tmp 6) (.tmp 9) r9.1 r10.1) r10.2 fun r11 => do
 Ah (vl r11.1) r10.2 fun r12 => do
 some (r12.1, r10.2)) := by kernel_rfl
theorem FC (x0 x1 : Value) (w : World) : Bv P (EV P) 43 #[x0, x1] w = (do
 let r1 ← vl (Go.Value.string { data := #[] }) w
 let r2 ← vl (Go.Value.string { data := #[] }) r1.2
 let r3 ← vl (.bool false) r2.2
 let r4 ← vl x0 r3.2
 let r5 ← vl x1 r4.2
 let r6 ← EV P 60 #[r4.1, r5.1] r5.2
 let r7 ← vl r6.1 r6.2
 let r8 ← vl r7.1 r7.2
 let r9 ← bo P .geq 3 (.tmp 11) (.const (.int .i64 0)) r8.1 (.int .i64 0) r8.2
 AL r9.1 (do
 Ah (vl x0) (dw r9.2) fun r11 => do
 Ah (vl r7.1) (dw r9.2) fun r12 => do
 Ah (sl P 9 r11.1 none (some r12.1) none) (dw r9.2) fun r13 => do
 Ah (vl x0) (dw r9.2) fun r14 => do
 Ah (vl r7.1) (dw r9.2) fun r15 => do
 Ah (vl x1) (dw r9.2) fun r16 => do
 Ah (Au P #[9] 3 #[r16.1]) (dw r9.2) fun r17 => do
 Ah (bo P .add 3 (.tmp 17) (.tmp 19) r15.1 r17.1) (dw r9.2) fun r18 => do
 Ah (sl P 9 r14.1 (some r18.1) none none) (dw r9.2) fun r19 => do
 Ah (vl r13.1) (dw r9.2) fun r20 => do
 Ah (vl r19.1) (dw r9.2) fun r21 => do
 Ah (vl (.bool true)) (dw r9.2) fun r22 => do
 some (.tuple #[r20.1, r21.1, r22.1], (dw r9.2))) (do
 let r23 ← vl x0 r9.2
 let r24 ← vl r23.1 r23.2
 let r25 ← vl (Go.Value.string { data := #[] }) r24.2
 let r26 ← vl (.bool false) r25.2
 some (.tuple #[r24.1, r25.1, r26.1], r26.2))) := by kernel_rfl
theorem KC (x0 x1 : Value) (w : World) : Bv P (EV P) 44 #[x0, x1] w = (do
 let r1 ← vl (Go.Value.slice none 0 0) w
 let r2 ← vl x0 r1.2
 let r3 ← vl x1 r2.2
 let r4 ← EV P 61 #[r2.1, r3.1, (.int .i64 0), (.int .i64 (-1))] r3.2
 let r5 ← vl r4.1 r4.2
 some (r5.1, r5.2)) := by kernel_rfl
theorem Lt (x0 : Value) (w : World) : Bv P (EV P) 45 #[x0] w = (do
 let r1 ← vl (.int .i64 0) w
 let r2 ← vl Go.Value.nilIface r1.2
 let r3 ← vl x0 r2.2
 let r4 ← EV P 62 #[r3.1] r3.2
 let r5 ← vl r4.1 r4.2
 let r6 ← xt P r5.1 0 r5.2
 let r7 ← xt P r5.1 1 r6.2
 let r8 ← vl r6.1 r7.2
 let r9 ← vl r7.1 r8.2
 let r10 ← vl r9.1 r9.2
 let r11 ← bo P .neq 43 (.tmp 11) (.const Go.Value.nilIface) r10.1 Go.Value.nilIface r10.2
 AL r11.1 (do
 let r12 ← vl r8.1 r11.2
 let r13 ← vl x0 r12.2
 let r14 ← vl r9.1 r13.2
 let r15 ← EV P 63 #[(Go.Value.string { data := #[65, 116, 111, 105] }), r13.1, (.int .i64 0), (.int .i64 0), r14.1] r14.2
 let r16 ← vl r12.1 r15.2
 let r17 ← vl r15.1 r16.2
 some (.tuple #[r16.1, r17.1], r17.2)) (do
 let r18 ← vl r8.1 r11.2
 let r19 ← vl r18.1 r18.2
 let r20 ← vl Go.Value.nilIface r19.2
 some (.tuple #[r19.1, r20.1], r20.2))) := by kernel_rfl
theorem Mo (x0 : Value) (w : World) : Bv P (EV P) 46 #[x0] w = (do
 let r1 ← al P 39 w
 let r2 ← vl (.bool false) r1.2
 let r3 ← vl x0 r2.2
 let r4 ← EV P 22 #[r3.1, (Go.Value.string { data := #[46] })] r3.2
 let r5 ← vl r4.1 r4.2
 let r6 ← xt P r5.1 0 r5.2
 let r7 ← xt P r5.1 1 r6.2
 let r8 ← xt P r5.1 2 r7.2
 let r9 ← vl r6.1 r8.2
 let r10 ← vl r7.1 r9.2
 let r11 ← vl r8.1 r10.2
 let r12 ← vl r9.1 r11.2
 let r13 ← EV P 45 #[r12.1] r12.2
 let r14 ← vl r13.1 r13.2
 let r15 ← xt P r14.1 0 r14.2
 let r16 ← xt P r14.1 1 r15.2
 let r17 ← vl r15.1 r16.2
 let r18 ← vl r16.1 r17.2
 let r19 ← vl r10.1 r18.2
 let r20 ← EV P 45 #[r19.1] r19.2
 let r21 ← vl r20.1 r20.2
 let r22 ← xt P r21.1 0 r21.2
 let r23 ← xt P r21.1 1 r22.2
 let r24 ← vl r22.1 r23.2
 let r25 ← vl r23.1 r24.2
 let r26 ← vl r17.1 r25.2
 let r27 ← vl r24.1 r26.2
 let r28 ← bd P 39 #[(0, r26.1), (1, r27.1)] r27.2
 let r29 ← al P 39 r28.2
 let r30 ← st P 39 r29.1 r28.1 r29.2
 let r31 ← vl r18.1 r30.2
 let r32 ← bo P .neq 43 (.tmp 31) (.const Go.Value.nilIface) r31.1 Go.Value.nilIface r31.2
 let r33 ← vl r32.1 r32.2
 let r34 ← Ao r33.1 false (vl r25.1 r33.2) r33.2
 let r35 ← Ao r33.1 false (bo P .neq 43 (.tmp 34) (.const Go.Value.nilIface) r34.1 Go.Value.nilIface r34.2) r34.2
 let r36 ← Ax r33.1 (.bool true) r35.1 r35.2
 let r37 ← vl r36.1 r36.2
 let r38 ← Ao r37.1 false (ld P 39 r29.1 r37.2) r37.2
 let r39 ← Ao r37.1 false (EV P 38 #[r38.1] r38.2) r38.2
 let r40 ← Ao r37.1 false (uo P .not r39.1 r39.2) r39.2
 let r41 ← Ax r37.1 (.bool true) r40.1 r40.2
 let r42 ← vl r41.1 r41.2
 let r43 ← Ao r42.1 false (ld P 39 r29.1 r42.2) r42.2
 let r44 ← Ao r42.1 false (EV P 18 #[r43.1] r43.2) r43.2
 let r45 ← Ao r42.1 false (vl x0 r44.2) r44.2
 let r46 ← Ao r42.1 false (bo P .neq 9 (.tmp 44) (.tmp 45) r44.1 r45.1 r45.2) r45.2
 let r47 ← Ax r42.1 (.bool true) r46.1 r46.2
 AL r47.1 (do
 let r48 ← bd P 39 #[] r47.2
 let r49 ← st P 39 r1.1 r48.1 r48.2
 let r50 ← vl (.bool false) r49.2
 let v52 ← (ld P 39 r1.1 r50.2).bind fun r51 => AG (r51.2 = r50.2) (some r51.1)
 some (.tuple #[v52, r50.1], r50.2)) (do
 let r53 ← ld P 39 r29.1 r47.2
 let r54 ← st P 39 r1.1 r53.1 r53.2
 let r55 ← vl (.bool true) r54.2
 let v57 ← (ld P 39 r1.1 r55.2).bind fun r56 => AG (r56.2 = r55.2) (some r56.1)
 some (.tuple #[v57, r55.1], r55.2))) := by kernel_rfl
noncomputable def BS (e : Env) (w : World) : Option (Value × World) := BA P (EV P) 47 19 (.loop (cA (cA (cB (cA (cB (Ae P 47))))))) e w (Am 0 (AE P (EV P) 47 19 (cB (cB (Ae P 47))) (Bc P (AB P 47))))
theorem C7 (e : Env) (w : World) : BS e w = (do
 let r1 ← bo P .lss 3 (.tmp 8) (.tmp 7) (e 8) (e 7) w
 AL r1.1 (do
 let r2 ← vl (e 8) r1.2
 let r3 ← vl r2.1 r2.2
 let r4 ← vl (e 1) r3.2
 let r5 ← vl (e 0) r4.2
 let r6 ← vl r3.1 r5.2
 let r7 ← ia P 47 r5.1 r6.1 r6.2
 let r8 ← ld P 9 r7.1 r7.2
 let r9 ← bo P .eql 9 (.tmp 11) (.tmp 15) r4.1 r8.1 r8.2
 AL r9.1 (do
 let r10 ← vl r3.1 r9.2
 let r11 ← vl r10.1 r10.2
 some (r11.1, r11.2)) (do
 let r12 ← bo P .add 3 (.tmp 8) (.const (.int .i64 1)) (e 8) (.int .i64 1) r9.2
 let r13 ← vl r12.1 r12.2
 BS (AJ e [(9, r1.1), (10, r2.1), (5, r3.1), (11, r4.1), (12, r5.1), (13, r6.1), (14, r7.1), (15, r8.1), (16, r9.1), (18, r12.1), (8, r13.1)]) r13.2)) (do
 let r14 ← vl (.int .i64 (-1)) r1.2
 some (r14.1, r14.2))) := (AH P (EV P) 47 19 (cA (cA (cB (cA (cB (Ae P 47)))))) e w (Am 0 (AE P (EV P) 47 19 (cB (cB (Ae P 47))) (Bc P (AB P 47))))).trans (by kernel_rfl)
theorem Hx (x0 x1 : Value) (w : World) : Bv P (EV P) 47 #[x0, x1] w = (do
 let r1 ← vl (.int .i64 0) w
 let r2 ← vl x0 r1.2
 let r3 ← Au P #[47] 3 #[r2.1] r2.2
 let r4 ← vl (.int .i64 0) r3.2
 BS (AJ (AO #[x0, x1]) [(4, r1.1), (6, r2.1), (7, r3.1), (8, r4.1)]) r4.2) := by kernel_rfl
theorem KD (x0 x1 : Value) (w : World) : Bv P (EV P) 48 #[x0, x1] w = (do
 let r1 ← vl (Go.Value.string { data := #[] }) w
 let r2 ← vl x1 r1.2
 let r3 ← vl x0 r2.2
 let r4 ← vl x1 r3.2
 let r5 ← Au P #[47] 3 #[r4.1] r4.2
 let r6 ← EV P 25 #[r3.1, r5.1] r5.2
 let r7 ← ia P 47 r2.1 r6.1 r6.2
 let r8 ← ld P 9 r7.1 r7.2
 let r9 ← vl r8.1 r8.2
 some (r9.1, r9.2)) := by kernel_rfl
theorem Lu (x0 : Value) (w : World) : Bv P (EV P) 49 #[x0] w = (do
 let r1 ← bx P 39 x0 w
 let r2 ← vl (.bool false) r1.2
 let r3 ← ld P 39 r1.1 r2.2
 let r4 ← bd P 39 #[] r3.2
 let r5 ← bo P .eql 39 (.tmp 3) (.tmp 4) r3.1 r4.1 r4.2
 let r6 ← vl r5.1 r5.2
 let r7 ← Ao r6.1 false (fa P 39 r1.1 0 r6.2) r6.2
 let r8 ← Ao r6.1 false (ld P 3 r7.1 r7.2) r7.2
 let r9 ← Ao r6.1 false (EV P 50 #[r8.1, (.int .i64 1), (.int .i64 999)] r8.2) r8.2
 let r10 ← Ao r6.1 false (vl r9.1 r9.2) r9.2
 let r11 ← Ao r10.1 true (fa P 39 r1.1 1 r10.2) r10.2
 let r12 ← Ao r10.1 true (ld P 3 r11.1 r11.2) r11.2
 let r13 ← Ao r10.1 true (EV P 50 #[r12.1, (.int .i64 0), (.int .i64 2)] r12.2) r12.2
 let r14 ← Ao r6.1 false (Ax r10.1 r13.1 (.bool false) r13.2) r13.2
 let r15 ← Ax r6.1 (.bool true) r14.1 r14.2
 let r16 ← vl r15.1 r15.2
 some (r16.1, r16.2)) := by kernel_rfl
theorem Pr (x0 x1 x2 : Value) (w : World) : Bv P (EV P) 50 #[x0, x1, x2] w = (do
 let r1 ← vl (.bool false) w
 let r2 ← vl x0 r1.2
 let r3 ← vl x1 r2.2
 let r4 ← bo P .geq 3 (.tmp 7) (.tmp 8) r2.1 r3.1 r3.2
 let r5 ← vl r4.1 r4.2
 let r6 ← Ao r5.1 true (vl x0 r5.2) r5.2
 let r7 ← Ao r5.1 true (vl x2 r6.2) r6.2
 let r8 ← Ao r5.1 true (bo P .leq 3 (.tmp 11) (.tmp 12) r6.1 r7.1 r7.2) r7.2
 let r9 ← Ax r5.1 r8.1 (.bool false) r8.2
 let r10 ← vl r9.1 r9.2
 some (r10.1, r10.2)) := by kernel_rfl
theorem Lv (x0 : Value) (w : World) : Bv P (EV P) 51 #[x0] w = (do
 let r1 ← vl (.int .i64 0) w
 let r2 ← vl (.int .i64 0) r1.2
 let r3 ← vl (Go.Value.slice none 0 0) r2.2
 let r4 ← vl x0 r3.2
 let r5 ← EV P 25 #[r4.1, (.int .i64 4)] r4.2
 let r6 ← bo P .add 3 (.const (.int .i64 1)) (.tmp 8) (.int .i64 1) r5.1 r5.2
 let r7 ← vl r6.1 r6.2
 let r8 ← vl x0 r7.2
 let r9 ← EV P 25 #[r8.1, (.int .i64 4)] r8.2
 let r10 ← bo P .add 3 (.const (.int .i64 1)) (.tmp 11) (.int .i64 1) r9.1 r9.2
 let r11 ← vl r10.1 r10.2
 let r12 ← vl r7.1 r11.2
 let r13 ← vl r11.1 r12.2
 let r14 ← vl x0 r13.2
 let r15 ← vl r7.1 r14.2
 let r16 ← vl r11.1 r15.2
 let r17 ← vl x0 r16.2
 let r18 ← bs P 87 4 #[(0, (.int .i64 0)), (1, (.int .i64 20)), (2, (.int .i64 60)), (3, (.int .i64 120))] r17.2
 let r19 ← EV P 54 #[r17.1, r18.1] r18.2
 let r20 ← EV P 64 #[r14.1, r15.1, r16.1, r19.1] r19.2
 let r21 ← vl r12.1 r20.2
 let r22 ← vl r13.1 r21.2
 let r23 ← vl r20.1 r22.2
 some (.tuple #[r21.1, r22.1, r23.1], r23.2)) := by kernel_rfl
noncomputable def DR (e : Env) (w : World) : Option (Value × World) := BA P (EV P) 52 80 (.loop (cA (cA (cB (cA (cB (cB (Ae P 52)))))))) e w (Am 0 (AE P (EV P) 52 80 (cB (cB (cB (Ae P 52)))) (Bc P (AB P 52))))
noncomputable def DS (e : Env) (w : World) : Option (Value × World) := BA P (EV P) 52 80 (.loop (cA (cA (cB (cA (cB (cB (cB (Ae P 52))))))))) e w (Am 2 (AE P (EV P) 52 80 (cB (cB (cB (cB (Ae P 52))))) (Bc P (AB P 52))))
noncomputable def DT (e : Env) (w : World) : Option (Value × World) := BA P (EV P) 52 80 (.loop (cA (cA (cB (cA (cB (cB (cB (cB (Ae P 52)))))))))) e w (Am 4 (AE P (EV P) 52 80 (cB (cB (cB (cB (cB (Ae P 52)))))) (Bc P (AB P 52))))
theorem Gg (e : Env) (w : World) : DR e w = (do
 let r1 ← vl (e 4) w
 let r2 ← fa P 67 (e 1) 0 r1.2
 let r3 ← ld P 63 r2.1 r2.2
 let r4 ← Au P #[63] 3 #[r3.1] r3.2
 let r5 ← bo P .lss 3 (.tmp 14) (.tmp 17) r1.1 r4.1 r4.2
 AL r5.1 (do
 Ah (fa P 67 (e 3) 0) (dw r5.2) fun r7 => do
 Ah (ld P 63 r7.1) (dw r5.2) fun r8 => do
 Ah (fa P 67 (e 1) 0) (dw r5.2) fun r9 => do
 Ah (ld P 63 r9.1) (dw r5.2) fun r10 => do
 Ah (vl (e 4)) (dw r5.2) fun r11 => do
 Ah (ia P 63 r10.1 r11.1) (dw r5.2) fun r12 => do
 Ah (ld P 102 r12.1) (dw r5.2) fun r13 => do
 let r14 ← EV P 65 #[r13.1] (dw r5.2)
 AG (True ∧ True ∧ True ∧ True ∧ ld P 63 r7.1 r14.2 = some (r8.1, r14.2) ∧ fa P 67 (e 3) 0 r14.2 = some (r7.1, r14.2) ∧ True) <| do
 let r15 ← bs P 63 1 #[(0, r14.1)] r14.2
 AG (True ∧ True ∧ True ∧ True ∧ ld P 63 r7.1 r15.2 = some (r8.1, r15.2) ∧ fa P 67 (e 3) 0 r15.2 = some (r7.1, r15.2) ∧ True) <| do
 let r16 ← Ar P #[63, 63] 63 #[r8.1, r15.1] r15.2
 AG qt7 <| do
 Ah (fa P 67 (e 3) 0) r16.2 fun r17 => do
 let r18 ← st P 63 r17.1 r16.1 r16.2
 AG qt8 <| do
 let r19 ← vl (e 4) r18.2
 let r20 ← bo P .add 3 (.tmp 19) (.const (.int .i64 1)) r19.1 (.int .i64 1) r19.2
 let r21 ← vl r20.1 r20.2
 DR (AJ e [(14, r1.1), (15, r2.1), (16, r3.1), (17, r4.1), (18, r5.1), (21, r7.1), (22, r8.1), (23, r9.1), (24, r10.1), (25, r11.1), (26, r12.1), (27, r13.1), (28, r14.1), (29, r15.1), (30, r16.1), (31, r17.1), (19, r19.1), (20, r20.1), (4, r21.1)]) r21.2) (do
 let r22 ← vl (.int .i64 0) r5.2
 DS (AJ e [(14, r1.1), (15, r2.1), (16, r3.1), (17, r4.1), (18, r5.1), (5, r22.1)]) r22.2)) := (AH P (EV P) 52 80 (cA (cA (cB (cA (cB (cB (Ae P 52))))))) e w (Am 0 (AE P (EV P) 52 80 (cB (cB (cB (Ae P 52)))) (Bc P (AB P 52))))).trans (by kernel_rfl)
theorem Gh (e : Env) (w : World) : DS e w = (do
 let r1 ← vl (e 5) w
 let r2 ← fa P 67 (e 1) 1 r1.2
 let r3 ← ld P 64 r2.1 r2.2
 let r4 ← Au P #[64] 3 #[r3.1] r3.2
 let r5 ← bo P .lss 3 (.tmp 32) (.tmp 35) r1.1 r4.1 r4.2
 AL r5.1 (do
 let r6 ← fa P 67 (e 1) 1 r5.2
 let r7 ← ld P 64 r6.1 r6.2
 let r8 ← vl (e 5) r7.2
 let r9 ← ia P 64 r7.1 r8.1 r8.2
 let r10 ← ld P 108 r9.1 r9.2
 let r11 ← al P 108 r10.2
 let r12 ← st P 108 r11.1 r10.1 r11.2
 let r13 ← bs P 104 0 #[] r12.2
 let r14 ← fa P 108 r11.1 1 r13.2
 let r15 ← fa P 106 r14.1 0 r14.2
 let r16 ← ld P 104 r15.1 r15.2
 let r17 ← Ar P #[104, 104] 104 #[r13.1, r16.1] r16.2
 let r18 ← bd P 106 #[(0, r17.1)] r17.2
 let r19 ← fa P 108 r11.1 1 r18.2
 let r20 ← st P 106 r19.1 r18.1 r19.2
 let r21 ← fa P 67 (e 3) 1 r20.2
 let r22 ← ld P 64 r21.1 r21.2
 let r23 ← ld P 108 r11.1 r22.2
 let r24 ← bs P 64 1 #[(0, r23.1)] r23.2
 let r25 ← Ar P #[64, 64] 64 #[r22.1, r24.1] r24.2
 let r26 ← fa P 67 (e 3) 1 r25.2
 let r27 ← st P 64 r26.1 r25.1 r26.2
 let r28 ← vl (e 5) r27.2
 let r29 ← bo P .add 3 (.tmp 37) (.const (.int .i64 1)) r28.1 (.int .i64 1) r28.2
 let r30 ← vl r29.1 r29.2
 DS (AJ e [(32, r1.1), (33, r2.1), (34, r3.1), (35, r4.1), (36, r5.1), (39, r6.1), (40, r7.1), (41, r8.1), (42, r9.1), (43, r10.1), (6, r11.1), (44, r13.1), (45, r14.1), (46, r15.1), (47, r16.1), (48, r17.1), (49, r18.1), (50, r19.1), (51, r21.1), (52, r22.1), (53, r23.1), (54, r24.1), (55, r25.1), (56, r26.1), (37, r28.1), (38, r29.1), (5, r30.1)]) r30.2) (do
 let r31 ← vl (.int .i64 0) r5.2
 DT (AJ e [(32, r1.1), (33, r2.1), (34, r3.1), (35, r4.1), (36, r5.1), (7, r31.1)]) r31.2)) := (AH P (EV P) 52 80 (cA (cA (cB (cA (cB (cB (cB (Ae P 52)))))))) e w (Am 2 (AE P (EV P) 52 80 (cB (cB (cB (cB (Ae P 52))))) (Bc P (AB P 52))))).trans (by kernel_rfl)
theorem Gi (e : Env) (w : World) : DT e w = (do
 let r1 ← vl (e 7) w
 let r2 ← fa P 67 (e 1) 2 r1.2
 let r3 ← ld P 65 r2.1 r2.2
 let r4 ← Au P #[65] 3 #[r3.1] r3.2
 let r5 ← bo P .lss 3 (.tmp 57) (.tmp 60) r1.1 r4.1 r4.2
 AL r5.1 (do
 let r6 ← fa P 67 (e 1) 2 r5.2
 let r7 ← ld P 65 r6.1 r6.2
 let r8 ← vl (e 7) r7.2
 let r9 ← ia P 65 r7.1 r8.1 r8.2
 let r10 ← ld P 112 r9.1 r9.2
 let r11 ← al P 112 r10.2
 let r12 ← st P 112 r11.1 r10.1 r11.2
 let r13 ← fa P 112 r11.1 3 r12.2
 let r14 ← ld P 110 r13.1 r13.2
 let r15 ← EV P 66 #[r14.1] r14.2
 let r16 ← fa P 112 r11.1 3 r15.2
 let r17 ← st P 110 r16.1 r15.1 r16.2
 let r18 ← fa P 67 (e 3) 2 r17.2
 let r19 ← ld P 65 r18.1 r18.2
 let r20 ← ld P 112 r11.1 r19.2
 let r21 ← bs P 65 1 #[(0, r20.1)] r20.2
 let r22 ← Ar P #[65, 65] 65 #[r19.1, r21.1] r21.2
 let r23 ← fa P 67 (e 3) 2 r22.2
 let r24 ← st P 65 r23.1 r22.1 r23.2
 let r25 ← vl (e 7) r24.2
 let r26 ← bo P .add 3 (.tmp 62) (.const (.int .i64 1)) r25.1 (.int .i64 1) r25.2
 let r27 ← vl r26.1 r26.2
 DT (AJ e [(57, r1.1), (58, r2.1), (59, r3.1), (60, r4.1), (61, r5.1), (64, r6.1), (65, r7.1), (66, r8.1), (67, r9.1), (68, r10.1), (8, r11.1), (69, r13.1), (70, r14.1), (71, r15.1), (72, r16.1), (73, r18.1), (74, r19.1), (75, r20.1), (76, r21.1), (77, r22.1), (78, r23.1), (62, r25.1), (63, r26.1), (7, r27.1)]) r27.2) (do
 let r28 ← ld P 67 (e 3) r5.2
 let r29 ← st P 67 (e 2) r28.1 r28.2
 let v31 ← (ld P 67 (e 2) r29.2).bind fun r30 => AG (r30.2 = r29.2) (some r30.1)
 some (v31, r29.2))) := (AH P (EV P) 52 80 (cA (cA (cB (cA (cB (cB (cB (cB (Ae P 52))))))))) e w (Am 4 (AE P (EV P) 52 80 (cB (cB (cB (cB (cB (Ae P 52)))))) (Bc P (AB P 52))))).trans (by kernel_rfl)
theorem Mp (x0 : Value) (w : World) : Bv P (EV P) 52 #[x0] w = (do
 let r1 ← bx P 67 x0 w
 let r2 ← al P 67 r1.2
 let r3 ← bs P 23 0 #[] r2.2
 let r4 ← fa P 67 r1.1 3 r3.2
 let r5 ← ld P 23 r4.1 r4.2
 let r6 ← Ar P #[23, 23] 23 #[r3.1, r5.1] r5.2
 let r7 ← bd P 67 #[(3, r6.1)] r6.2
 let r8 ← al P 67 r7.2
 let r9 ← st P 67 r8.1 r7.1 r8.2
 let r10 ← vl (.int .i64 0) r9.2
 DR (AJ (AO #[x0]) [(1, r1.1), (2, r2.1), (9, r3.1), (10, r4.1), (11, r5.1), (12, r6.1), (13, r7.1), (3, r8.1), (4, r10.1)]) r10.2) := by kernel_rfl
noncomputable def DU (e : Env) (w : World) : Option (Value × World) := BA P (EV P) 53 35 (.loop (cA (cA (cB (cA (cB (cB (Ae P 53)))))))) e w (Am 0 (AE P (EV P) 53 35 (cB (cB (cB (Ae P 53)))) (Bc P (AB P 53))))
noncomputable def Ia (e : Env) (w : World) : Option (Value × World) := BA P (EV P) 53 35 (cA (cA (cA (cB (cA (cA (cB (cA (cB (cB (Ae P 53))))))))))) e w (AE P (EV P) 53 35 (cB (cA (cA (cB (cA (cA (cB (cA (cB (cB (Ae P 53))))))))))) (Am 1 (AE P (EV P) 53 35 (cB (cB (cA (cA (cB (cA (cB (cB (Ae P 53))))))))) (DM P (EV P) 53 35 (cA (cA (cB (cA (cB (cB (Ae P 53))))))) (Am 0 (AE P (EV P) 53 35 (cB (cB (cB (Ae P 53)))) (Bc P (AB P 53))))))))
noncomputable def DV (e : Env) (w : World) : Option (Value × World) := BA P (EV P) 53 35 (cB (cA (cA (cB (cA (cA (cB (cA (cB (cB (Ae P 53))))))))))) e w (Am 1 (AE P (EV P) 53 35 (cB (cB (cA (cA (cB (cA (cB (cB (Ae P 53))))))))) (DM P (EV P) 53 35 (cA (cA (cB (cA (cB (cB (Ae P 53))))))) (Am 0 (AE P (EV P) 53 35 (cB (cB (cB (Ae P 53)))) (Bc P (AB P 53)))))))
theorem Gj (e : Env) (w : World) : DU e w = (do
 let r1 ← vl (e 8) w
 let r2 ← vl (e 2) r1.2
 let r3 ← Au P #[81] 3 #[r2.1] r2.2
 let r4 ← bo P .lss 3 (.tmp 14) (.tmp 16) r1.1 r3.1 r3.2
 let r5 ← vl r4.1 r4.2
 let r6 ← Ao r5.1 true (vl (e 8) r5.2) r5.2
 let r7 ← Ao r5.1 true (bo P .lss 3 (.tmp 19) (.const (.int .i64 60)) r6.1 (.int .i64 60) r6.2) r6.2
 let r8 ← Ax r5.1 r7.1 (.bool false) r7.2
 AL r8.1 (do
 Ia (AJ e [(14, r1.1), (15, r2.1), (16, r3.1), (17, r4.1), (18, r5.1), (19, r6.1), (20, r7.1), (21, r8.1)]) r8.2) (do
 let r9 ← ld P 67 (e 7) r8.2
 let r10 ← st P 67 (e 6) r9.1 r9.2
 let v12 ← (ld P 67 (e 6) r10.2).bind fun r11 => AG (r11.2 = r10.2) (some r11.1)
 some (v12, r10.2))) := (AH P (EV P) 53 35 (cA (cA (cB (cA (cB (cB (Ae P 53))))))) e w (Am 0 (AE P (EV P) 53 35 (cB (cB (cB (Ae P 53)))) (Bc P (AB P 53))))).trans (by kernel_rfl)
theorem Jq (e : Env) (w : World) {Q : Value × World → Prop} (h :
 (Af (ld P 67 (e 7) (dw w)) fun r1 => r1.2 = (dw w) ∧
 (Af (vl (e 2) (dw w)) fun r2 => r2.2 = (dw w) ∧
 (Af (vl (e 8) (dw w)) fun r3 => r3.2 = (dw w) ∧
 (Af (ia P 81 r2.1 r3.1 (dw w)) fun r4 => r4.2 = (dw w) ∧
 (Af (ld P 118 r4.1 (dw w)) fun r5 => r5.2 = (dw w) ∧
 ((Af (EV P 68 #[r1.1, r5.1] (dw w)) fun r6 => (True ∧ True ∧ True ∧ True) ∧
 (Af (vl r6.1 r6.2) fun r7 => r7.2 = r6.2 ∧
 (Af (xt P r7.1 0 r6.2) fun r8 => r8.2 = r6.2 ∧
 (Af (xt P r7.1 1 r6.2) fun r9 => r9.2 = r6.2 ∧
 ((Af (al P 67 r6.2) fun r10 => (xt P r7.1 1 r10.2 = some (r9.1, r10.2) ∧ xt P r7.1 0 r10.2 = some (r8.1, r10.2) ∧ ld P 118 r4.1 r10.2 = some (r5.1, r10.2) ∧ ia P 81 r2.1 r3.1 r10.2 = some (r4.1, r10.2) ∧ ld P 67 (e 7) r10.2 = some (r1.1, r10.2) ∧ True) ∧
 ((Af (st P 67 r10.1 r8.1 r10.2) fun r11 => (xt P r7.1 1 r11.2 = some (r9.1, r11.2) ∧ True ∧ True ∧ True ∧ True ∧ True) ∧
 (Af (vl r9.1 r11.2) fun r12 => r12.2 = r11.2 ∧
 Af (DV (AJ e [(25, r1.1), (26, r2.1), (27, r3.1), (28, r4.1), (29, r5.1), (30, r6.1), (24, r7.1), (31, r8.1), (32, r9.1), (9, r10.1), (10, r12.1)]) r11.2) Q))))))))) ∧
 (Af (al P 67 (dw w)) fun r13 => (ld P 118 r4.1 r13.2 = some (r5.1, r13.2) ∧ ia P 81 r2.1 r3.1 r13.2 = some (r4.1, r13.2) ∧ ld P 67 (e 7) r13.2 = some (r1.1, r13.2) ∧ True) ∧
 ((Af (EV P 68 #[r1.1, r5.1] r13.2) fun r14 => (True ∧ True ∧ True ∧ True) ∧
 (Af (vl r14.1 r14.2) fun r15 => r15.2 = r14.2 ∧
 (Af (xt P r15.1 0 r14.2) fun r16 => r16.2 = r14.2 ∧
 (Af (xt P r15.1 1 r14.2) fun r17 => r17.2 = r14.2 ∧
 ((Af (st P 67 r13.1 r16.1 r14.2) fun r18 => (xt P r15.1 1 r18.2 = some (r17.1, r18.2) ∧ True ∧ True ∧ True ∧ True ∧ True) ∧
 (Af (vl r17.1 r18.2) fun r19 => r19.2 = r18.2 ∧
 Af (DV (AJ e [(25, r1.1), (26, r2.1), (27, r3.1), (28, r4.1), (29, r5.1), (9, r13.1), (30, r14.1), (24, r15.1), (31, r16.1), (32, r17.1), (10, r19.1)]) r18.2) Q)))))))))))))))) : Af (Ia e w) Q := FH (id := 5) (ops := opsOf (cA (cA (cA (cB (cA (cA (cB (cA (cB (cB (Ae P 53)))))))))))) (by kernel_rfl) (by kernel_rfl) (Eq.mpr (by kernel_rfl) h)
theorem JL (e : Env) (w : World) : DV e w = (do
 let r1 ← ld P 67 (e 9) w
 let r2 ← st P 67 (e 7) r1.1 r1.2
 let r3 ← vl (e 8) r2.2
 let r4 ← bo P .add 3 (.tmp 22) (.const (.int .i64 1)) r3.1 (.int .i64 1) r3.2
 let r5 ← vl r4.1 r4.2
 DU (AJ e [(33, r1.1), (22, r3.1), (23, r4.1), (8, r5.1)]) r5.2) := by kernel_rfl
theorem Mq (x0 x1 x2 : Value) (w : World) : Bv P (EV P) 53 #[x0, x1, x2] w = (do
 let r1 ← al P 67 w
 let r2 ← vl x0 r1.2
 let r3 ← vl x1 r2.2
 let r4 ← EV P 67 #[r2.1, r3.1] r3.2
 let r5 ← al P 67 r4.2
 let r6 ← st P 67 r5.1 r4.1 r5.2
 let r7 ← vl (.int .i64 0) r6.2
 DU (AJ (AO #[x0, x1, x2]) [(6, r1.1), (11, r2.1), (12, r3.1), (13, r4.1), (7, r5.1), (8, r7.1)]) r7.2) := by kernel_rfl
theorem JM (x0 x1 : Value) (w : World) : Bv P (EV P) 54 #[x0, x1] w = (do
 let r1 ← vl (.int .i64 0) w
 let r2 ← vl x1 r1.2
 let r3 ← vl x0 r2.2
 let r4 ← vl x1 r3.2
 let r5 ← Au P #[87] 3 #[r4.1] r4.2
 let r6 ← EV P 25 #[r3.1, r5.1] r5.2
 let r7 ← ia P 87 r2.1 r6.1 r6.2
 let r8 ← ld P 3 r7.1 r7.2
 let r9 ← vl r8.1 r8.2
 some (r9.1, r9.2)) := by kernel_rfl
theorem Mr (x0 : Value) (w : World) : Bv P (EV P) 55 #[x0] w = (do
 let r1 ← al P 39 w
 let r2 ← vl x0 r1.2
 let r3 ← EV P 25 #[r2.1, (.int .i64 3)] r2.2
 let r4 ← bo P .eql 3 (.tmp 4) (.const (.int .i64 0)) r3.1 (.int .i64 0) r3.2
 AL r4.1 (do
 let r5 ← bd P 39 #[] r4.2
 let r6 ← st P 39 r1.1 r5.1 r5.2
 let v8 ← (ld P 39 r1.1 r6.2).bind fun r7 => AG (r7.2 = r6.2) (some r7.1)
 some (v8, r6.2)) (do
 let r9 ← vl x0 r4.2
 let r10 ← EV P 25 #[r9.1, (.int .i64 9)] r9.2
 let r11 ← bo P .add 3 (.const (.int .i64 1)) (.tmp 8) (.int .i64 1) r10.1 r10.2
 let r12 ← vl x0 r11.2
 let r13 ← EV P 25 #[r12.1, (.int .i64 3)] r12.2
 let r14 ← bd P 39 #[(0, r11.1), (1, r13.1)] r13.2
 let r15 ← st P 39 r1.1 r14.1 r14.2
 let v17 ← (ld P 39 r1.1 r15.2).bind fun r16 => AG (r16.2 = r15.2) (some r16.1)
 some (v17, r15.2))) := by kernel_rfl
noncomputable def BH (e : Env) (w : World) : Option (Value × World) := BA P (EV P) 56 19 (.loop (cA (cA (cB (cA (cB (Ae P 56))))))) e w (Am 0 (AE P (EV P) 56 19 (cB (cB (Ae P 56))) (Bc P (AB P 56))))
theorem CI (e : Env) (w : World) : BH e w = (do
 let r1 ← bo P .lss 3 (.tmp 8) (.tmp 7) (e 8) (e 7) w
 AL r1.1 (do
 let r2 ← vl (e 8) r1.2
 let r3 ← vl r2.1 r2.2
 let r4 ← vl (e 1) r3.2
 let r5 ← vl (e 0) r4.2
 let r6 ← vl r3.1 r5.2
 let r7 ← ia P 23 r5.1 r6.1 r6.2
 let r8 ← ld P 41 r7.1 r7.2
 let r9 ← UD P r4.1 #[r8.1] r8.2
 AL r9.1 (do
 let r10 ← vl r3.1 r9.2
 let r11 ← vl r10.1 r10.2
 some (r11.1, r11.2)) (do
 let r12 ← bo P .add 3 (.tmp 8) (.const (.int .i64 1)) (e 8) (.int .i64 1) r9.2
 let r13 ← vl r12.1 r12.2
 BH (AJ e [(9, r1.1), (10, r2.1), (5, r3.1), (11, r4.1), (12, r5.1), (13, r6.1), (14, r7.1), (15, r8.1), (16, r9.1), (18, r12.1), (8, r13.1)]) r13.2)) (do
 let r14 ← vl (.int .i64 (-1)) r1.2
 some (r14.1, r14.2))) := (AH P (EV P) 56 19 (cA (cA (cB (cA (cB (Ae P 56)))))) e w (Am 0 (AE P (EV P) 56 19 (cB (cB (Ae P 56))) (Bc P (AB P 56))))).trans (by kernel_rfl)
theorem GP (x0 x1 : Value) (w : World) : Bv P (EV P) 56 #[x0, x1] w = (do
 let r1 ← vl (.int .i64 0) w
 let r2 ← vl x0 r1.2
 let r3 ← Au P #[23] 3 #[r2.1] r2.2
 let r4 ← vl (.int .i64 0) r3.2
 BH (AJ (AO #[x0, x1]) [(4, r1.1), (6, r2.1), (7, r3.1), (8, r4.1)]) r4.2) := by kernel_rfl
theorem Lw (x0 : Value) (w : World) : Bv P (EV P) 57 #[x0] w = (do
 let r1 ← vl (.bool false) w
 let r2 ← vl x0 r1.2
 let r3 ← EV P 36 #[r2.1, (.int .i64 0), (.int .i64 2)] r2.2
 let r4 ← vl r3.1 r3.2
 some (r4.1, r4.2)) := by kernel_rfl
noncomputable def BJ (e : Env) (w : World) : Option (Value × World) := BA P (EV P) 59 54 (cB (cB (cB (cB (cA (cB (cA (cB (Ae P 59))))))))) e w (AE P (EV P) 59 54 (cB (cB (Ae P 59))) (Bc P (AB P 59)))
theorem DW (e : Env) (w : World) : BJ e w = (do
 let r1 ← vl (e 6) w
 let r2 ← EV P 70 #[r1.1] r1.2
 let r3 ← vl r2.1 r2.2
 let r4 ← vl r3.1 r3.2
 let r5 ← bo P .add 3 (.const (.int .i64 1)) (.tmp 28) (.int .i64 1) r4.1 r4.2
 let r6 ← sl P 119 (e 5) (some (.int .i64 1)) (some r5.1) none r5.2
 let r7 ← vl (e 6) r6.2
 let r8 ← EV P 71 #[r6.1, r7.1] r7.2
 let r9 ← vl (e 0) r8.2
 let r10 ← bo P .lss 2 (.tmp 33) (.const (.int .i64 0)) r9.1 (.int .i64 0) r9.2
 AL r10.1 (do
 let r11 ← ia P 119 (e 5) (.int .i64 0) r10.2
 let r12 ← st P 5 r11.1 (.int .u8 45) r11.2
 let r13 ← vl r3.1 r12.2
 let r14 ← bo P .add 3 (.const (.int .i64 1)) (.tmp 36) (.int .i64 1) r13.1 r13.2
 let r15 ← sl P 119 (e 5) none (some r14.1) none r14.2
 let r16 ← cv P 22 9 r15.1 r15.2
 let r17 ← vl r16.1 r16.2
 some (r17.1, r17.2)) (do
 let r18 ← vl r3.1 r10.2
 let r19 ← bo P .add 3 (.const (.int .i64 1)) (.tmp 40) (.int .i64 1) r18.1 r18.2
 let r20 ← sl P 119 (e 5) (some (.int .i64 1)) (some r19.1) none r19.2
 let r21 ← cv P 22 9 r20.1 r20.2
 let r22 ← vl r21.1 r21.2
 some (r22.1, r22.2))) := by kernel_rfl
theorem EZ (x0 x1 : Value) (w : World) : Bv P (EV P) 59 #[x0, x1] w = (do
 let r1 ← vl (Go.Value.string { data := #[] }) w
 let r2 ← vl x1 r1.2
 let r3 ← bo P .eql 3 (.tmp 10) (.const (.int .i64 10)) r2.1 (.int .i64 10) r2.2
 AL r3.1 (do
 let r4 ← vl x0 r3.2
 let r5 ← bo P .leq 2 (.const (.int .i64 0)) (.tmp 12) (.int .i64 0) r4.1 r4.2
 let r6 ← vl r5.1 r5.2
 let r7 ← Ao r6.1 true (vl x0 r6.2) r6.2
 let r8 ← Ao r6.1 true (bo P .lss 2 (.tmp 15) (.const (.int .i64 100)) r7.1 (.int .i64 100) r7.2) r7.2
 let r9 ← Ax r6.1 r8.1 (.bool false) r8.2
 AL r9.1 (do
 let r10 ← vl x0 r9.2
 let r11 ← EV P 69 #[r10.1] r10.2
 let r12 ← vl r11.1 r11.2
 some (r12.1, r12.2)) (do
 let r13 ← al P 119 r9.2
 let r14 ← vl x0 r13.2
 let r15 ← cv P 2 120 r14.1 r14.2
 let r16 ← vl r15.1 r15.2
 let r17 ← vl x0 r16.2
 let r18 ← bo P .lss 2 (.tmp 22) (.const (.int .i64 0)) r17.1 (.int .i64 0) r17.2
 AL r18.1 (do
 let r19 ← vl r16.1 r18.2
 let r20 ← uo P .neg r19.1 r19.2
 let r21 ← vl r20.1 r20.2
 BJ (AJ (AO #[x0, x1]) [(4, r1.1), (10, r2.1), (11, r3.1), (12, r4.1), (13, r5.1), (14, r6.1), (15, r7.1), (16, r8.1), (17, r9.1), (5, r13.1), (20, r14.1), (21, r15.1), (6, r16.1), (22, r17.1), (23, r18.1), (24, r19.1), (25, r20.1), (6, r21.1)]) r21.2) (do
 BJ (AJ (AO #[x0, x1]) [(4, r1.1), (10, r2.1), (11, r3.1), (12, r4.1), (13, r5.1), (14, r6.1), (15, r7.1), (16, r8.1), (17, r9.1), (5, r13.1), (20, r14.1), (21, r15.1), (6, r16.1), (22, r17.1), (23, r18.1)]) r18.2))) (do
 let r22 ← vl x0 r3.2
 let r23 ← cv P 2 120 r22.1 r22.2
 let r24 ← vl x1 r23.2
 let r25 ← vl x0 r24.2
 let r26 ← bo P .lss 2 (.tmp 48) (.const (.int .i64 0)) r25.1 (.int .i64 0) r25.2
 let r27 ← EV P 72 #[(Go.Value.slice none 0 0), r23.1, r24.1, r26.1, (.bool false)] r26.2
 let r28 ← vl r27.1 r27.2
 let r29 ← xt P r28.1 0 r28.2
 let r30 ← xt P r28.1 1 r29.2
 let r31 ← vl r29.1 r30.2
 let r32 ← vl r30.1 r31.2
 let r33 ← vl r32.1 r32.2
 let r34 ← vl r33.1 r33.2
 some (r34.1, r34.2))) := by kernel_rfl
noncomputable def E6 (e : Env) (w : World) : Option (Value × World) := BA P (EV P) 60 143 (.loop (cA (cA (cA (cB (cB (cB (cB (cB (cB (cB (cB (Ae P 60))))))))))))) e w (Am 1 (AE P (EV P) 60 143 (cB (cB (cB (cB (cB (cB (cB (cB (cB (Ae P 60)))))))))) (Bc P (AB P 60))))
theorem E7 (x0 x1 : Value) (w : World) : Bv P (EV P) 60 #[x0, x1] w = (do
 let r1 ← vl (.int .i64 0) w
 let r2 ← vl x1 r1.2
 let r3 ← Au P #[9] 3 #[r2.1] r2.2
 let r4 ← vl r3.1 r3.2
 let r5 ← vl r4.1 r4.2
 let r6 ← bo P .eql 3 (.tmp 17) (.const (.int .i64 0)) r5.1 (.int .i64 0) r5.2
 let r7 ← vl r6.1 r6.2
 let r8 ← Ao r7.1 false (vl x1 r7.2) r7.2
 let r9 ← Ao r7.1 false (vl x0 r8.2) r8.2
 let r10 ← Ao r7.1 false (bo P .eql 9 (.tmp 20) (.tmp 21) r8.1 r9.1 r9.2) r9.2
 let r11 ← Ax r7.1 (.bool true) r10.1 r10.2
 let r12 ← vl r11.1 r11.2
 AL r12.1 (do
 let r13 ← vl (.int .i64 0) r12.2
 some (r13.1, r13.2)) (do
 let r14 ← vl r4.1 r12.2
 let r15 ← bo P .eql 3 (.tmp 25) (.const (.int .i64 1)) r14.1 (.int .i64 1) r14.2
 let r16 ← vl r15.1 r15.2
 AL r16.1 (do
 let r17 ← vl x0 r16.2
 let r18 ← vl x1 r17.2
 let r19 ← ix P 9 r18.1 (.int .i64 0) r18.2
 let r20 ← EV P 73 #[r17.1, r19.1] r19.2
 let r21 ← vl r20.1 r20.2
 some (r21.1, r21.2)) (do
 let r22 ← vl r4.1 r16.2
 let r23 ← vl x0 r22.2
 let r24 ← Au P #[9] 3 #[r23.1] r23.2
 let r25 ← bo P .geq 3 (.tmp 32) (.tmp 34) r22.1 r24.1 r24.2
 let r26 ← vl r25.1 r25.2
 AL r26.1 (do
 let r27 ← vl (.int .i64 (-1)) r26.2
 some (r27.1, r27.2)) (do
 let r28 ← vl r4.1 r26.2
 let r29 ← ld P 3 (.pointer (some ⟨0, 0, none⟩)) r28.2
 let r30 ← bo P .leq 3 (.tmp 37) (.tmp 38) r28.1 r29.1 r29.2
 let r31 ← vl r30.1 r30.2
 let r32 ← Ao r31.1 true (vl x0 r31.2) r31.2
 let r33 ← Ao r31.1 true (Au P #[9] 3 #[r32.1] r32.2) r32.2
 let r34 ← Ao r31.1 true (bo P .leq 3 (.tmp 42) (.const (.int .i64 64)) r33.1 (.int .i64 64) r33.2) r33.2
 let r35 ← Ax r31.1 r34.1 (.bool false) r34.2
 let r36 ← vl r35.1 r35.2
 AL r36.1 (do
 let r37 ← vl x0 r36.2
 let r38 ← vl x1 r37.2
 let r39 ← xf P 74 #[r37.1, r38.1] r38.2
 let r40 ← vl r39.1 r39.2
 some (r40.1, r40.2)) (do
 let r41 ← vl x1 r36.2
 let r42 ← ix P 9 r41.1 (.int .i64 0) r41.2
 let r43 ← vl r42.1 r42.2
 let r44 ← vl x1 r43.2
 let r45 ← ix P 9 r44.1 (.int .i64 1) r44.2
 let r46 ← vl r45.1 r45.2
 let r47 ← vl (.int .i64 0) r46.2
 let r48 ← vl x0 r47.2
 let r49 ← Au P #[9] 3 #[r48.1] r48.2
 let r50 ← vl r4.1 r49.2
 let r51 ← bo P .sub 3 (.tmp 53) (.tmp 54) r49.1 r50.1 r50.2
 let r52 ← bo P .add 3 (.tmp 55) (.const (.int .i64 1)) r51.1 (.int .i64 1) r51.2
 let r53 ← vl r52.1 r52.2
 let r54 ← vl (.int .i64 0) r53.2
 E6 (AJ (AO #[x0, x1]) [(4, r1.1), (14, r2.1), (15, r3.1), (5, r4.1), (17, r5.1), (18, r6.1), (19, r7.1), (20, r8.1), (21, r9.1), (22, r10.1), (23, r11.1), (16, r12.1), (25, r14.1), (26, r15.1), (24, r16.1), (32, r22.1), (33, r23.1), (34, r24.1), (35, r25.1), (31, r26.1), (37, r28.1), (38, r29.1), (39, r30.1), (40, r31.1), (41, r32.1), (42, r33.1), (43, r34.1), (44, r35.1), (36, r36.1), (48, r41.1), (49, r42.1), (6, r43.1), (50, r44.1), (51, r45.1), (7, r46.1), (8, r47.1), (52, r48.1), (53, r49.1), (54, r50.1), (55, r51.1), (56, r52.1), (9, r53.1), (10, r54.1)]) r54.2))))) := by kernel_rfl
noncomputable def Dd (e : Env) (w : World) : Option (Value × World) := BA P (EV P) 61 66 (cB (cB (cB (cB (Ae P 61))))) e w (Bc P (AB P 61))
noncomputable def Ce (e : Env) (w : World) : Option (Value × World) := BA P (EV P) 61 66 (.loop (cA (cA (cA (cB (cB (cB (cB (cB (cB (cB (cB (Ae P 61))))))))))))) e w (Am 0 (AE P (EV P) 61 66 (cB (cB (cB (cB (cB (cB (cB (cB (cB (Ae P 61)))))))))) (Bc P (AB P 61))))
noncomputable def Cf (e : Env) (w : World) : Option (Value × World) := BA P (EV P) 61 66 (cB (cB (cB (cB (cB (cB (cB (cB (cB (Ae P 61)))))))))) e w (Bc P (AB P 61))
theorem Hy (e : Env) (w : World) : Dd e w = (do
 let r1 ← vl (e 3) w
 let r2 ← vl (e 0) r1.2
 let r3 ← Au P #[9] 3 #[r2.1] r2.2
 let r4 ← bo P .add 3 (.tmp 27) (.const (.int .i64 1)) r3.1 (.int .i64 1) r3.2
 let r5 ← RH P #[3, 3] 3 #[r1.1, r4.1] r4.2
 let r6 ← vl r5.1 r5.2
 let r7 ← vl r6.1 r6.2
 let r8 ← ms P 47 r7.1 r7.1 r7.2
 let r9 ← vl r8.1 r8.2
 let r10 ← vl r6.1 r9.2
 let r11 ← bo P .sub 3 (.tmp 32) (.const (.int .i64 1)) r10.1 (.int .i64 1) r10.2
 let r12 ← vl r11.1 r11.2
 let r13 ← vl (.int .i64 0) r12.2
 Ce (AJ e [(25, r1.1), (26, r2.1), (27, r3.1), (28, r4.1), (29, r5.1), (3, r6.1), (30, r7.1), (31, r8.1), (9, r9.1), (32, r10.1), (33, r11.1), (3, r12.1), (10, r13.1)]) r13.2) := by kernel_rfl
theorem DX (e : Env) (w : World) : Ce e w = (do
 let r1 ← vl (e 10) w
 let r2 ← vl (e 3) r1.2
 let r3 ← bo P .lss 3 (.tmp 34) (.tmp 35) r1.1 r2.1 r2.2
 AL r3.1 (do
 let r4 ← vl (e 0) r3.2
 let r5 ← vl (e 1) r4.2
 let r6 ← EV P 79 #[r4.1, r5.1] r5.2
 let r7 ← vl r6.1 r6.2
 let r8 ← vl r7.1 r7.2
 let r9 ← bo P .lss 3 (.tmp 40) (.const (.int .i64 0)) r8.1 (.int .i64 0) r8.2
 AL r9.1 (do
 Cf (AJ e [(34, r1.1), (35, r2.1), (36, r3.1), (37, r4.1), (38, r5.1), (39, r6.1), (11, r7.1), (40, r8.1), (41, r9.1)]) r9.2) (do
 let r10 ← vl (e 9) r9.2
 let r11 ← vl (e 10) r10.2
 let r12 ← vl (e 0) r11.2
 let r13 ← vl r7.1 r12.2
 let r14 ← vl (e 2) r13.2
 let r15 ← bo P .add 3 (.tmp 45) (.tmp 46) r13.1 r14.1 r14.2
 let r16 ← sl P 9 r12.1 none (some r15.1) none r15.2
 let r17 ← ia P 47 r10.1 r11.1 r16.2
 let r18 ← st P 9 r17.1 r16.1 r17.2
 let r19 ← vl (e 0) r18.2
 let r20 ← vl r7.1 r19.2
 let r21 ← vl (e 1) r20.2
 let r22 ← Au P #[9] 3 #[r21.1] r21.2
 let r23 ← bo P .add 3 (.tmp 51) (.tmp 53) r20.1 r22.1 r22.2
 let r24 ← sl P 9 r19.1 (some r23.1) none none r23.2
 let r25 ← vl r24.1 r24.2
 let r26 ← vl (e 10) r25.2
 let r27 ← bo P .add 3 (.tmp 56) (.const (.int .i64 1)) r26.1 (.int .i64 1) r26.2
 let r28 ← vl r27.1 r27.2
 Ce (AJ e [(34, r1.1), (35, r2.1), (36, r3.1), (37, r4.1), (38, r5.1), (39, r6.1), (11, r7.1), (40, r8.1), (41, r9.1), (42, r10.1), (43, r11.1), (44, r12.1), (45, r13.1), (46, r14.1), (47, r15.1), (48, r16.1), (49, r17.1), (50, r19.1), (51, r20.1), (52, r21.1), (53, r22.1), (54, r23.1), (55, r24.1), (0, r25.1), (56, r26.1), (57, r27.1), (10, r28.1)]) r28.2)) (do
 Cf (AJ e [(34, r1.1), (35, r2.1), (36, r3.1)]) r3.2)) := (AH P (EV P) 61 66 (cA (cA (cA (cB (cB (cB (cB (cB (cB (cB (cB (Ae P 61)))))))))))) e w (Am 0 (AE P (EV P) 61 66 (cB (cB (cB (cB (cB (cB (cB (cB (cB (Ae P 61)))))))))) (Bc P (AB P 61))))).trans (by kernel_rfl)
theorem Hz (e : Env) (w : World) : Cf e w = (do
 let r1 ← vl (e 9) w
 let r2 ← vl (e 10) r1.2
 let r3 ← vl (e 0) r2.2
 let r4 ← ia P 47 r1.1 r2.1 r3.2
 let r5 ← st P 9 r4.1 r3.1 r4.2
 let r6 ← vl (e 9) r5.2
 let r7 ← vl (e 10) r6.2
 let r8 ← bo P .add 3 (.tmp 63) (.const (.int .i64 1)) r7.1 (.int .i64 1) r7.2
 let r9 ← sl P 47 r6.1 none (some r8.1) none r8.2
 let r10 ← vl r9.1 r9.2
 some (r10.1, r10.2)) := by kernel_rfl
theorem IM (x0 x1 x2 x3 : Value) (w : World) : Bv P (EV P) 61 #[x0, x1, x2, x3] w = (do
 let r1 ← vl (Go.Value.slice none 0 0) w
 let r2 ← vl x3 r1.2
 let r3 ← bo P .eql 3 (.tmp 12) (.const (.int .i64 0)) r2.1 (.int .i64 0) r2.2
 AL r3.1 (do
 let r4 ← vl (Go.Value.slice none 0 0) r3.2
 some (r4.1, r4.2)) (do
 let r5 ← vl x1 r3.2
 let r6 ← bo P .eql 9 (.tmp 14) (.const (Go.Value.string { data := #[] })) r5.1 (Go.Value.string { data := #[] }) r5.2
 AL r6.1 (do
 let r7 ← vl x0 r6.2
 let r8 ← vl x3 r7.2
 let r9 ← EV P 77 #[r7.1, r8.1] r8.2
 let r10 ← vl r9.1 r9.2
 some (r10.1, r10.2)) (do
 let r11 ← vl x3 r6.2
 let r12 ← bo P .lss 3 (.tmp 19) (.const (.int .i64 0)) r11.1 (.int .i64 0) r11.2
 AL r12.1 (do
 let r13 ← vl x0 r12.2
 let r14 ← vl x1 r13.2
 let r15 ← EV P 78 #[r13.1, r14.1] r14.2
 let r16 ← bo P .add 3 (.tmp 23) (.const (.int .i64 1)) r15.1 (.int .i64 1) r15.2
 let r17 ← vl r16.1 r16.2
 Dd (AJ (AO #[x0, x1, x2, x3]) [(8, r1.1), (12, r2.1), (13, r3.1), (14, r5.1), (15, r6.1), (19, r11.1), (20, r12.1), (21, r13.1), (22, r14.1), (23, r15.1), (24, r16.1), (3, r17.1)]) r17.2) (do
 Dd (AJ (AO #[x0, x1, x2, x3]) [(8, r1.1), (12, r2.1), (13, r3.1), (14, r5.1), (15, r6.1), (19, r11.1), (20, r12.1)]) r12.2)))) := by kernel_rfl
noncomputable def Bo (e : Env) (w : World) : Option (Value × World) := BA P (EV P) 62 77 (cB (cB (cA (cB (cA (cB (cB (Ae P 62)))))))) e w (AE P (EV P) 62 77 (cB (cB (cB (Ae P 62)))) (Bc P (AB P 62)))
noncomputable def BI (e : Env) (w : World) : Option (Value × World) := BA P (EV P) 62 77 (.loop (cA (cA (cB (cA (cB (cB (cB (cA (cB (cA (cB (cB (Ae P 62)))))))))))))) e w (Am 0 (AE P (EV P) 62 77 (cB (cB (cB (cB (cA (cB (cA (cB (cB (Ae P 62)))))))))) (AE P (EV P) 62 77 (cB (cB (cB (Ae P 62)))) (Bc P (AB P 62)))))
noncomputable def B9 (e : Env) (w : World) : Option (Value × World) := BA P (EV P) 62 77 (cB (cB (cB (cB (cB (cA (cB (cA (cB (cB (Ae P 62))))))))))) e w (AE P (EV P) 62 77 (cB (cB (cB (Ae P 62)))) (Bc P (AB P 62)))
theorem FD (e : Env) (w : World) : Bo e w = (do
 let r1 ← vl (.int .i64 0) w
 let r2 ← vl (e 0) r1.2
 let r3 ← cv P 9 22 r2.1 r2.2
 let r4 ← Au P #[22] 3 #[r3.1] r3.2
 let r5 ← vl (.int .i64 0) r4.2
 BI (AJ e [(6, r1.1), (46, r2.1), (47, r3.1), (48, r4.1), (49, r5.1)]) r5.2) := by kernel_rfl
theorem CJ (e : Env) (w : World) : BI e w = (do
 let r1 ← bo P .lss 3 (.tmp 49) (.tmp 48) (e 49) (e 48) w
 AL r1.1 (do
 let r2 ← ia P 22 (e 47) (e 49) r1.2
 let r3 ← ld P 5 r2.1 r2.2
 let r4 ← vl r3.1 r3.2
 let r5 ← vl r4.1 r4.2
 let r6 ← bo P .sub 5 (.tmp 53) (.const (.int .u8 48)) r5.1 (.int .u8 48) r5.2
 let r7 ← vl r6.1 r6.2
 let r8 ← vl r7.1 r7.2
 let r9 ← bo P .gtr 5 (.tmp 55) (.const (.int .u8 9)) r8.1 (.int .u8 9) r8.2
 AL r9.1 (do
 let r10 ← mi P 128 (.int .i64 2) r9.2
 let r11 ← vl (.int .i64 0) r10.2
 let r12 ← vl r10.1 r11.2
 some (.tuple #[r11.1, r12.1], r12.2)) (do
 let r13 ← vl (e 6) r9.2
 let r14 ← bo P .mul 3 (.tmp 58) (.const (.int .i64 10)) r13.1 (.int .i64 10) r13.2
 let r15 ← vl r7.1 r14.2
 let r16 ← cv P 5 3 r15.1 r15.2
 let r17 ← bo P .add 3 (.tmp 59) (.tmp 61) r14.1 r16.1 r16.2
 let r18 ← vl r17.1 r17.2
 let r19 ← bo P .add 3 (.tmp 49) (.const (.int .i64 1)) (e 49) (.int .i64 1) r18.2
 let r20 ← vl r19.1 r19.2
 BI (AJ e [(50, r1.1), (51, r2.1), (52, r3.1), (8, r4.1), (53, r5.1), (54, r6.1), (8, r7.1), (55, r8.1), (56, r9.1), (58, r13.1), (59, r14.1), (60, r15.1), (61, r16.1), (62, r17.1), (6, r18.1), (63, r19.1), (49, r20.1)]) r20.2)) (do
 let r21 ← vl (e 5) r1.2
 let r22 ← ix P 9 r21.1 (.int .i64 0) r21.2
 let r23 ← bo P .eql 5 (.tmp 65) (.const (.int .u8 45)) r22.1 (.int .u8 45) r22.2
 AL r23.1 (do
 let r24 ← vl (e 6) r23.2
 let r25 ← uo P .neg r24.1 r24.2
 let r26 ← vl r25.1 r25.2
 B9 (AJ e [(50, r1.1), (64, r21.1), (65, r22.1), (66, r23.1), (67, r24.1), (68, r25.1), (6, r26.1)]) r26.2) (do
 B9 (AJ e [(50, r1.1), (64, r21.1), (65, r22.1), (66, r23.1)]) r23.2))) := (AH P (EV P) 62 77 (cA (cA (cB (cA (cB (cB (cB (cA (cB (cA (cB (cB (Ae P 62))))))))))))) e w (Am 0 (AE P (EV P) 62 77 (cB (cB (cB (cB (cA (cB (cA (cB (cB (Ae P 62)))))))))) (AE P (EV P) 62 77 (cB (cB (cB (Ae P 62)))) (Bc P (AB P 62)))))).trans (by kernel_rfl)
theorem CK (e : Env) (w : World) : B9 e w = (do
 let r1 ← vl (e 6) w
 let r2 ← vl r1.1 r1.2
 let r3 ← vl Go.Value.nilIface r2.2
 some (.tuple #[r2.1, r3.1], r3.2)) := by kernel_rfl
theorem GQ (x0 : Value) (w : World) : Bv P (EV P) 62 #[x0] w = (do
 let r1 ← vl (.int .i64 0) w
 let r2 ← vl Go.Value.nilIface r1.2
 let r3 ← vl x0 r2.2
 let r4 ← Au P #[9] 3 #[r3.1] r3.2
 let r5 ← vl r4.1 r4.2
 let r6 ← vl (.bool false) r5.2
 let r7 ← Ao r6.1 true (vl r5.1 r6.2) r6.2
 let r8 ← Ao r6.1 true (bo P .lss 3 (.const (.int .i64 0)) (.tmp 14) (.int .i64 0) r7.1 r7.2) r7.2
 let r9 ← Ao r6.1 true (vl r8.1 r8.2) r8.2
 let r10 ← Ao r9.1 true (vl r5.1 r9.2) r9.2
 let r11 ← Ao r9.1 true (bo P .lss 3 (.tmp 17) (.const (.int .i64 10)) r10.1 (.int .i64 10) r10.2) r10.2
 let r12 ← Ao r6.1 true (Ax r9.1 r11.1 (.bool false) r11.2) r11.2
 let r13 ← Ax r6.1 r12.1 (.bool false) r12.2
 let r14 ← vl r13.1 r13.2
 let r15 ← Ao r14.1 false (vl (.bool true) r14.2) r14.2
 let r16 ← Ao r15.1 true (vl r5.1 r15.2) r15.2
 let r17 ← Ao r15.1 true (bo P .lss 3 (.const (.int .i64 0)) (.tmp 23) (.int .i64 0) r16.1 r16.2) r16.2
 let r18 ← Ao r15.1 true (vl r17.1 r17.2) r17.2
 let r19 ← Ao r18.1 true (vl r5.1 r18.2) r18.2
 let r20 ← Ao r18.1 true (bo P .lss 3 (.tmp 26) (.const (.int .i64 19)) r19.1 (.int .i64 19) r19.2) r19.2
 let r21 ← Ao r15.1 true (Ax r18.1 r20.1 (.bool false) r20.2) r20.2
 let r22 ← Ao r14.1 false (Ax r15.1 r21.1 (.bool false) r21.2) r21.2
 let r23 ← Ax r14.1 (.bool true) r22.1 r22.2
 AL r23.1 (do
 let r24 ← vl x0 r23.2
 let r25 ← vl r24.1 r24.2
 let r26 ← vl x0 r25.2
 let r27 ← ix P 9 r26.1 (.int .i64 0) r26.2
 let r28 ← bo P .eql 5 (.tmp 33) (.const (.int .u8 45)) r27.1 (.int .u8 45) r27.2
 let r29 ← vl r28.1 r28.2
 let r30 ← Ao r29.1 false (vl x0 r29.2) r29.2
 let r31 ← Ao r29.1 false (ix P 9 r30.1 (.int .i64 0) r30.2) r30.2
 let r32 ← Ao r29.1 false (bo P .eql 5 (.tmp 37) (.const (.int .u8 43)) r31.1 (.int .u8 43) r31.2) r31.2
 let r33 ← Ax r29.1 (.bool true) r32.1 r32.2
 AL r33.1 (do
 let r34 ← vl x0 r33.2
 let r35 ← sl P 9 r34.1 (some (.int .i64 1)) none none r34.2
 let r36 ← vl r35.1 r35.2
 let r37 ← vl r36.1 r36.2
 let r38 ← Au P #[9] 3 #[r37.1] r37.2
 let r39 ← bo P .lss 3 (.tmp 43) (.const (.int .i64 1)) r38.1 (.int .i64 1) r38.2
 AL r39.1 (do
 let r40 ← mi P 128 (.int .i64 2) r39.2
 let r41 ← vl (.int .i64 0) r40.2
 let r42 ← vl r40.1 r41.2
 some (.tuple #[r41.1, r42.1], r42.2)) (do
 Bo (AJ (AO #[x0]) [(2, r1.1), (3, r2.1), (11, r3.1), (12, r4.1), (4, r5.1), (13, r6.1), (14, r7.1), (15, r8.1), (16, r9.1), (17, r10.1), (18, r11.1), (19, r12.1), (20, r13.1), (21, r14.1), (22, r15.1), (23, r16.1), (24, r17.1), (25, r18.1), (26, r19.1), (27, r20.1), (28, r21.1), (29, r22.1), (30, r23.1), (31, r24.1), (5, r25.1), (32, r26.1), (33, r27.1), (34, r28.1), (35, r29.1), (36, r30.1), (37, r31.1), (38, r32.1), (39, r33.1), (40, r34.1), (41, r35.1), (0, r36.1), (42, r37.1), (43, r38.1), (44, r39.1)]) r39.2)) (do
 Bo (AJ (AO #[x0]) [(2, r1.1), (3, r2.1), (11, r3.1), (12, r4.1), (4, r5.1), (13, r6.1), (14, r7.1), (15, r8.1), (16, r9.1), (17, r10.1), (18, r11.1), (19, r12.1), (20, r13.1), (21, r14.1), (22, r15.1), (23, r16.1), (24, r17.1), (25, r18.1), (26, r19.1), (27, r20.1), (28, r21.1), (29, r22.1), (30, r23.1), (31, r24.1), (5, r25.1), (32, r26.1), (33, r27.1), (34, r28.1), (35, r29.1), (36, r30.1), (37, r31.1), (38, r32.1), (39, r33.1)]) r33.2)) (do
 let r43 ← vl x0 r23.2
 let r44 ← EV P 80 #[r43.1, (.int .i64 10), (.int .i64 0)] r43.2
 let r45 ← vl r44.1 r44.2
 let r46 ← xt P r45.1 0 r45.2
 let r47 ← xt P r45.1 1 r46.2
 let r48 ← vl r46.1 r47.2
 let r49 ← vl r47.1 r48.2
 let r50 ← vl r48.1 r49.2
 let r51 ← vl r49.1 r50.2
 let r52 ← vl r50.1 r51.2
 let r53 ← vl r51.1 r52.2
 some (.tuple #[r52.1, r53.1], r53.2))) := by kernel_rfl
theorem Jr (x0 x1 x2 x3 x4 : Value) (w : World) : Bv P (EV P) 63 #[x0, x1, x2, x3, x4] w = (do
 let r1 ← vl Go.Value.nilIface w
 let r2 ← vl x4 r1.2
 let r3 ← mi P 128 (.int .i64 2) r2.2
 let r4 ← bo P .eql 43 (.tmp 11) (.tmp 13) r2.1 r3.1 r3.2
 let r5 ← vl r4.1 r4.2
 AL r5.1 (do
 let r6 ← vl x0 r5.2
 let r7 ← vl x1 r6.2
 let r8 ← EV P 81 #[r6.1, r7.1] r7.2
 let r9 ← mi P 131 r8.1 r8.2
 let r10 ← vl r9.1 r9.2
 some (r10.1, r10.2)) (do
 let r11 ← mi P 128 (.int .i64 1) r5.2
 let r12 ← bo P .eql 43 (.tmp 11) (.tmp 20) r2.1 r11.1 r11.2
 let r13 ← vl r12.1 r12.2
 AL r13.1 (do
 let r14 ← vl x0 r13.2
 let r15 ← vl x1 r14.2
 let r16 ← EV P 82 #[r14.1, r15.1] r15.2
 let r17 ← mi P 131 r16.1 r16.2
 let r18 ← vl r17.1 r17.2
 some (r18.1, r18.2)) (do
 let r19 ← mi P 128 (.int .i64 3) r13.2
 let r20 ← bo P .eql 43 (.tmp 11) (.tmp 27) r2.1 r19.1 r19.2
 let r21 ← vl r20.1 r20.2
 AL r21.1 (do
 let r22 ← vl x0 r21.2
 let r23 ← vl x1 r22.2
 let r24 ← vl x2 r23.2
 let r25 ← EV P 83 #[r22.1, r23.1, r24.1] r24.2
 let r26 ← mi P 131 r25.1 r25.2
 let r27 ← vl r26.1 r26.2
 some (r27.1, r27.2)) (do
 let r28 ← mi P 128 (.int .i64 4) r21.2
 let r29 ← bo P .eql 43 (.tmp 11) (.tmp 35) r2.1 r28.1 r28.2
 let r30 ← vl r29.1 r29.2
 AL r30.1 (do
 let r31 ← vl x0 r30.2
 let r32 ← vl x1 r31.2
 let r33 ← vl x3 r32.2
 let r34 ← EV P 84 #[r31.1, r32.1, r33.1] r33.2
 let r35 ← mi P 131 r34.1 r34.2
 let r36 ← vl r35.1 r35.2
 some (r36.1, r36.2)) (do
 let r37 ← vl x4 r30.2
 let r38 ← vl r37.1 r37.2
 some (r38.1, r38.2)))))) := by kernel_rfl
noncomputable def CL (e : Env) (w : World) : Option (Value × World) := BA P (EV P) 64 46 (.loop (cA (cA (cB (cA (cB (cB (cB (Ae P 64))))))))) e w (Am 0 (AE P (EV P) 64 46 (cB (cB (cB (cB (Ae P 64))))) (Bc P (AB P 64))))
noncomputable def CM (e : Env) (w : World) : Option (Value × World) := BA P (EV P) 64 46 (cB (cB (cA (cA (cB (cA (cB (cB (cB (Ae P 64)))))))))) e w (DM P (EV P) 64 46 (cA (cA (cB (cA (cB (cB (cB (Ae P 64)))))))) (Am 0 (AE P (EV P) 64 46 (cB (cB (cB (cB (Ae P 64))))) (Bc P (AB P 64)))))
theorem E8 (e : Env) (w : World) : CL e w = (do
 let r1 ← vl (e 11) w
 let r2 ← vl (e 3) r1.2
 let r3 ← bo P .lss 3 (.tmp 19) (.tmp 20) r1.1 r2.1 r2.2
 AL r3.1 (do
 let r4 ← vl (e 0) r3.2
 let r5 ← ld P 67 (e 9) r4.2
 let r6 ← EV P 85 #[r4.1, r5.1] r5.2
 let r7 ← al P 118 r6.2
 let r8 ← st P 118 r7.1 r6.1 r7.2
 let r9 ← ld P 67 (e 9) r8.2
 let r10 ← ld P 118 r7.1 r9.2
 let r11 ← EV P 68 #[r9.1, r10.1] r10.2
 let r12 ← vl r11.1 r11.2
 let r13 ← xt P r12.1 0 r12.2
 let r14 ← xt P r12.1 1 r13.2
 let r15 ← al P 67 r14.2
 let r16 ← st P 67 r15.1 r13.1 r15.2
 let r17 ← vl r14.1 r16.2
 let r18 ← vl r17.1 r17.2
 let r19 ← uo P .not r18.1 r18.2
 let r20 ← vl r19.1 r19.2
 let r21 ← Ao r20.1 true (vl (e 0) r20.2) r20.2
 let r22 ← Ao r20.1 true (EV P 25 #[r21.1, (.int .i64 6)] r21.2) r21.2
 let r23 ← Ao r20.1 true (bo P .gtr 3 (.tmp 37) (.const (.int .i64 0)) r22.1 (.int .i64 0) r22.2) r22.2
 let r24 ← Ax r20.1 r23.1 (.bool false) r23.2
 AL r24.1 (do
 CM (AJ e [(19, r1.1), (20, r2.1), (21, r3.1), (24, r4.1), (25, r5.1), (26, r6.1), (12, r7.1), (28, r9.1), (29, r10.1), (30, r11.1), (27, r12.1), (31, r13.1), (32, r14.1), (13, r15.1), (14, r17.1), (33, r18.1), (34, r19.1), (35, r20.1), (36, r21.1), (37, r22.1), (38, r23.1), (39, r24.1)]) r24.2) (do
 let r25 ← ld P 67 r15.1 r24.2
 let r26 ← st P 67 (e 9) r25.1 r25.2
 let r27 ← vl (e 10) r26.2
 let r28 ← ld P 118 r7.1 r27.2
 let r29 ← bs P 81 1 #[(0, r28.1)] r28.2
 let r30 ← Ar P #[81, 81] 81 #[r27.1, r29.1] r29.2
 let r31 ← vl r30.1 r30.2
 CM (AJ e [(19, r1.1), (20, r2.1), (21, r3.1), (24, r4.1), (25, r5.1), (26, r6.1), (12, r7.1), (28, r9.1), (29, r10.1), (30, r11.1), (27, r12.1), (31, r13.1), (32, r14.1), (13, r15.1), (14, r17.1), (33, r18.1), (34, r19.1), (35, r20.1), (36, r21.1), (37, r22.1), (38, r23.1), (39, r24.1), (40, r25.1), (41, r27.1), (42, r28.1), (43, r29.1), (44, r30.1), (10, r31.1)]) r31.2)) (do
 let r32 ← vl (e 10) r3.2
 let r33 ← vl r32.1 r32.2
 some (r33.1, r33.2))) := (AH P (EV P) 64 46 (cA (cA (cB (cA (cB (cB (cB (Ae P 64)))))))) e w (Am 0 (AE P (EV P) 64 46 (cB (cB (cB (cB (Ae P 64))))) (Bc P (AB P 64))))).trans (by kernel_rfl)
theorem Ib (e : Env) (w : World) : CM e w = (do
 let r1 ← vl (e 11) w
 let r2 ← bo P .add 3 (.tmp 22) (.const (.int .i64 1)) r1.1 (.int .i64 1) r1.2
 let r3 ← vl r2.1 r2.2
 CL (AJ e [(22, r1.1), (23, r2.1), (11, r3.1)]) r3.2) := by kernel_rfl
theorem JN (x0 x1 x2 x3 : Value) (w : World) : Bv P (EV P) 64 #[x0, x1, x2, x3] w = (do
 let r1 ← vl (Go.Value.slice none 0 0) w
 let r2 ← vl x1 r1.2
 let r3 ← vl x2 r2.2
 let r4 ← EV P 67 #[r2.1, r3.1] r3.2
 let r5 ← al P 67 r4.2
 let r6 ← st P 67 r5.1 r4.1 r5.2
 let r7 ← bs P 81 0 #[] r6.2
 let r8 ← vl r7.1 r7.2
 let r9 ← vl (.int .i64 0) r8.2
 CL (AJ (AO #[x0, x1, x2, x3]) [(8, r1.1), (15, r2.1), (16, r3.1), (17, r4.1), (9, r5.1), (18, r7.1), (10, r8.1), (11, r9.1)]) r9.2) := by kernel_rfl
noncomputable def Ic (e : Env) (w : World) : Option (Value × World) := BA P (EV P) 65 37 (cA (cB (Ae P 65))) e w (AE P (EV P) 65 37 (cB (cB (Ae P 65))) (Bc P (AB P 65)))
noncomputable def CO (e : Env) (w : World) : Option (Value × World) := BA P (EV P) 65 37 (cB (cB (Ae P 65))) e w (Bc P (AB P 65))
noncomputable def DY (e : Env) (w : World) : Option (Value × World) := BA P (EV P) 65 37 (.loop (cA (cA (cB (cA (cB (cB (Ae P 65)))))))) e w (Am 0 (AE P (EV P) 65 37 (cB (cB (cB (Ae P 65)))) (Bc P (AB P 65))))
theorem Js (e : Env) (w : World) {Q : Value × World → Prop} (h :
 (Af (fa P 102 (e 1) 0 (dw w)) fun r1 => r1.2 = (dw w) ∧
 (Af (ld P 3 r1.1 (dw w)) fun r2 => r2.2 = (dw w) ∧
 (Af (fa P 102 (e 1) 1 (dw w)) fun r3 => r3.2 = (dw w) ∧
 (Af (ld P 3 r3.1 (dw w)) fun r4 => r4.2 = (dw w) ∧
 (Af (fa P 102 (e 1) 5 (dw w)) fun r5 => r5.2 = (dw w) ∧
 (Af (ld P 4 r5.1 (dw w)) fun r6 => r6.2 = (dw w) ∧
 (Af (fa P 102 (e 1) 2 (dw w)) fun r7 => r7.2 = (dw w) ∧
 (Af (ld P 98 r7.1 (dw w)) fun r8 => r8.2 = (dw w) ∧
 (Af (fa P 102 (e 1) 3 (dw w)) fun r9 => r9.2 = (dw w) ∧
 (Af (ld P 99 r9.1 (dw w)) fun r10 => r10.2 = (dw w) ∧
 ((Af (EV P 86 #[r8.1] (dw w)) fun r11 => (ld P 99 r9.1 r11.2 = some (r10.1, r11.2) ∧ fa P 102 (e 1) 3 r11.2 = some (r9.1, r11.2) ∧ True ∧ True ∧ ld P 4 r5.1 r11.2 = some (r6.1, r11.2) ∧ fa P 102 (e 1) 5 r11.2 = some (r5.1, r11.2) ∧ ld P 3 r3.1 r11.2 = some (r4.1, r11.2) ∧ fa P 102 (e 1) 1 r11.2 = some (r3.1, r11.2) ∧ ld P 3 r1.1 r11.2 = some (r2.1, r11.2) ∧ fa P 102 (e 1) 0 r11.2 = some (r1.1, r11.2) ∧ True) ∧
 ((Af (EV P 87 #[r10.1] r11.2) fun r12 => (True ∧ True ∧ True ∧ True ∧ ld P 4 r5.1 r12.2 = some (r6.1, r12.2) ∧ fa P 102 (e 1) 5 r12.2 = some (r5.1, r12.2) ∧ ld P 3 r3.1 r12.2 = some (r4.1, r12.2) ∧ fa P 102 (e 1) 1 r12.2 = some (r3.1, r12.2) ∧ ld P 3 r1.1 r12.2 = some (r2.1, r12.2) ∧ fa P 102 (e 1) 0 r12.2 = some (r1.1, r12.2) ∧ True) ∧
 (Af (bd P 102 #[(0, r2.1), (1, r4.1), (5, r6.1), (2, r11.1), (3, r12.1)] r12.2) fun r13 => r13.2 = r12.2 ∧
 ((Af (al P 102 r12.2) fun r14 => (bd P 102 #[(0, r2.1), (1, r4.1), (5, r6.1), (2, r11.1), (3, r12.1)] r14.2 = some (r13.1, r14.2) ∧ ld P 99 r9.1 r14.2 = some (r10.1, r14.2) ∧ fa P 102 (e 1) 3 r14.2 = some (r9.1, r14.2) ∧ ld P 98 r7.1 r14.2 = some (r8.1, r14.2) ∧ fa P 102 (e 1) 2 r14.2 = some (r7.1, r14.2) ∧ ld P 4 r5.1 r14.2 = some (r6.1, r14.2) ∧ fa P 102 (e 1) 5 r14.2 = some (r5.1, r14.2) ∧ ld P 3 r3.1 r14.2 = some (r4.1, r14.2) ∧ fa P 102 (e 1) 1 r14.2 = some (r3.1, r14.2) ∧ ld P 3 r1.1 r14.2 = some (r2.1, r14.2) ∧ fa P 102 (e 1) 0 r14.2 = some (r1.1, r14.2) ∧ True) ∧
 ((Af (st P 102 r14.1 r13.1 r14.2) fun r15 => (True ∧ True ∧ True ∧ True ∧ True ∧ True ∧ True ∧ True ∧ True ∧ True ∧ True ∧ True) ∧
 Af (CO (AJ e [(5, r1.1), (6, r2.1), (7, r3.1), (8, r4.1), (9, r5.1), (10, r6.1), (11, r7.1), (12, r8.1), (14, r9.1), (15, r10.1), (13, r11.1), (16, r12.1), (17, r13.1), (3, r14.1)]) r15.2) Q)))))) ∧
 (Af (al P 102 r11.2) fun r16 => (ld P 99 r9.1 r16.2 = some (r10.1, r16.2) ∧ fa P 102 (e 1) 3 r16.2 = some (r9.1, r16.2) ∧ ld P 98 r7.1 r16.2 = some (r8.1, r16.2) ∧ fa P 102 (e 1) 2 r16.2 = some (r7.1, r16.2) ∧ ld P 4 r5.1 r16.2 = some (r6.1, r16.2) ∧ fa P 102 (e 1) 5 r16.2 = some (r5.1, r16.2) ∧ ld P 3 r3.1 r16.2 = some (r4.1, r16.2) ∧ fa P 102 (e 1) 1 r16.2 = some (r3.1, r16.2) ∧ ld P 3 r1.1 r16.2 = some (r2.1, r16.2) ∧ fa P 102 (e 1) 0 r16.2 = some (r1.1, r16.2) ∧ True) ∧
 ((Af (EV P 87 #[r10.1] r16.2) fun r17 => (True ∧ True ∧ True ∧ True ∧ ld P 4 r5.1 r17.2 = some (r6.1, r17.2) ∧ fa P 102 (e 1) 5 r17.2 = some (r5.1, r17.2) ∧ ld P 3 r3.1 r17.2 = some (r4.1, r17.2) ∧ fa P 102 (e 1) 1 r17.2 = some (r3.1, r17.2) ∧ ld P 3 r1.1 r17.2 = some (r2.1, r17.2) ∧ fa P 102 (e 1) 0 r17.2 = some (r1.1, r17.2) ∧ True) ∧
 (Af (bd P 102 #[(0, r2.1), (1, r4.1), (5, r6.1), (2, r11.1), (3, r17.1)] r17.2) fun r18 => r18.2 = r17.2 ∧
 ((Af (st P 102 r16.1 r18.1 r17.2) fun r19 => (True ∧ True ∧ True ∧ True ∧ True ∧ True ∧ True ∧ True ∧ True ∧ True ∧ True ∧ True) ∧
 Af (CO (AJ e [(5, r1.1), (6, r2.1), (7, r3.1), (8, r4.1), (9, r5.1), (10, r6.1), (11, r7.1), (12, r8.1), (14, r9.1), (15, r10.1), (13, r11.1), (3, r16.1), (16, r17.1), (17, r18.1)]) r19.2) Q)))))))) ∧
 (Af (al P 102 (dw w)) fun r20 => (ld P 99 r9.1 r20.2 = some (r10.1, r20.2) ∧ fa P 102 (e 1) 3 r20.2 = some (r9.1, r20.2) ∧ ld P 98 r7.1 r20.2 = some (r8.1, r20.2) ∧ fa P 102 (e 1) 2 r20.2 = some (r7.1, r20.2) ∧ ld P 4 r5.1 r20.2 = some (r6.1, r20.2) ∧ fa P 102 (e 1) 5 r20.2 = some (r5.1, r20.2) ∧ ld P 3 r3.1 r20.2 = some (r4.1, r20.2) ∧ fa P 102 (e 1) 1 r20.2 = some (r3.1, r20.2) ∧ ld P 3 r1.1 r20.2 = some (r2.1, r20.2) ∧ fa P 102 (e 1) 0 r20.2 = some (r1.1, r20.2) ∧ True) ∧
 ((Af (EV P 86 #[r8.1] r20.2) fun r21 => (ld P 99 r9.1 r21.2 = some (r10.1, r21.2) ∧ fa P 102 (e 1) 3 r21.2 = some (r9.1, r21.2) ∧ True ∧ True ∧ ld P 4 r5.1 r21.2 = some (r6.1, r21.2) ∧ fa P 102 (e 1) 5 r21.2 = some (r5.1, r21.2) ∧ ld P 3 r3.1 r21.2 = some (r4.1, r21.2) ∧ fa P 102 (e 1) 1 r21.2 = some (r3.1, r21.2) ∧ ld P 3 r1.1 r21.2 = some (r2.1, r21.2) ∧ fa P 102 (e 1) 0 r21.2 = some (r1.1, r21.2) ∧ True) ∧
 ((Af (EV P 87 #[r10.1] r21.2) fun r22 => (True ∧ True ∧ True ∧ True ∧ ld P 4 r5.1 r22.2 = some (r6.1, r22.2) ∧ fa P 102 (e 1) 5 r22.2 = some (r5.1, r22.2) ∧ ld P 3 r3.1 r22.2 = some (r4.1, r22.2) ∧ fa P 102 (e 1) 1 r22.2 = some (r3.1, r22.2) ∧ ld P 3 r1.1 r22.2 = some (r2.1, r22.2) ∧ fa P 102 (e 1) 0 r22.2 = some (r1.1, r22.2) ∧ True) ∧
 (Af (bd P 102 #[(0, r2.1), (1, r4.1), (5, r6.1), (2, r21.1), (3, r22.1)] r22.2) fun r23 => r23.2 = r22.2 ∧
 ((Af (st P 102 r20.1 r23.1 r22.2) fun r24 => (True ∧ True ∧ True ∧ True ∧ True ∧ True ∧ True ∧ True ∧ True ∧ True ∧ True ∧ True) ∧
 Af (CO (AJ e [(5, r1.1), (6, r2.1), (7, r3.1), (8, r4.1), (9, r5.1), (10, r6.1), (11, r7.1), (12, r8.1), (14, r9.1), (15, r10.1), (3, r20.1), (13, r21.1), (16, r22.1), (17, r23.1)]) r24.2) Q)))))))))))))))))))) : Af (Ic e w) Q := FH (id := 1) (ops := opsOf (cA (cB (Ae P 65)))) (by kernel_rfl) (by kernel_rfl) (Eq.mpr (by kernel_rfl) h)
theorem JO (e : Env) (w : World) : CO e w = (do
 let r1 ← vl (.int .i64 0) w
 DY (AJ e [(4, r1.1)]) r1.2) := by kernel_rfl
theorem Gk (e : Env) (w : World) : DY e w = (do
 let r1 ← vl (e 4) w
 let r2 ← fa P 102 (e 1) 4 r1.2
 let r3 ← ld P 100 r2.1 r2.2
 let r4 ← Au P #[100] 3 #[r3.1] r3.2
 let r5 ← bo P .lss 3 (.tmp 18) (.tmp 21) r1.1 r4.1 r4.2
 AL r5.1 (do
 Ah (fa P 102 (e 3) 4) (dw r5.2) fun r7 => do
 Ah (ld P 100 r7.1) (dw r5.2) fun r8 => do
 Ah (fa P 102 (e 1) 4) (dw r5.2) fun r9 => do
 Ah (ld P 100 r9.1) (dw r5.2) fun r10 => do
 Ah (vl (e 4)) (dw r5.2) fun r11 => do
 Ah (ia P 100 r10.1 r11.1) (dw r5.2) fun r12 => do
 Ah (ld P 99 r12.1) (dw r5.2) fun r13 => do
 let r14 ← EV P 87 #[r13.1] (dw r5.2)
 AG (True ∧ True ∧ True ∧ True ∧ ld P 100 r7.1 r14.2 = some (r8.1, r14.2) ∧ fa P 102 (e 3) 4 r14.2 = some (r7.1, r14.2) ∧ True) <| do
 let r15 ← bs P 100 1 #[(0, r14.1)] r14.2
 AG (True ∧ True ∧ True ∧ True ∧ ld P 100 r7.1 r15.2 = some (r8.1, r15.2) ∧ fa P 102 (e 3) 4 r15.2 = some (r7.1, r15.2) ∧ True) <| do
 let r16 ← Ar P #[100, 100] 100 #[r8.1, r15.1] r15.2
 AG qt7 <| do
 Ah (fa P 102 (e 3) 4) r16.2 fun r17 => do
 let r18 ← st P 100 r17.1 r16.1 r16.2
 AG qt8 <| do
 let r19 ← vl (e 4) r18.2
 let r20 ← bo P .add 3 (.tmp 23) (.const (.int .i64 1)) r19.1 (.int .i64 1) r19.2
 let r21 ← vl r20.1 r20.2
 DY (AJ e [(18, r1.1), (19, r2.1), (20, r3.1), (21, r4.1), (22, r5.1), (25, r7.1), (26, r8.1), (27, r9.1), (28, r10.1), (29, r11.1), (30, r12.1), (31, r13.1), (32, r14.1), (33, r15.1), (34, r16.1), (35, r17.1), (23, r19.1), (24, r20.1), (4, r21.1)]) r21.2) (do
 let r22 ← ld P 102 (e 3) r5.2
 let r23 ← st P 102 (e 2) r22.1 r22.2
 let v25 ← (ld P 102 (e 2) r23.2).bind fun r24 => AG (r24.2 = r23.2) (some r24.1)
 some (v25, r23.2))) := (AH P (EV P) 65 37 (cA (cA (cB (cA (cB (cB (Ae P 65))))))) e w (Am 0 (AE P (EV P) 65 37 (cB (cB (cB (Ae P 65)))) (Bc P (AB P 65))))).trans (by kernel_rfl)
theorem Ms (x0 : Value) (w : World) : Bv P (EV P) 65 #[x0] w = (do
 let r1 ← bx P 102 x0 w
 let r2 ← al P 102 r1.2
 Ic (AJ (AO #[x0]) [(1, r1.1), (2, r2.1)]) r2.2) := by kernel_rfl
theorem Mt (x0 : Value) (w : World) : Bv P (EV P) 66 #[x0] w = (do
 let r1 ← bx P 110 x0 w
 let r2 ← al P 110 r1.2
 let r3 ← bs P 104 0 #[] r2.2
 let r4 ← fa P 110 r1.1 2 r3.2
 let r5 ← fa P 106 r4.1 0 r4.2
 let r6 ← ld P 104 r5.1 r5.2
 let r7 ← Ar P #[104, 104] 104 #[r3.1, r6.1] r6.2
 let r8 ← bd P 106 #[(0, r7.1)] r7.2
 let r9 ← fa P 110 r1.1 2 r8.2
 let r10 ← st P 106 r9.1 r8.1 r9.2
 let r11 ← ld P 110 r1.1 r10.2
 let r12 ← st P 110 r2.1 r11.1 r11.2
 let v14 ← (ld P 110 r2.1 r12.2).bind fun r13 => AG (r13.2 = r12.2) (some r13.1)
 some (v14, r12.2)) := by kernel_rfl
noncomputable def EL (e : Env) (w : World) : Option (Value × World) := BA P (EV P) 67 36 (.loop (cA (cA (cB (cA (cB (cB (Ae P 67)))))))) e w (Am 0 (AE P (EV P) 67 36 (cB (cB (cB (Ae P 67)))) (Bc P (AB P 67))))
noncomputable def EM (e : Env) (w : World) : Option (Value × World) := BA P (EV P) 67 36 (.loop (cA (cA (cB (cA (cB (cB (cB (Ae P 67))))))))) e w (Am 2 (AE P (EV P) 67 36 (cB (cB (cB (cB (Ae P 67))))) (Bc P (AB P 67))))
theorem He (e : Env) (w : World) : EL e w = (do
 let r1 ← vl (e 6) w
 let r2 ← bo P .lss 3 (.tmp 9) (.const (.int .i64 3)) r1.1 (.int .i64 3) r1.2
 AL r2.1 (do
 Ah (fa P 67 (e 5) 0) (dw r2.2) fun r4 => do
 Ah (ld P 63 r4.1) (dw r2.2) fun r5 => do
 Ah (vl (e 6)) (dw r2.2) fun r6 => do
 Ah (vl (e 0)) (dw r2.2) fun r7 => do
 let r8 ← EV P 88 #[r6.1, r7.1] (dw r2.2)
 AG (ld P 63 r4.1 r8.2 = some (r5.1, r8.2) ∧ fa P 67 (e 5) 0 r8.2 = some (r4.1, r8.2) ∧ True) <| do
 let r9 ← bs P 63 1 #[(0, r8.1)] r8.2
 AG (ld P 63 r4.1 r9.2 = some (r5.1, r9.2) ∧ fa P 67 (e 5) 0 r9.2 = some (r4.1, r9.2) ∧ True) <| do
 let r10 ← Ar P #[63, 63] 63 #[r5.1, r9.1] r9.2
 AG qt3 <| do
 Ah (fa P 67 (e 5) 0) r10.2 fun r11 => do
 let r12 ← st P 63 r11.1 r10.1 r10.2
 AG qt4 <| do
 let r13 ← vl (e 6) r12.2
 let r14 ← bo P .add 3 (.tmp 11) (.const (.int .i64 1)) r13.1 (.int .i64 1) r13.2
 let r15 ← vl r14.1 r14.2
 EL (AJ e [(9, r1.1), (10, r2.1), (13, r4.1), (14, r5.1), (15, r6.1), (16, r7.1), (17, r8.1), (18, r9.1), (19, r10.1), (20, r11.1), (11, r13.1), (12, r14.1), (6, r15.1)]) r15.2) (do
 let r16 ← vl (.int .i64 0) r2.2
 EM (AJ e [(9, r1.1), (10, r2.1), (7, r16.1)]) r16.2)) := (AH P (EV P) 67 36 (cA (cA (cB (cA (cB (cB (Ae P 67))))))) e w (Am 0 (AE P (EV P) 67 36 (cB (cB (cB (Ae P 67)))) (Bc P (AB P 67))))).trans (by kernel_rfl)
theorem Hf (e : Env) (w : World) : EM e w = (do
 let r1 ← vl (e 7) w
 let r2 ← vl (e 1) r1.2
 let r3 ← bo P .lss 3 (.tmp 21) (.tmp 22) r1.1 r2.1 r2.2
 AL r3.1 (do
 Ah (fa P 67 (e 5) 1) (dw r3.2) fun r5 => do
 Ah (ld P 64 r5.1) (dw r3.2) fun r6 => do
 Ah (vl (e 7)) (dw r3.2) fun r7 => do
 Ah (bo P .rem 3 (.tmp 28) (.const (.int .i64 3)) r7.1 (.int .i64 3)) (dw r3.2) fun r8 => do
 let r9 ← EV P 89 #[] (dw r3.2)
 AG (bo P .rem 3 (.tmp 28) (.const (.int .i64 3)) r7.1 (.int .i64 3) r9.2 = some (r8.1, r9.2) ∧ ld P 64 r5.1 r9.2 = some (r6.1, r9.2) ∧ fa P 67 (e 5) 1 r9.2 = some (r5.1, r9.2) ∧ True) <| do
 Ah (bd P 108 #[(0, r8.1), (1, r9.1)]) r9.2 fun r10 => do
 let r11 ← bs P 64 1 #[(0, r10.1)] r9.2
 AG (True ∧ True ∧ ld P 64 r5.1 r11.2 = some (r6.1, r11.2) ∧ fa P 67 (e 5) 1 r11.2 = some (r5.1, r11.2) ∧ True) <| do
 let r12 ← Ar P #[64, 64] 64 #[r6.1, r11.1] r11.2
 AG qt5 <| do
 Ah (fa P 67 (e 5) 1) r12.2 fun r13 => do
 let r14 ← st P 64 r13.1 r12.1 r12.2
 AG qt6 <| do
 let r15 ← vl (e 7) r14.2
 let r16 ← bo P .add 3 (.tmp 24) (.const (.int .i64 1)) r15.1 (.int .i64 1) r15.2
 let r17 ← vl r16.1 r16.2
 EM (AJ e [(21, r1.1), (22, r2.1), (23, r3.1), (26, r5.1), (27, r6.1), (28, r7.1), (29, r8.1), (30, r9.1), (31, r10.1), (32, r11.1), (33, r12.1), (34, r13.1), (24, r15.1), (25, r16.1), (7, r17.1)]) r17.2) (do
 let r18 ← ld P 67 (e 5) r3.2
 let r19 ← st P 67 (e 4) r18.1 r18.2
 let v21 ← (ld P 67 (e 4) r19.2).bind fun r20 => AG (r20.2 = r19.2) (some r20.1)
 some (v21, r19.2))) := (AH P (EV P) 67 36 (cA (cA (cB (cA (cB (cB (cB (Ae P 67)))))))) e w (Am 2 (AE P (EV P) 67 36 (cB (cB (cB (cB (Ae P 67))))) (Bc P (AB P 67))))).trans (by kernel_rfl)
theorem Oa (x0 x1 : Value) (w : World) : Bv P (EV P) 67 #[x0, x1] w = (do
 let r1 ← al P 67 w
 let r2 ← bd P 67 #[] r1.2
 let r3 ← al P 67 r2.2
 let r4 ← st P 67 r3.1 r2.1 r3.2
 let r5 ← vl (.int .i64 0) r4.2
 EL (AJ (AO #[x0, x1]) [(4, r1.1), (8, r2.1), (5, r3.1), (6, r5.1)]) r5.2) := by kernel_rfl
theorem Ps (x0 x1 : Value) (w : World) : Bv P (EV P) 68 #[x0, x1] w = (do
 let r1 ← bx P 67 x0 w
 let r2 ← bx P 118 x1 r1.2
 let r3 ← al P 67 r2.2
 let r4 ← vl (.bool false) r3.2
 let r5 ← fa P 118 r2.1 0 r4.2
 let r6 ← ld P 3 r5.1 r5.2
 let r7 ← EV P 50 #[r6.1, (.int .i64 1), (.int .i64 5)] r6.2
 let r8 ← vl r7.1 r7.2
 AL r8.1 (do
 let r9 ← ld P 67 r1.1 r8.2
 let r10 ← ld P 118 r2.1 r9.2
 let r11 ← EV P 90 #[r9.1, r10.1] r10.2
 let r12 ← xt P r11.1 0 r11.2
 let r13 ← xt P r11.1 1 r12.2
 let r14 ← st P 67 r3.1 r12.1 r13.2
 let r15 ← vl r13.1 r14.2
 let v17 ← (ld P 67 r3.1 r15.2).bind fun r16 => AG (r16.2 = r15.2) (some r16.1)
 some (.tuple #[v17, r15.1], r15.2)) (do
 let r18 ← fa P 118 r2.1 0 r8.2
 let r19 ← ld P 3 r18.1 r18.2
 let r20 ← EV P 50 #[r19.1, (.int .i64 6), (.int .i64 9)] r19.2
 let r21 ← vl r20.1 r20.2
 AL r21.1 (do
 let r22 ← ld P 67 r1.1 r21.2
 let r23 ← ld P 118 r2.1 r22.2
 let r24 ← EV P 91 #[r22.1, r23.1] r23.2
 let r25 ← xt P r24.1 0 r24.2
 let r26 ← xt P r24.1 1 r25.2
 let r27 ← st P 67 r3.1 r25.1 r26.2
 let r28 ← vl r26.1 r27.2
 let v30 ← (ld P 67 r3.1 r28.2).bind fun r29 => AG (r29.2 = r28.2) (some r29.1)
 some (.tuple #[v30, r28.1], r28.2)) (do
 let r31 ← fa P 118 r2.1 0 r21.2
 let r32 ← ld P 3 r31.1 r31.2
 let r33 ← EV P 50 #[r32.1, (.int .i64 10), (.int .i64 13)] r32.2
 let r34 ← vl r33.1 r33.2
 AL r34.1 (do
 let r35 ← ld P 67 r1.1 r34.2
 let r36 ← ld P 118 r2.1 r35.2
 let r37 ← EV P 92 #[r35.1, r36.1] r36.2
 let r38 ← xt P r37.1 0 r37.2
 let r39 ← xt P r37.1 1 r38.2
 let r40 ← st P 67 r3.1 r38.1 r39.2
 let r41 ← vl r39.1 r40.2
 let v43 ← (ld P 67 r3.1 r41.2).bind fun r42 => AG (r42.2 = r41.2) (some r42.1)
 some (.tuple #[v43, r41.1], r41.2)) (do
 let r44 ← ld P 67 r1.1 r34.2
 let r45 ← st P 67 r3.1 r44.1 r44.2
 let r46 ← vl (.bool false) r45.2
 let v48 ← (ld P 67 r3.1 r46.2).bind fun r47 => AG (r47.2 = r46.2) (some r47.1)
 some (.tuple #[v48, r46.1], r46.2))))) := by kernel_rfl
theorem Ga (x0 : Value) (w : World) : Bv P (EV P) 69 #[x0] w = (do
 let r1 ← vl (Go.Value.string { data := #[] }) w
 let r2 ← vl x0 r1.2
 let r3 ← bo P .lss 3 (.tmp 3) (.const (.int .i64 10)) r2.1 (.int .i64 10) r2.2
 AL r3.1 (do
 let r4 ← vl x0 r3.2
 let r5 ← vl x0 r4.2
 let r6 ← bo P .add 3 (.tmp 6) (.const (.int .i64 1)) r5.1 (.int .i64 1) r5.2
 let r7 ← sl P 9 (Go.Value.string { data := #[48, 49, 50, 51, 52, 53, 54, 55, 56, 57, 97, 98, 99, 100, 101, 102, 103, 104, 105, 106, 107, 108, 109, 110, 111, 112, 113, 114, 115, 116, 117, 118, 119, 120, 121, 122] }) (some r4.1) (some r6.1) none r6.2
 let r8 ← vl r7.1 r7.2
 some (r8.1, r8.2)) (do
 let r9 ← vl x0 r3.2
 let r10 ← bo P .mul 3 (.tmp 9) (.const (.int .i64 2)) r9.1 (.int .i64 2) r9.2
 let r11 ← vl x0 r10.2
 let r12 ← bo P .mul 3 (.tmp 11) (.const (.int .i64 2)) r11.1 (.int .i64 2) r11.2
 let r13 ← bo P .add 3 (.tmp 12) (.const (.int .i64 2)) r12.1 (.int .i64 2) r12.2
 let r14 ← sl P 9 (Go.Value.string { data := #[48, 48, 48, 49, 48, 50, 48, 51, 48, 52, 48, 53, 48, 54, 48, 55, 48, 56, 48, 57, 49, 48, 49, 49, 49, 50, 49, 51, 49, 52, 49, 53, 49, 54, 49, 55, 49, 56, 49, 57, 50, 48, 50, 49, 50, 50, 50, 51, 50, 52, 50, 53, 50, 54, 50, 55, 50, 56, 50, 57, 51, 48, 51, 49, 51, 50, 51, 51, 51, 52, 51, 53, 51, 54, 51, 55, 51, 56, 51, 57, 52, 48, 52, 49, 52, 50, 52, 51, 52, 52, 52, 53, 52, 54, 52, 55, 52, 56, 52, 57, 53, 48, 53, 49, 53, 50, 53, 51, 53, 52, 53, 53, 53, 54, 53, 55, 53, 56, 53, 57, 54, 48, 54, 49, 54, 50, 54, 51, 54, 52, 54, 53, 54, 54, 54, 55, 54, 56, 54, 57, 55, 48, 55, 49, 55, 50, 55, 51, 55, 52, 55, 53, 55, 54, 55, 55, 55, 56, 55, 57, 56, 48, 56, 49, 56, 50, 56, 51, 56, 52, 56, 53, 56, 54, 56, 55, 56, 56, 56, 57, 57, 48, 57, 49, 57, 50, 57, 51, 57, 52, 57, 53, 57, 54, 57, 55, 57, 56, 57, 57] }) (some r10.1) (some r13.1) none r13.2
 let r15 ← vl r14.1 r14.2
 some (r15.1, r15.2))) := by kernel_rfl
theorem Fa (x0 : Value) (w : World) : Bv P (EV P) 70 #[x0] w = (do
 let r1 ← vl (.int .i64 0) w
 let r2 ← vl x0 r1.2
 let r3 ← EV P 94 #[r2.1] r2.2
 let r4 ← EV P 93 #[r3.1] r3.2
 let r5 ← vl r4.1 r4.2
 let r6 ← vl r5.1 r5.2
 let r7 ← vl x0 r6.2
 let r8 ← vl r5.1 r7.2
 let r9 ← ia P 140 (.pointer (some ⟨1, 0, none⟩)) r8.1 r8.2
 let r10 ← ld P 120 r9.1 r9.2
 let r11 ← bo P .geq 120 (.tmp 8) (.tmp 11) r7.1 r10.1 r10.2
 let r12 ← EV P 95 #[r11.1] r11.2
 let r13 ← bo P .add 3 (.tmp 7) (.tmp 13) r6.1 r12.1 r12.2
 let r14 ← vl r13.1 r13.2
 some (r14.1, r14.2)) := by kernel_rfl
noncomputable def BB (e : Env) (w : World) : Option (Value × World) := BA P (EV P) 71 167 (.loop (cA (cA (cA (cB (Ae P 71)))))) e w (Am 0 (AE P (EV P) 71 167 (cB (cB (Ae P 71))) (Bc P (AB P 71))))
noncomputable def BC (e : Env) (w : World) : Option (Value × World) := BA P (EV P) 71 167 (cB (cB (cB (cB (Ae P 71))))) e w (Bc P (AB P 71))
noncomputable def BD (e : Env) (w : World) : Option (Value × World) := BA P (EV P) 71 167 (cB (cB (cB (cB (cB (Ae P 71)))))) e w (Bc P (AB P 71))
theorem Dh (e : Env) (w : World) : BB e w = (do
 let r1 ← vl (e 4) w
 let r2 ← bo P .geq 3 (.tmp 19) (.const (.int .i64 8)) r1.1 (.int .i64 8) r1.2
 AL r2.1 (do
 let r3 ← vl (e 1) r2.2
 let r4 ← bo P .rem 120 (.tmp 21) (.const (.int .u64 100000000)) r3.1 (.int .u64 100000000) r3.2
 let r5 ← cv P 120 141 r4.1 r4.2
 let r6 ← vl r5.1 r5.2
 let r7 ← vl (e 1) r6.2
 let r8 ← bo P .quo 120 (.tmp 24) (.const (.int .u64 100000000)) r7.1 (.int .u64 100000000) r7.2
 let r9 ← vl r8.1 r8.2
 let r10 ← vl r6.1 r9.2
 let r11 ← bo P .quo 141 (.tmp 26) (.const (.int .u32 10000)) r10.1 (.int .u32 10000) r10.2
 let r12 ← vl r6.1 r11.2
 let r13 ← bo P .rem 141 (.tmp 28) (.const (.int .u32 10000)) r12.1 (.int .u32 10000) r12.2
 let r14 ← vl r11.1 r13.2
 let r15 ← vl r13.1 r14.2
 let r16 ← vl r15.1 r15.2
 let r17 ← bo P .quo 141 (.tmp 30) (.const (.int .u32 100)) r16.1 (.int .u32 100) r16.2
 let r18 ← bo P .mul 141 (.tmp 31) (.const (.int .u32 2)) r17.1 (.int .u32 2) r17.2
 let r19 ← vl r15.1 r18.2
 let r20 ← bo P .rem 141 (.tmp 33) (.const (.int .u32 100)) r19.1 (.int .u32 100) r19.2
 let r21 ← bo P .mul 141 (.tmp 34) (.const (.int .u32 2)) r20.1 (.int .u32 2) r20.2
 let r22 ← vl r18.1 r21.2
 let r23 ← vl r21.1 r22.2
 let r24 ← vl r14.1 r23.2
 let r25 ← bo P .quo 141 (.tmp 36) (.const (.int .u32 100)) r24.1 (.int .u32 100) r24.2
 let r26 ← bo P .mul 141 (.tmp 37) (.const (.int .u32 2)) r25.1 (.int .u32 2) r25.2
 let r27 ← vl r14.1 r26.2
 let r28 ← bo P .rem 141 (.tmp 39) (.const (.int .u32 100)) r27.1 (.int .u32 100) r27.2
 let r29 ← bo P .mul 141 (.tmp 40) (.const (.int .u32 2)) r28.1 (.int .u32 2) r28.2
 let r30 ← vl r26.1 r29.2
 let r31 ← vl r29.1 r30.2
 Ah (vl (e 0)) (dw r31.2) fun r33 => do
 Ah (vl (e 4)) (dw r31.2) fun r34 => do
 Ah (bo P .sub 3 (.tmp 43) (.const (.int .i64 1)) r34.1 (.int .i64 1)) (dw r31.2) fun r35 => do
 Ah (vl (e 0)) (dw r31.2) fun r36 => do
 Ah (vl (e 4)) (dw r31.2) fun r37 => do
 Ah (bo P .sub 3 (.tmp 46) (.const (.int .i64 2)) r37.1 (.int .i64 2)) (dw r31.2) fun r38 => do
 Ah (vl r23.1) (dw r31.2) fun r39 => do
 Ah (bo P .add 141 (.tmp 48) (.const (.int .u32 1)) r39.1 (.int .u32 1)) (dw r31.2) fun r40 => do
 Ah (ix P 9 (Go.Value.string { data := #[48, 48, 48, 49, 48, 50, 48, 51, 48, 52, 48, 53, 48, 54, 48, 55, 48, 56, 48, 57, 49, 48, 49, 49, 49, 50, 49, 51, 49, 52, 49, 53, 49, 54, 49, 55, 49, 56, 49, 57, 50, 48, 50, 49, 50, 50, 50, 51, 50, 52, 50, 53, 50, 54, 50, 55, 50, 56, 50, 57, 51, 48, 51, 49, 51, 50, 51, 51, 51, 52, 51, 53, 51, 54, 51, 55, 51, 56, 51, 57, 52, 48, 52, 49, 52, 50, 52, 51, 52, 52, 52, 53, 52, 54, 52, 55, 52, 56, 52, 57, 53, 48, 53, 49, 53, 50, 53, 51, 53, 52, 53, 53, 53, 54, 53, 55, 53, 56, 53, 57, 54, 48, 54, 49, 54, 50, 54, 51, 54, 52, 54, 53, 54, 54, 54, 55, 54, 56, 54, 57, 55, 48, 55, 49, 55, 50, 55, 51, 55, 52, 55, 53, 55, 54, 55, 55, 55, 56, 55, 57, 56, 48, 56, 49, 56, 50, 56, 51, 56, 52, 56, 53, 56, 54, 56, 55, 56, 56, 56, 57, 57, 48, 57, 49, 57, 50, 57, 51, 57, 52, 57, 53, 57, 54, 57, 55, 57, 56, 57, 57] }) r40.1) (dw r31.2) fun r41 => do
 Ah (vl r23.1) (dw r31.2) fun r42 => do
 Ah (ix P 9 (Go.Value.string { data := #[48, 48, 48, 49, 48, 50, 48, 51, 48, 52, 48, 53, 48, 54, 48, 55, 48, 56, 48, 57, 49, 48, 49, 49, 49, 50, 49, 51, 49, 52, 49, 53, 49, 54, 49, 55, 49, 56, 49, 57, 50, 48, 50, 49, 50, 50, 50, 51, 50, 52, 50, 53, 50, 54, 50, 55, 50, 56, 50, 57, 51, 48, 51, 49, 51, 50, 51, 51, 51, 52, 51, 53, 51, 54, 51, 55, 51, 56, 51, 57, 52, 48, 52, 49, 52, 50, 52, 51, 52, 52, 52, 53, 52, 54, 52, 55, 52, 56, 52, 57, 53, 48, 53, 49, 53, 50, 53, 51, 53, 52, 53, 53, 53, 54, 53, 55, 53, 56, 53, 57, 54, 48, 54, 49, 54, 50, 54, 51, 54, 52, 54, 53, 54, 54, 54, 55, 54, 56, 54, 57, 55, 48, 55, 49, 55, 50, 55, 51, 55, 52, 55, 53, 55, 54, 55, 55, 55, 56, 55, 57, 56, 48, 56, 49, 56, 50, 56, 51, 56, 52, 56, 53, 56, 54, 56, 55, 56, 56, 56, 57, 57, 48, 57, 49, 57, 50, 57, 51, 57, 52, 57, 53, 57, 54, 57, 55, 57, 56, 57, 57] }) r42.1) (dw r31.2) fun r43 => do
 Ah (ia P 22 r33.1 r35.1) (dw r31.2) fun r44 => do
 let r45 ← st P 5 r44.1 r41.1 (dw r31.2)
 AG (True ∧ ix P 9 (Go.Value.string { data := #[48, 48, 48, 49, 48, 50, 48, 51, 48, 52, 48, 53, 48, 54, 48, 55, 48, 56, 48, 57, 49, 48, 49, 49, 49, 50, 49, 51, 49, 52, 49, 53, 49, 54, 49, 55, 49, 56, 49, 57, 50, 48, 50, 49, 50, 50, 50, 51, 50, 52, 50, 53, 50, 54, 50, 55, 50, 56, 50, 57, 51, 48, 51, 49, 51, 50, 51, 51, 51, 52, 51, 53, 51, 54, 51, 55, 51, 56, 51, 57, 52, 48, 52, 49, 52, 50, 52, 51, 52, 52, 52, 53, 52, 54, 52, 55, 52, 56, 52, 57, 53, 48, 53, 49, 53, 50, 53, 51, 53, 52, 53, 53, 53, 54, 53, 55, 53, 56, 53, 57, 54, 48, 54, 49, 54, 50, 54, 51, 54, 52, 54, 53, 54, 54, 54, 55, 54, 56, 54, 57, 55, 48, 55, 49, 55, 50, 55, 51, 55, 52, 55, 53, 55, 54, 55, 55, 55, 56, 55, 57, 56, 48, 56, 49, 56, 50, 56, 51, 56, 52, 56, 53, 56, 54, 56, 55, 56, 56, 56, 57, 57, 48, 57, 49, 57, 50, 57, 51, 57, 52, 57, 53, 57, 54, 57, 55, 57, 56, 57, 57] }) r42.1 r45.2 = some (r43.1, r45.2) ∧ True ∧ True ∧ bo P .sub 3 (.tmp 46) (.const (.int .i64 2)) r37.1 (.int .i64 2) r45.2 = some (r38.1, r45.2) ∧ True ∧ True) <| do
 Ah (ia P 22 r36.1 r38.1) r45.2 fun r46 => do
 let r47 ← st P 5 r46.1 r43.1 r45.2
 AG qt8 <| do
 Ah (vl (e 0)) (dw r47.2) fun r49 => do
 Ah (vl (e 4)) (dw r47.2) fun r50 => do
 Ah (bo P .sub 3 (.tmp 56) (.const (.int .i64 3)) r50.1 (.int .i64 3)) (dw r47.2) fun r51 => do
 Ah (vl (e 0)) (dw r47.2) fun r52 => do
 Ah (vl (e 4)) (dw r47.2) fun r53 => do
 Ah (bo P .sub 3 (.tmp 59) (.const (.int .i64 4)) r53.1 (.int .i64 4)) (dw r47.2) fun r54 => do
 Ah (vl r22.1) (dw r47.2) fun r55 => do
 Ah (bo P .add 141 (.tmp 61) (.const (.int .u32 1)) r55.1 (.int .u32 1)) (dw r47.2) fun r56 => do
 Ah (ix P 9 (Go.Value.string { data := #[48, 48, 48, 49, 48, 50, 48, 51, 48, 52, 48, 53, 48, 54, 48, 55, 48, 56, 48, 57, 49, 48, 49, 49, 49, 50, 49, 51, 49, 52, 49, 53, 49, 54, 49, 55, 49, 56, 49, 57, 50, 48, 50, 49, 50, 50, 50, 51, 50, 52, 50, 53, 50, 54, 50, 55, 50, 56, 50, 57, 51, 48, 51, 49, 51, 50, 51, 51, 51, 52, 51, 53, 51, 54, 51, 55, 51, 56, 51, 57, 52, 48, 52, 49, 52, 50, 52, 51, 52, 52, 52, 53, 52, 54, 52, 55, 52, 56, 52, 57, 53, 48, 53, 49, 53, 50, 53, 51, 53, 52, 53, 53, 53, 54, 53, 55, 53, 56, 53, 57, 54, 48, 54, 49, 54, 50, 54, 51, 54, 52, 54, 53, 54, 54, 54, 55, 54, 56, 54, 57, 55, 48, 55, 49, 55, 50, 55, 51, 55, 52, 55, 53, 55, 54, 55, 55, 55, 56, 55, 57, 56, 48, 56, 49, 56, 50, 56, 51, 56, 52, 56, 53, 56, 54, 56, 55, 56, 56, 56, 57, 57, 48, 57, 49, 57, 50, 57, 51, 57, 52, 57, 53, 57, 54, 57, 55, 57, 56, 57, 57] }) r56.1) (dw r47.2) fun r57 => do
 Ah (vl r22.1) (dw r47.2) fun r58 => do
 Ah (ix P 9 (Go.Value.string { data := #[48, 48, 48, 49, 48, 50, 48, 51, 48, 52, 48, 53, 48, 54, 48, 55, 48, 56, 48, 57, 49, 48, 49, 49, 49, 50, 49, 51, 49, 52, 49, 53, 49, 54, 49, 55, 49, 56, 49, 57, 50, 48, 50, 49, 50, 50, 50, 51, 50, 52, 50, 53, 50, 54, 50, 55, 50, 56, 50, 57, 51, 48, 51, 49, 51, 50, 51, 51, 51, 52, 51, 53, 51, 54, 51, 55, 51, 56, 51, 57, 52, 48, 52, 49, 52, 50, 52, 51, 52, 52, 52, 53, 52, 54, 52, 55, 52, 56, 52, 57, 53, 48, 53, 49, 53, 50, 53, 51, 53, 52, 53, 53, 53, 54, 53, 55, 53, 56, 53, 57, 54, 48, 54, 49, 54, 50, 54, 51, 54, 52, 54, 53, 54, 54, 54, 55, 54, 56, 54, 57, 55, 48, 55, 49, 55, 50, 55, 51, 55, 52, 55, 53, 55, 54, 55, 55, 55, 56, 55, 57, 56, 48, 56, 49, 56, 50, 56, 51, 56, 52, 56, 53, 56, 54, 56, 55, 56, 56, 56, 57, 57, 48, 57, 49, 57, 50, 57, 51, 57, 52, 57, 53, 57, 54, 57, 55, 57, 56, 57, 57] }) r58.1) (dw r47.2) fun r59 => do
 Ah (ia P 22 r49.1 r51.1) (dw r47.2) fun r60 => do
 let r61 ← st P 5 r60.1 r57.1 (dw r47.2)
 AG (True ∧ ix P 9 (Go.Value.string { data := #[48, 48, 48, 49, 48, 50, 48, 51, 48, 52, 48, 53, 48, 54, 48, 55, 48, 56, 48, 57, 49, 48, 49, 49, 49, 50, 49, 51, 49, 52, 49, 53, 49, 54, 49, 55, 49, 56, 49, 57, 50, 48, 50, 49, 50, 50, 50, 51, 50, 52, 50, 53, 50, 54, 50, 55, 50, 56, 50, 57, 51, 48, 51, 49, 51, 50, 51, 51, 51, 52, 51, 53, 51, 54, 51, 55, 51, 56, 51, 57, 52, 48, 52, 49, 52, 50, 52, 51, 52, 52, 52, 53, 52, 54, 52, 55, 52, 56, 52, 57, 53, 48, 53, 49, 53, 50, 53, 51, 53, 52, 53, 53, 53, 54, 53, 55, 53, 56, 53, 57, 54, 48, 54, 49, 54, 50, 54, 51, 54, 52, 54, 53, 54, 54, 54, 55, 54, 56, 54, 57, 55, 48, 55, 49, 55, 50, 55, 51, 55, 52, 55, 53, 55, 54, 55, 55, 55, 56, 55, 57, 56, 48, 56, 49, 56, 50, 56, 51, 56, 52, 56, 53, 56, 54, 56, 55, 56, 56, 56, 57, 57, 48, 57, 49, 57, 50, 57, 51, 57, 52, 57, 53, 57, 54, 57, 55, 57, 56, 57, 57] }) r58.1 r61.2 = some (r59.1, r61.2) ∧ True ∧ True ∧ bo P .sub 3 (.tmp 59) (.const (.int .i64 4)) r53.1 (.int .i64 4) r61.2 = some (r54.1, r61.2) ∧ True ∧ True) <| do
 Ah (ia P 22 r52.1 r54.1) r61.2 fun r62 => do
 let r63 ← st P 5 r62.1 r59.1 r61.2
 AG qt8 <| do
 Ah (vl (e 0)) (dw r63.2) fun r65 => do
 Ah (vl (e 4)) (dw r63.2) fun r66 => do
 Ah (bo P .sub 3 (.tmp 69) (.const (.int .i64 5)) r66.1 (.int .i64 5)) (dw r63.2) fun r67 => do
 Ah (vl (e 0)) (dw r63.2) fun r68 => do
 Ah (vl (e 4)) (dw r63.2) fun r69 => do
 Ah (bo P .sub 3 (.tmp 72) (.const (.int .i64 6)) r69.1 (.int .i64 6)) (dw r63.2) fun r70 => do
 Ah (vl r31.1) (dw r63.2) fun r71 => do
 Ah (bo P .add 141 (.tmp 74) (.const (.int .u32 1)) r71.1 (.int .u32 1)) (dw r63.2) fun r72 => do
 Ah (ix P 9 (Go.Value.string { data := #[48, 48, 48, 49, 48, 50, 48, 51, 48, 52, 48, 53, 48, 54, 48, 55, 48, 56, 48, 57, 49, 48, 49, 49, 49, 50, 49, 51, 49, 52, 49, 53, 49, 54, 49, 55, 49, 56, 49, 57, 50, 48, 50, 49, 50, 50, 50, 51, 50, 52, 50, 53, 50, 54, 50, 55, 50, 56, 50, 57, 51, 48, 51, 49, 51, 50, 51, 51, 51, 52, 51, 53, 51, 54, 51, 55, 51, 56, 51, 57, 52, 48, 52, 49, 52, 50, 52, 51, 52, 52, 52, 53, 52, 54, 52, 55, 52, 56, 52, 57, 53, 48, 53, 49, 53, 50, 53, 51, 53, 52, 53, 53, 53, 54, 53, 55, 53, 56, 53, 57, 54, 48, 54, 49, 54, 50, 54, 51, 54, 52, 54, 53, 54, 54, 54, 55, 54, 56, 54, 57, 55, 48, 55, 49, 55, 50, 55, 51, 55, 52, 55, 53, 55, 54, 55, 55, 55, 56, 55, 57, 56, 48, 56, 49, 56, 50, 56, 51, 56, 52, 56, 53, 56, 54, 56, 55, 56, 56, 56, 57, 57, 48, 57, 49, 57, 50, 57, 51, 57, 52, 57, 53, 57, 54, 57, 55, 57, 56, 57, 57] }) r72.1) (dw r63.2) fun r73 => do
 Ah (vl r31.1) (dw r63.2) fun r74 => do
 Ah (ix P 9 (Go.Value.string { data := #[48, 48, 48, 49, 48, 50, 48, 51, 48, 52, 48, 53, 48, 54, 48, 55, 48, 56, 48, 57, 49, 48, 49, 49, 49, 50, 49, 51, 49, 52, 49, 53, 49, 54, 49, 55, 49, 56, 49, 57, 50, 48, 50, 49, 50, 50, 50, 51, 50, 52, 50, 53, 50, 54, 50, 55, 50, 56, 50, 57, 51, 48, 51, 49, 51, 50, 51, 51, 51, 52, 51, 53, 51, 54, 51, 55, 51, 56, 51, 57, 52, 48, 52, 49, 52, 50, 52, 51, 52, 52, 52, 53, 52, 54, 52, 55, 52, 56, 52, 57, 53, 48, 53, 49, 53, 50, 53, 51, 53, 52, 53, 53, 53, 54, 53, 55, 53, 56, 53, 57, 54, 48, 54, 49, 54, 50, 54, 51, 54, 52, 54, 53, 54, 54, 54, 55, 54, 56, 54, 57, 55, 48, 55, 49, 55, 50, 55, 51, 55, 52, 55, 53, 55, 54, 55, 55, 55, 56, 55, 57, 56, 48, 56, 49, 56, 50, 56, 51, 56, 52, 56, 53, 56, 54, 56, 55, 56, 56, 56, 57, 57, 48, 57, 49, 57, 50, 57, 51, 57, 52, 57, 53, 57, 54, 57, 55, 57, 56, 57, 57] }) r74.1) (dw r63.2) fun r75 => do
 Ah (ia P 22 r65.1 r67.1) (dw r63.2) fun r76 => do
 let r77 ← st P 5 r76.1 r73.1 (dw r63.2)
 AG (True ∧ ix P 9 (Go.Value.string { data := #[48, 48, 48, 49, 48, 50, 48, 51, 48, 52, 48, 53, 48, 54, 48, 55, 48, 56, 48, 57, 49, 48, 49, 49, 49, 50, 49, 51, 49, 52, 49, 53, 49, 54, 49, 55, 49, 56, 49, 57, 50, 48, 50, 49, 50, 50, 50, 51, 50, 52, 50, 53, 50, 54, 50, 55, 50, 56, 50, 57, 51, 48, 51, 49, 51, 50, 51, 51, 51, 52, 51, 53, 51, 54, 51, 55, 51, 56, 51, 57, 52, 48, 52, 49, 52, 50, 52, 51, 52, 52, 52, 53, 52, 54, 52, 55, 52, 56, 52, 57, 53, 48, 53, 49, 53, 50, 53, 51, 53, 52, 53, 53, 53, 54, 53, 55, 53, 56, 53, 57, 54, 48, 54, 49, 54, 50, 54, 51, 54, 52, 54, 53, 54, 54, 54, 55, 54, 56, 54, 57, 55, 48, 55, 49, 55, 50, 55, 51, 55, 52, 55, 53, 55, 54, 55, 55, 55, 56, 55, 57, 56, 48, 56, 49, 56, 50, 56, 51, 56, 52, 56, 53, 56, 54, 56, 55, 56, 56, 56, 57, 57, 48, 57, 49, 57, 50, 57, 51, 57, 52, 57, 53, 57, 54, 57, 55, 57, 56, 57, 57] }) r74.1 r77.2 = some (r75.1, r77.2) ∧ True ∧ True ∧ bo P .sub 3 (.tmp 72) (.const (.int .i64 6)) r69.1 (.int .i64 6) r77.2 = some (r70.1, r77.2) ∧ True ∧ True) <| do
 Ah (ia P 22 r68.1 r70.1) r77.2 fun r78 => do
 let r79 ← st P 5 r78.1 r75.1 r77.2
 AG qt8 <| do
 Ah (vl (e 0)) (dw r79.2) fun r81 => do
 Ah (vl (e 4)) (dw r79.2) fun r82 => do
 Ah (bo P .sub 3 (.tmp 82) (.const (.int .i64 7)) r82.1 (.int .i64 7)) (dw r79.2) fun r83 => do
 Ah (vl (e 0)) (dw r79.2) fun r84 => do
 Ah (vl (e 4)) (dw r79.2) fun r85 => do
 Ah (bo P .sub 3 (.tmp 85) (.const (.int .i64 8)) r85.1 (.int .i64 8)) (dw r79.2) fun r86 => do
 Ah (vl r30.1) (dw r79.2) fun r87 => do
 Ah (bo P .add 141 (.tmp 87) (.const (.int .u32 1)) r87.1 (.int .u32 1)) (dw r79.2) fun r88 => do
 Ah (ix P 9 (Go.Value.string { data := #[48, 48, 48, 49, 48, 50, 48, 51, 48, 52, 48, 53, 48, 54, 48, 55, 48, 56, 48, 57, 49, 48, 49, 49, 49, 50, 49, 51, 49, 52, 49, 53, 49, 54, 49, 55, 49, 56, 49, 57, 50, 48, 50, 49, 50, 50, 50, 51, 50, 52, 50, 53, 50, 54, 50, 55, 50, 56, 50, 57, 51, 48, 51, 49, 51, 50, 51, 51, 51, 52, 51, 53, 51, 54, 51, 55, 51, 56, 51, 57, 52, 48, 52, 49, 52, 50, 52, 51, 52, 52, 52, 53, 52, 54, 52, 55, 52, 56, 52, 57, 53, 48, 53, 49, 53, 50, 53, 51, 53, 52, 53, 53, 53, 54, 53, 55, 53, 56, 53, 57, 54, 48, 54, 49, 54, 50, 54, 51, 54, 52, 54, 53, 54, 54, 54, 55, 54, 56, 54, 57, 55, 48, 55, 49, 55, 50, 55, 51, 55, 52, 55, 53, 55, 54, 55, 55, 55, 56, 55, 57, 56, 48, 56, 49, 56, 50, 56, 51, 56, 52, 56, 53, 56, 54, 56, 55, 56, 56, 56, 57, 57, 48, 57, 49, 57, 50, 57, 51, 57, 52, 57, 53, 57, 54, 57, 55, 57, 56, 57, 57] }) r88.1) (dw r79.2) fun r89 => do
 Ah (vl r30.1) (dw r79.2) fun r90 => do
 Ah (ix P 9 (Go.Value.string { data := #[48, 48, 48, 49, 48, 50, 48, 51, 48, 52, 48, 53, 48, 54, 48, 55, 48, 56, 48, 57, 49, 48, 49, 49, 49, 50, 49, 51, 49, 52, 49, 53, 49, 54, 49, 55, 49, 56, 49, 57, 50, 48, 50, 49, 50, 50, 50, 51, 50, 52, 50, 53, 50, 54, 50, 55, 50, 56, 50, 57, 51, 48, 51, 49, 51, 50, 51, 51, 51, 52, 51, 53, 51, 54, 51, 55, 51, 56, 51, 57, 52, 48, 52, 49, 52, 50, 52, 51, 52, 52, 52, 53, 52, 54, 52, 55, 52, 56, 52, 57, 53, 48, 53, 49, 53, 50, 53, 51, 53, 52, 53, 53, 53, 54, 53, 55, 53, 56, 53, 57, 54, 48, 54, 49, 54, 50, 54, 51, 54, 52, 54, 53, 54, 54, 54, 55, 54, 56, 54, 57, 55, 48, 55, 49, 55, 50, 55, 51, 55, 52, 55, 53, 55, 54, 55, 55, 55, 56, 55, 57, 56, 48, 56, 49, 56, 50, 56, 51, 56, 52, 56, 53, 56, 54, 56, 55, 56, 56, 56, 57, 57, 48, 57, 49, 57, 50, 57, 51, 57, 52, 57, 53, 57, 54, 57, 55, 57, 56, 57, 57] }) r90.1) (dw r79.2) fun r91 => do
 Ah (ia P 22 r81.1 r83.1) (dw r79.2) fun r92 => do
 let r93 ← st P 5 r92.1 r89.1 (dw r79.2)
 AG (True ∧ ix P 9 (Go.Value.string { data := #[48, 48, 48, 49, 48, 50, 48, 51, 48, 52, 48, 53, 48, 54, 48, 55, 48, 56, 48, 57, 49, 48, 49, 49, 49, 50, 49, 51, 49, 52, 49, 53, 49, 54, 49, 55, 49, 56, 49, 57, 50, 48, 50, 49, 50, 50, 50, 51, 50, 52, 50, 53, 50, 54, 50, 55, 50, 56, 50, 57, 51, 48, 51, 49, 51, 50, 51, 51, 51, 52, 51, 53, 51, 54, 51, 55, 51, 56, 51, 57, 52, 48, 52, 49, 52, 50, 52, 51, 52, 52, 52, 53, 52, 54, 52, 55, 52, 56, 52, 57, 53, 48, 53, 49, 53, 50, 53, 51, 53, 52, 53, 53, 53, 54, 53, 55, 53, 56, 53, 57, 54, 48, 54, 49, 54, 50, 54, 51, 54, 52, 54, 53, 54, 54, 54, 55, 54, 56, 54, 57, 55, 48, 55, 49, 55, 50, 55, 51, 55, 52, 55, 53, 55, 54, 55, 55, 55, 56, 55, 57, 56, 48, 56, 49, 56, 50, 56, 51, 56, 52, 56, 53, 56, 54, 56, 55, 56, 56, 56, 57, 57, 48, 57, 49, 57, 50, 57, 51, 57, 52, 57, 53, 57, 54, 57, 55, 57, 56, 57, 57] }) r90.1 r93.2 = some (r91.1, r93.2) ∧ True ∧ True ∧ bo P .sub 3 (.tmp 85) (.const (.int .i64 8)) r85.1 (.int .i64 8) r93.2 = some (r86.1, r93.2) ∧ True ∧ True) <| do
 Ah (ia P 22 r84.1 r86.1) r93.2 fun r94 => do
 let r95 ← st P 5 r94.1 r91.1 r93.2
 AG qt8 <| do
 let r96 ← vl (e 4) r95.2
 let r97 ← bo P .sub 3 (.tmp 94) (.const (.int .i64 8)) r96.1 (.int .i64 8) r96.2
 let r98 ← vl r97.1 r97.2
 BB (AJ e [(19, r1.1), (20, r2.1), (21, r3.1), (22, r4.1), (23, r5.1), (5, r6.1), (24, r7.1), (25, r8.1), (1, r9.1), (26, r10.1), (27, r11.1), (28, r12.1), (29, r13.1), (6, r14.1), (7, r15.1), (30, r16.1), (31, r17.1), (32, r18.1), (33, r19.1), (34, r20.1), (35, r21.1), (8, r22.1), (9, r23.1), (36, r24.1), (37, r25.1), (38, r26.1), (39, r27.1), (40, r28.1), (41, r29.1), (10, r30.1), (11, r31.1), (42, r33.1), (43, r34.1), (44, r35.1), (45, r36.1), (46, r37.1), (47, r38.1), (48, r39.1), (49, r40.1), (50, r41.1), (51, r42.1), (52, r43.1), (53, r44.1), (54, r46.1), (55, r49.1), (56, r50.1), (57, r51.1), (58, r52.1), (59, r53.1), (60, r54.1), (61, r55.1), (62, r56.1), (63, r57.1), (64, r58.1), (65, r59.1), (66, r60.1), (67, r62.1), (68, r65.1), (69, r66.1), (70, r67.1), (71, r68.1), (72, r69.1), (73, r70.1), (74, r71.1), (75, r72.1), (76, r73.1), (77, r74.1), (78, r75.1), (79, r76.1), (80, r78.1), (81, r81.1), (82, r82.1), (83, r83.1), (84, r84.1), (85, r85.1), (86, r86.1), (87, r87.1), (88, r88.1), (89, r89.1), (90, r90.1), (91, r91.1), (92, r92.1), (93, r94.1), (94, r96.1), (95, r97.1), (4, r98.1)]) r98.2) (do
 let r99 ← vl (e 1) r2.2
 let r100 ← cv P 120 141 r99.1 r99.2
 let r101 ← vl r100.1 r100.2
 let r102 ← vl (e 4) r101.2
 let r103 ← bo P .geq 3 (.tmp 98) (.const (.int .i64 4)) r102.1 (.int .i64 4) r102.2
 AL r103.1 (do
 let r104 ← vl r101.1 r103.2
 let r105 ← bo P .rem 141 (.tmp 100) (.const (.int .u32 10000)) r104.1 (.int .u32 10000) r104.2
 let r106 ← vl r105.1 r105.2
 let r107 ← vl r101.1 r106.2
 let r108 ← bo P .quo 141 (.tmp 102) (.const (.int .u32 10000)) r107.1 (.int .u32 10000) r107.2
 let r109 ← vl r108.1 r108.2
 let r110 ← vl r106.1 r109.2
 let r111 ← bo P .quo 141 (.tmp 104) (.const (.int .u32 100)) r110.1 (.int .u32 100) r110.2
 let r112 ← bo P .mul 141 (.tmp 105) (.const (.int .u32 2)) r111.1 (.int .u32 2) r111.2
 let r113 ← vl r106.1 r112.2
 let r114 ← bo P .rem 141 (.tmp 107) (.const (.int .u32 100)) r113.1 (.int .u32 100) r113.2
 let r115 ← bo P .mul 141 (.tmp 108) (.const (.int .u32 2)) r114.1 (.int .u32 2) r114.2
 let r116 ← vl r112.1 r115.2
 let r117 ← vl r115.1 r116.2
 Ah (vl (e 0)) (dw r117.2) fun r119 => do
 Ah (vl (e 4)) (dw r117.2) fun r120 => do
 Ah (bo P .sub 3 (.tmp 111) (.const (.int .i64 1)) r120.1 (.int .i64 1)) (dw r117.2) fun r121 => do
 Ah (vl (e 0)) (dw r117.2) fun r122 => do
 Ah (vl (e 4)) (dw r117.2) fun r123 => do
 Ah (bo P .sub 3 (.tmp 114) (.const (.int .i64 2)) r123.1 (.int .i64 2)) (dw r117.2) fun r124 => do
 Ah (vl r117.1) (dw r117.2) fun r125 => do
 Ah (bo P .add 141 (.tmp 116) (.const (.int .u32 1)) r125.1 (.int .u32 1)) (dw r117.2) fun r126 => do
 Ah (ix P 9 (Go.Value.string { data := #[48, 48, 48, 49, 48, 50, 48, 51, 48, 52, 48, 53, 48, 54, 48, 55, 48, 56, 48, 57, 49, 48, 49, 49, 49, 50, 49, 51, 49, 52, 49, 53, 49, 54, 49, 55, 49, 56, 49, 57, 50, 48, 50, 49, 50, 50, 50, 51, 50, 52, 50, 53, 50, 54, 50, 55, 50, 56, 50, 57, 51, 48, 51, 49, 51, 50, 51, 51, 51, 52, 51, 53, 51, 54, 51, 55, 51, 56, 51, 57, 52, 48, 52, 49, 52, 50, 52, 51, 52, 52, 52, 53, 52, 54, 52, 55, 52, 56, 52, 57, 53, 48, 53, 49, 53, 50, 53, 51, 53, 52, 53, 53, 53, 54, 53, 55, 53, 56, 53, 57, 54, 48, 54, 49, 54, 50, 54, 51, 54, 52, 54, 53, 54, 54, 54, 55, 54, 56, 54, 57, 55, 48, 55, 49, 55, 50, 55, 51, 55, 52, 55, 53, 55, 54, 55, 55, 55, 56, 55, 57, 56, 48, 56, 49, 56, 50, 56, 51, 56, 52, 56, 53, 56, 54, 56, 55, 56, 56, 56, 57, 57, 48, 57, 49, 57, 50, 57, 51, 57, 52, 57, 53, 57, 54, 57, 55, 57, 56, 57, 57] }) r126.1) (dw r117.2) fun r127 => do
 Ah (vl r117.1) (dw r117.2) fun r128 => do
 Ah (ix P 9 (Go.Value.string { data := #[48, 48, 48, 49, 48, 50, 48, 51, 48, 52, 48, 53, 48, 54, 48, 55, 48, 56, 48, 57, 49, 48, 49, 49, 49, 50, 49, 51, 49, 52, 49, 53, 49, 54, 49, 55, 49, 56, 49, 57, 50, 48, 50, 49, 50, 50, 50, 51, 50, 52, 50, 53, 50, 54, 50, 55, 50, 56, 50, 57, 51, 48, 51, 49, 51, 50, 51, 51, 51, 52, 51, 53, 51, 54, 51, 55, 51, 56, 51, 57, 52, 48, 52, 49, 52, 50, 52, 51, 52, 52, 52, 53, 52, 54, 52, 55, 52, 56, 52, 57, 53, 48, 53, 49, 53, 50, 53, 51, 53, 52, 53, 53, 53, 54, 53, 55, 53, 56, 53, 57, 54, 48, 54, 49, 54, 50, 54, 51, 54, 52, 54, 53, 54, 54, 54, 55, 54, 56, 54, 57, 55, 48, 55, 49, 55, 50, 55, 51, 55, 52, 55, 53, 55, 54, 55, 55, 55, 56, 55, 57, 56, 48, 56, 49, 56, 50, 56, 51, 56, 52, 56, 53, 56, 54, 56, 55, 56, 56, 56, 57, 57, 48, 57, 49, 57, 50, 57, 51, 57, 52, 57, 53, 57, 54, 57, 55, 57, 56, 57, 57] }) r128.1) (dw r117.2) fun r129 => do
 Ah (ia P 22 r119.1 r121.1) (dw r117.2) fun r130 => do
 let r131 ← st P 5 r130.1 r127.1 (dw r117.2)
 AG (True ∧ ix P 9 (Go.Value.string { data := #[48, 48, 48, 49, 48, 50, 48, 51, 48, 52, 48, 53, 48, 54, 48, 55, 48, 56, 48, 57, 49, 48, 49, 49, 49, 50, 49, 51, 49, 52, 49, 53, 49, 54, 49, 55, 49, 56, 49, 57, 50, 48, 50, 49, 50, 50, 50, 51, 50, 52, 50, 53, 50, 54, 50, 55, 50, 56, 50, 57, 51, 48, 51, 49, 51, 50, 51, 51, 51, 52, 51, 53, 51, 54, 51, 55, 51, 56, 51, 57, 52, 48, 52, 49, 52, 50, 52, 51, 52, 52, 52, 53, 52, 54, 52, 55, 52, 56, 52, 57, 53, 48, 53, 49, 53, 50, 53, 51, 53, 52, 53, 53, 53, 54, 53, 55, 53, 56, 53, 57, 54, 48, 54, 49, 54, 50, 54, 51, 54, 52, 54, 53, 54, 54, 54, 55, 54, 56, 54, 57, 55, 48, 55, 49, 55, 50, 55, 51, 55, 52, 55, 53, 55, 54, 55, 55, 55, 56, 55, 57, 56, 48, 56, 49, 56, 50, 56, 51, 56, 52, 56, 53, 56, 54, 56, 55, 56, 56, 56, 57, 57, 48, 57, 49, 57, 50, 57, 51, 57, 52, 57, 53, 57, 54, 57, 55, 57, 56, 57, 57] }) r128.1 r131.2 = some (r129.1, r131.2) ∧ True ∧ True ∧ bo P .sub 3 (.tmp 114) (.const (.int .i64 2)) r123.1 (.int .i64 2) r131.2 = some (r124.1, r131.2) ∧ True ∧ True) <| do
 Ah (ia P 22 r122.1 r124.1) r131.2 fun r132 => do
 let r133 ← st P 5 r132.1 r129.1 r131.2
 AG qt8 <| do
 Ah (vl (e 0)) (dw r133.2) fun r135 => do
 Ah (vl (e 4)) (dw r133.2) fun r136 => do
 Ah (bo P .sub 3 (.tmp 124) (.const (.int .i64 3)) r136.1 (.int .i64 3)) (dw r133.2) fun r137 => do
 Ah (vl (e 0)) (dw r133.2) fun r138 => do
 Ah (vl (e 4)) (dw r133.2) fun r139 => do
 Ah (bo P .sub 3 (.tmp 127) (.const (.int .i64 4)) r139.1 (.int .i64 4)) (dw r133.2) fun r140 => do
 Ah (vl r116.1) (dw r133.2) fun r141 => do
 Ah (bo P .add 141 (.tmp 129) (.const (.int .u32 1)) r141.1 (.int .u32 1)) (dw r133.2) fun r142 => do
 Ah (ix P 9 (Go.Value.string { data := #[48, 48, 48, 49, 48, 50, 48, 51, 48, 52, 48, 53, 48, 54, 48, 55, 48, 56, 48, 57, 49, 48, 49, 49, 49, 50, 49, 51, 49, 52, 49, 53, 49, 54, 49, 55, 49, 56, 49, 57, 50, 48, 50, 49, 50, 50, 50, 51, 50, 52, 50, 53, 50, 54, 50, 55, 50, 56, 50, 57, 51, 48, 51, 49, 51, 50, 51, 51, 51, 52, 51, 53, 51, 54, 51, 55, 51, 56, 51, 57, 52, 48, 52, 49, 52, 50, 52, 51, 52, 52, 52, 53, 52, 54, 52, 55, 52, 56, 52, 57, 53, 48, 53, 49, 53, 50, 53, 51, 53, 52, 53, 53, 53, 54, 53, 55, 53, 56, 53, 57, 54, 48, 54, 49, 54, 50, 54, 51, 54, 52, 54, 53, 54, 54, 54, 55, 54, 56, 54, 57, 55, 48, 55, 49, 55, 50, 55, 51, 55, 52, 55, 53, 55, 54, 55, 55, 55, 56, 55, 57, 56, 48, 56, 49, 56, 50, 56, 51, 56, 52, 56, 53, 56, 54, 56, 55, 56, 56, 56, 57, 57, 48, 57, 49, 57, 50, 57, 51, 57, 52, 57, 53, 57, 54, 57, 55, 57, 56, 57, 57] }) r142.1) (dw r133.2) fun r143 => do
 Ah (vl r116.1) (dw r133.2) fun r144 => do
 Ah (ix P 9 (Go.Value.string { data := #[48, 48, 48, 49, 48, 50, 48, 51, 48, 52, 48, 53, 48, 54, 48, 55, 48, 56, 48, 57, 49, 48, 49, 49, 49, 50, 49, 51, 49, 52, 49, 53, 49, 54, 49, 55, 49, 56, 49, 57, 50, 48, 50, 49, 50, 50, 50, 51, 50, 52, 50, 53, 50, 54, 50, 55, 50, 56, 50, 57, 51, 48, 51, 49, 51, 50, 51, 51, 51, 52, 51, 53, 51, 54, 51, 55, 51, 56, 51, 57, 52, 48, 52, 49, 52, 50, 52, 51, 52, 52, 52, 53, 52, 54, 52, 55, 52, 56, 52, 57, 53, 48, 53, 49, 53, 50, 53, 51, 53, 52, 53, 53, 53, 54, 53, 55, 53, 56, 53, 57, 54, 48, 54, 49, 54, 50, 54, 51, 54, 52, 54, 53, 54, 54, 54, 55, 54, 56, 54, 57, 55, 48, 55, 49, 55, 50, 55, 51, 55, 52, 55, 53, 55, 54, 55, 55, 55, 56, 55, 57, 56, 48, 56, 49, 56, 50, 56, 51, 56, 52, 56, 53, 56, 54, 56, 55, 56, 56, 56, 57, 57, 48, 57, 49, 57, 50, 57, 51, 57, 52, 57, 53, 57, 54, 57, 55, 57, 56, 57, 57] }) r144.1) (dw r133.2) fun r145 => do
 Ah (ia P 22 r135.1 r137.1) (dw r133.2) fun r146 => do
 let r147 ← st P 5 r146.1 r143.1 (dw r133.2)
 AG (True ∧ ix P 9 (Go.Value.string { data := #[48, 48, 48, 49, 48, 50, 48, 51, 48, 52, 48, 53, 48, 54, 48, 55, 48, 56, 48, 57, 49, 48, 49, 49, 49, 50, 49, 51, 49, 52, 49, 53, 49, 54, 49, 55, 49, 56, 49, 57, 50, 48, 50, 49, 50, 50, 50, 51, 50, 52, 50, 53, 50, 54, 50, 55, 50, 56, 50, 57, 51, 48, 51, 49, 51, 50, 51, 51, 51, 52, 51, 53, 51, 54, 51, 55, 51, 56, 51, 57, 52, 48, 52, 49, 52, 50, 52, 51, 52, 52, 52, 53, 52, 54, 52, 55, 52, 56, 52, 57, 53, 48, 53, 49, 53, 50, 53, 51, 53, 52, 53, 53, 53, 54, 53, 55, 53, 56, 53, 57, 54, 48, 54, 49, 54, 50, 54, 51, 54, 52, 54, 53, 54, 54, 54, 55, 54, 56, 54, 57, 55, 48, 55, 49, 55, 50, 55, 51, 55, 52, 55, 53, 55, 54, 55, 55, 55, 56, 55, 57, 56, 48, 56, 49, 56, 50, 56, 51, 56, 52, 56, 53, 56, 54, 56, 55, 56, 56, 56, 57, 57, 48, 57, 49, 57, 50, 57, 51, 57, 52, 57, 53, 57, 54, 57, 55, 57, 56, 57, 57] }) r144.1 r147.2 = some (r145.1, r147.2) ∧ True ∧ True ∧ bo P .sub 3 (.tmp 127) (.const (.int .i64 4)) r139.1 (.int .i64 4) r147.2 = some (r140.1, r147.2) ∧ True ∧ True) <| do
 Ah (ia P 22 r138.1 r140.1) r147.2 fun r148 => do
 let r149 ← st P 5 r148.1 r145.1 r147.2
 AG qt8 <| do
 let r150 ← vl (e 4) r149.2
 let r151 ← bo P .sub 3 (.tmp 136) (.const (.int .i64 4)) r150.1 (.int .i64 4) r150.2
 let r152 ← vl r151.1 r151.2
 BC (AJ e [(19, r1.1), (20, r2.1), (96, r99.1), (97, r100.1), (12, r101.1), (98, r102.1), (99, r103.1), (100, r104.1), (101, r105.1), (13, r106.1), (102, r107.1), (103, r108.1), (12, r109.1), (104, r110.1), (105, r111.1), (106, r112.1), (107, r113.1), (108, r114.1), (109, r115.1), (14, r116.1), (15, r117.1), (110, r119.1), (111, r120.1), (112, r121.1), (113, r122.1), (114, r123.1), (115, r124.1), (116, r125.1), (117, r126.1), (118, r127.1), (119, r128.1), (120, r129.1), (121, r130.1), (122, r132.1), (123, r135.1), (124, r136.1), (125, r137.1), (126, r138.1), (127, r139.1), (128, r140.1), (129, r141.1), (130, r142.1), (131, r143.1), (132, r144.1), (133, r145.1), (134, r146.1), (135, r148.1), (136, r150.1), (137, r151.1), (4, r152.1)]) r152.2) (do
 BC (AJ e [(19, r1.1), (20, r2.1), (96, r99.1), (97, r100.1), (12, r101.1), (98, r102.1), (99, r103.1)]) r103.2))) := (AH P (EV P) 71 167 (cA (cA (cA (cB (Ae P 71))))) e w (Am 0 (AE P (EV P) 71 167 (cB (cB (Ae P 71))) (Bc P (AB P 71))))).trans (by kernel_rfl)
theorem Di (e : Env) (w : World) : BC e w = (do
 let r1 ← vl (e 4) w
 let r2 ← bo P .geq 3 (.tmp 138) (.const (.int .i64 2)) r1.1 (.int .i64 2) r1.2
 AL r2.1 (do
 let r3 ← vl (e 12) r2.2
 let r4 ← bo P .rem 141 (.tmp 140) (.const (.int .u32 100)) r3.1 (.int .u32 100) r3.2
 let r5 ← bo P .mul 141 (.tmp 141) (.const (.int .u32 2)) r4.1 (.int .u32 2) r4.2
 let r6 ← vl r5.1 r5.2
 let r7 ← vl (e 12) r6.2
 let r8 ← bo P .quo 141 (.tmp 143) (.const (.int .u32 100)) r7.1 (.int .u32 100) r7.2
 let r9 ← vl r8.1 r8.2
 Ah (vl (e 0)) (dw r9.2) fun r11 => do
 Ah (vl (e 4)) (dw r9.2) fun r12 => do
 Ah (bo P .sub 3 (.tmp 146) (.const (.int .i64 1)) r12.1 (.int .i64 1)) (dw r9.2) fun r13 => do
 Ah (vl (e 0)) (dw r9.2) fun r14 => do
 Ah (vl (e 4)) (dw r9.2) fun r15 => do
 Ah (bo P .sub 3 (.tmp 149) (.const (.int .i64 2)) r15.1 (.int .i64 2)) (dw r9.2) fun r16 => do
 Ah (vl r6.1) (dw r9.2) fun r17 => do
 Ah (bo P .add 141 (.tmp 151) (.const (.int .u32 1)) r17.1 (.int .u32 1)) (dw r9.2) fun r18 => do
 Ah (ix P 9 (Go.Value.string { data := #[48, 48, 48, 49, 48, 50, 48, 51, 48, 52, 48, 53, 48, 54, 48, 55, 48, 56, 48, 57, 49, 48, 49, 49, 49, 50, 49, 51, 49, 52, 49, 53, 49, 54, 49, 55, 49, 56, 49, 57, 50, 48, 50, 49, 50, 50, 50, 51, 50, 52, 50, 53, 50, 54, 50, 55, 50, 56, 50, 57, 51, 48, 51, 49, 51, 50, 51, 51, 51, 52, 51, 53, 51, 54, 51, 55, 51, 56, 51, 57, 52, 48, 52, 49, 52, 50, 52, 51, 52, 52, 52, 53, 52, 54, 52, 55, 52, 56, 52, 57, 53, 48, 53, 49, 53, 50, 53, 51, 53, 52, 53, 53, 53, 54, 53, 55, 53, 56, 53, 57, 54, 48, 54, 49, 54, 50, 54, 51, 54, 52, 54, 53, 54, 54, 54, 55, 54, 56, 54, 57, 55, 48, 55, 49, 55, 50, 55, 51, 55, 52, 55, 53, 55, 54, 55, 55, 55, 56, 55, 57, 56, 48, 56, 49, 56, 50, 56, 51, 56, 52, 56, 53, 56, 54, 56, 55, 56, 56, 56, 57, 57, 48, 57, 49, 57, 50, 57, 51, 57, 52, 57, 53, 57, 54, 57, 55, 57, 56, 57, 57] }) r18.1) (dw r9.2) fun r19 => do
 Ah (vl r6.1) (dw r9.2) fun r20 => do
 Ah (ix P 9 (Go.Value.string { data := #[48, 48, 48, 49, 48, 50, 48, 51, 48, 52, 48, 53, 48, 54, 48, 55, 48, 56, 48, 57, 49, 48, 49, 49, 49, 50, 49, 51, 49, 52, 49, 53, 49, 54, 49, 55, 49, 56, 49, 57, 50, 48, 50, 49, 50, 50, 50, 51, 50, 52, 50, 53, 50, 54, 50, 55, 50, 56, 50, 57, 51, 48, 51, 49, 51, 50, 51, 51, 51, 52, 51, 53, 51, 54, 51, 55, 51, 56, 51, 57, 52, 48, 52, 49, 52, 50, 52, 51, 52, 52, 52, 53, 52, 54, 52, 55, 52, 56, 52, 57, 53, 48, 53, 49, 53, 50, 53, 51, 53, 52, 53, 53, 53, 54, 53, 55, 53, 56, 53, 57, 54, 48, 54, 49, 54, 50, 54, 51, 54, 52, 54, 53, 54, 54, 54, 55, 54, 56, 54, 57, 55, 48, 55, 49, 55, 50, 55, 51, 55, 52, 55, 53, 55, 54, 55, 55, 55, 56, 55, 57, 56, 48, 56, 49, 56, 50, 56, 51, 56, 52, 56, 53, 56, 54, 56, 55, 56, 56, 56, 57, 57, 48, 57, 49, 57, 50, 57, 51, 57, 52, 57, 53, 57, 54, 57, 55, 57, 56, 57, 57] }) r20.1) (dw r9.2) fun r21 => do
 Ah (ia P 22 r11.1 r13.1) (dw r9.2) fun r22 => do
 let r23 ← st P 5 r22.1 r19.1 (dw r9.2)
 AG (True ∧ ix P 9 (Go.Value.string { data := #[48, 48, 48, 49, 48, 50, 48, 51, 48, 52, 48, 53, 48, 54, 48, 55, 48, 56, 48, 57, 49, 48, 49, 49, 49, 50, 49, 51, 49, 52, 49, 53, 49, 54, 49, 55, 49, 56, 49, 57, 50, 48, 50, 49, 50, 50, 50, 51, 50, 52, 50, 53, 50, 54, 50, 55, 50, 56, 50, 57, 51, 48, 51, 49, 51, 50, 51, 51, 51, 52, 51, 53, 51, 54, 51, 55, 51, 56, 51, 57, 52, 48, 52, 49, 52, 50, 52, 51, 52, 52, 52, 53, 52, 54, 52, 55, 52, 56, 52, 57, 53, 48, 53, 49, 53, 50, 53, 51, 53, 52, 53, 53, 53, 54, 53, 55, 53, 56, 53, 57, 54, 48, 54, 49, 54, 50, 54, 51, 54, 52, 54, 53, 54, 54, 54, 55, 54, 56, 54, 57, 55, 48, 55, 49, 55, 50, 55, 51, 55, 52, 55, 53, 55, 54, 55, 55, 55, 56, 55, 57, 56, 48, 56, 49, 56, 50, 56, 51, 56, 52, 56, 53, 56, 54, 56, 55, 56, 56, 56, 57, 57, 48, 57, 49, 57, 50, 57, 51, 57, 52, 57, 53, 57, 54, 57, 55, 57, 56, 57, 57] }) r20.1 r23.2 = some (r21.1, r23.2) ∧ True ∧ True ∧ bo P .sub 3 (.tmp 149) (.const (.int .i64 2)) r15.1 (.int .i64 2) r23.2 = some (r16.1, r23.2) ∧ True ∧ True) <| do
 Ah (ia P 22 r14.1 r16.1) r23.2 fun r24 => do
 let r25 ← st P 5 r24.1 r21.1 r23.2
 AG qt8 <| do
 let r26 ← vl (e 4) r25.2
 let r27 ← bo P .sub 3 (.tmp 158) (.const (.int .i64 2)) r26.1 (.int .i64 2) r26.2
 let r28 ← vl r27.1 r27.2
 BD (AJ e [(138, r1.1), (139, r2.1), (140, r3.1), (141, r4.1), (142, r5.1), (16, r6.1), (143, r7.1), (144, r8.1), (12, r9.1), (145, r11.1), (146, r12.1), (147, r13.1), (148, r14.1), (149, r15.1), (150, r16.1), (151, r17.1), (152, r18.1), (153, r19.1), (154, r20.1), (155, r21.1), (156, r22.1), (157, r24.1), (158, r26.1), (159, r27.1), (4, r28.1)]) r28.2) (do
 BD (AJ e [(138, r1.1), (139, r2.1)]) r2.2)) := by kernel_rfl
theorem Dj (e : Env) (w : World) : BD e w = (do
 let r1 ← vl (e 4) w
 let r2 ← bo P .gtr 3 (.tmp 160) (.const (.int .i64 0)) r1.1 (.int .i64 0) r1.2
 AL r2.1 (do
 let r3 ← vl (e 0) r2.2
 let r4 ← vl (e 12) r3.2
 let r5 ← bo P .add 141 (.const (.int .u32 48)) (.tmp 163) (.int .u32 48) r4.1 r4.2
 let r6 ← cv P 141 5 r5.1 r5.2
 let r7 ← ia P 22 r3.1 (.int .i64 0) r6.2
 let r8 ← st P 5 r7.1 r6.1 r7.2
 some (.tuple #[], r8.2)) (do
 some (.tuple #[], r2.2))) := by kernel_rfl
theorem DZ (x0 x1 : Value) (w : World) : Bv P (EV P) 71 #[x0, x1] w = (do
 let r1 ← vl x0 w
 let r2 ← Au P #[22] 3 #[r1.1] r1.2
 let r3 ← vl r2.1 r2.2
 BB (AJ (AO #[x0, x1]) [(17, r1.1), (18, r2.1), (4, r3.1)]) r3.2) := by kernel_rfl
theorem DO (x0 x1 : Value) (w : World) : Bv P (EV P) 73 #[x0, x1] w = (do
 let r1 ← vl (.int .i64 0) w
 let r2 ← vl x0 r1.2
 let r3 ← vl x1 r2.2
 let r4 ← xf P 98 #[r2.1, r3.1] r3.2
 let r5 ← vl r4.1 r4.2
 some (r5.1, r5.2)) := by kernel_rfl
noncomputable def KE (e : Env) (w : World) : Option (Value × World) := BA P (EV P) 78 34 (.loop (cA (cA (cB (cB (cB (cB (Ae P 78)))))))) e w (Am 0 (Bc P (AB P 78)))
theorem KF (x0 x1 : Value) (w : World) : Bv P (EV P) 78 #[x0, x1] w = (do
 let r1 ← vl (.int .i64 0) w
 let r2 ← vl x1 r1.2
 let r3 ← Au P #[9] 3 #[r2.1] r2.2
 let r4 ← bo P .eql 3 (.tmp 8) (.const (.int .i64 0)) r3.1 (.int .i64 0) r3.2
 AL r4.1 (do
 let r5 ← vl x0 r4.2
 let r6 ← EV P 100 #[r5.1] r5.2
 let r7 ← bo P .add 3 (.tmp 11) (.const (.int .i64 1)) r6.1 (.int .i64 1) r6.2
 let r8 ← vl r7.1 r7.2
 some (r8.1, r8.2)) (do
 let r9 ← vl x1 r4.2
 let r10 ← Au P #[9] 3 #[r9.1] r9.2
 let r11 ← bo P .eql 3 (.tmp 14) (.const (.int .i64 1)) r10.1 (.int .i64 1) r10.2
 AL r11.1 (do
 let r12 ← vl x0 r11.2
 let r13 ← vl x1 r12.2
 let r14 ← ix P 9 r13.1 (.int .i64 0) r13.2
 let r15 ← xf P 102 #[r12.1, r14.1] r14.2
 let r16 ← vl r15.1 r15.2
 some (r16.1, r16.2)) (do
 let r17 ← vl (.int .i64 0) r11.2
 KE (AJ (AO #[x0, x1]) [(4, r1.1), (7, r2.1), (8, r3.1), (9, r4.1), (13, r9.1), (14, r10.1), (15, r11.1), (5, r17.1)]) r17.2))) := by kernel_rfl
theorem KG (x0 x1 : Value) (w : World) : Bv P (EV P) 79 #[x0, x1] w = (do
 let r1 ← vl (.int .i64 0) w
 let r2 ← vl x0 r1.2
 let r3 ← vl x1 r2.2
 let r4 ← EV P 60 #[r2.1, r3.1] r3.2
 let r5 ← vl r4.1 r4.2
 some (r5.1, r5.2)) := by kernel_rfl
noncomputable def A0 (e : Env) (w : World) : Option (Value × World) := BA P (EV P) 80 73 (cB (cB (cB (cB (Ae P 80))))) e w (Bc P (AB P 80))
noncomputable def Br (e : Env) (w : World) : Option (Value × World) := BA P (EV P) 80 73 (cB (cB (cB (cB (cB (cB (cB (cB (Ae P 80))))))))) e w (Bc P (AB P 80))
noncomputable def BP (e : Env) (w : World) : Option (Value × World) := BA P (EV P) 80 73 (cB (cB (cB (cB (cB (cB (cB (cB (cB (cB (cB (cB (cB (Ae P 80)))))))))))))) e w (Bc P (AB P 80))
theorem Ez (e : Env) (w : World) : A0 e w = (do
 let r1 ← vl (.int .u64 0) w
 let r2 ← vl (e 0) r1.2
 let r3 ← vl (e 1) r2.2
 let r4 ← vl (e 2) r3.2
 let r5 ← EV P 103 #[r2.1, r3.1, r4.1] r4.2
 let r6 ← vl r5.1 r5.2
 let r7 ← xt P r6.1 0 r6.2
 let r8 ← xt P r6.1 1 r7.2
 let r9 ← vl r7.1 r8.2
 let r10 ← vl r8.1 r9.2
 let r11 ← vl r10.1 r10.2
 let r12 ← bo P .neq 43 (.tmp 32) (.const Go.Value.nilIface) r11.1 Go.Value.nilIface r11.2
 let r13 ← vl r12.1 r12.2
 let r14 ← Ao r13.1 true (vl r10.1 r13.2) r13.2
 let r15 ← Ao r13.1 true (mi P 128 (.int .i64 1) r14.2) r14.2
 let r16 ← Ao r13.1 true (bo P .neq 43 (.tmp 35) (.tmp 36) r14.1 r15.1 r15.2) r15.2
 let r17 ← Ax r13.1 r16.1 (.bool false) r16.2
 AL r17.1 (do
 let r18 ← vl r10.1 r17.2
 let r19 ← vl (.int .i64 0) r18.2
 let r20 ← vl r18.1 r19.2
 some (.tuple #[r19.1, r20.1], r20.2)) (do
 let r21 ← vl (e 2) r17.2
 let r22 ← bo P .eql 3 (.tmp 40) (.const (.int .i64 0)) r21.1 (.int .i64 0) r21.2
 AL r22.1 (do
 let r23 ← vl (.int .i64 64) r22.2
 Br (AJ e [(9, r1.1), (26, r2.1), (27, r3.1), (28, r4.1), (29, r5.1), (25, r6.1), (30, r7.1), (31, r8.1), (9, r9.1), (7, r10.1), (32, r11.1), (33, r12.1), (34, r13.1), (35, r14.1), (36, r15.1), (37, r16.1), (38, r17.1), (40, r21.1), (41, r22.1), (2, r23.1)]) r23.2) (do
 Br (AJ e [(9, r1.1), (26, r2.1), (27, r3.1), (28, r4.1), (29, r5.1), (25, r6.1), (30, r7.1), (31, r8.1), (9, r9.1), (7, r10.1), (32, r11.1), (33, r12.1), (34, r13.1), (35, r14.1), (36, r15.1), (37, r16.1), (38, r17.1), (40, r21.1), (41, r22.1)]) r22.2))) := by kernel_rfl
theorem EA (e : Env) (w : World) : Br e w = (do
 let r1 ← vl (e 2) w
 let r2 ← bo P .sub 3 (.tmp 42) (.const (.int .i64 1)) r1.1 (.int .i64 1) r1.2
 let r3 ← cv P 3 126 r2.1 r2.2
 let r4 ← bo P .shl 120 (.const (.int .u64 1)) (.tmp 44) (.int .u64 1) r3.1 r3.2
 let r5 ← vl r4.1 r4.2
 let r6 ← vl (e 8) r5.2
 let r7 ← uo P .not r6.1 r6.2
 let r8 ← vl r7.1 r7.2
 let r9 ← Ao r8.1 true (vl (e 9) r8.2) r8.2
 let r10 ← Ao r8.1 true (vl r5.1 r9.2) r9.2
 let r11 ← Ao r8.1 true (bo P .geq 120 (.tmp 49) (.tmp 50) r9.1 r10.1 r10.2) r10.2
 let r12 ← Ax r8.1 r11.1 (.bool false) r11.2
 AL r12.1 (do
 let r13 ← vl r5.1 r12.2
 let r14 ← bo P .sub 120 (.tmp 53) (.const (.int .u64 1)) r13.1 (.int .u64 1) r13.2
 let r15 ← cv P 120 2 r14.1 r14.2
 let r16 ← mi P 128 (.int .i64 1) r15.2
 let r17 ← vl r15.1 r16.2
 let r18 ← vl r16.1 r17.2
 some (.tuple #[r17.1, r18.1], r18.2)) (do
 let r19 ← vl (e 8) r12.2
 let r20 ← vl r19.1 r19.2
 let r21 ← Ao r20.1 true (vl (e 9) r20.2) r20.2
 let r22 ← Ao r20.1 true (vl r5.1 r21.2) r21.2
 let r23 ← Ao r20.1 true (bo P .gtr 120 (.tmp 59) (.tmp 60) r21.1 r22.1 r22.2) r22.2
 let r24 ← Ax r20.1 r23.1 (.bool false) r23.2
 AL r24.1 (do
 let r25 ← vl r5.1 r24.2
 let r26 ← cv P 120 2 r25.1 r25.2
 let r27 ← uo P .neg r26.1 r26.2
 let r28 ← mi P 128 (.int .i64 1) r27.2
 let r29 ← vl r27.1 r28.2
 let r30 ← vl r28.1 r29.2
 some (.tuple #[r29.1, r30.1], r30.2)) (do
 let r31 ← vl (e 9) r24.2
 let r32 ← cv P 120 2 r31.1 r31.2
 let r33 ← vl r32.1 r32.2
 let r34 ← vl (e 8) r33.2
 AL r34.1 (do
 let r35 ← vl r33.1 r34.2
 let r36 ← uo P .neg r35.1 r35.2
 let r37 ← vl r36.1 r36.2
 BP (AJ e [(42, r1.1), (43, r2.1), (44, r3.1), (45, r4.1), (10, r5.1), (46, r6.1), (47, r7.1), (48, r8.1), (49, r9.1), (50, r10.1), (51, r11.1), (52, r12.1), (57, r19.1), (58, r20.1), (59, r21.1), (60, r22.1), (61, r23.1), (62, r24.1), (67, r31.1), (68, r32.1), (11, r33.1), (69, r34.1), (70, r35.1), (71, r36.1), (11, r37.1)]) r37.2) (do
 BP (AJ e [(42, r1.1), (43, r2.1), (44, r3.1), (45, r4.1), (10, r5.1), (46, r6.1), (47, r7.1), (48, r8.1), (49, r9.1), (50, r10.1), (51, r11.1), (52, r12.1), (57, r19.1), (58, r20.1), (59, r21.1), (60, r22.1), (61, r23.1), (62, r24.1), (67, r31.1), (68, r32.1), (11, r33.1), (69, r34.1)]) r34.2)))) := by kernel_rfl
theorem Ca (e : Env) (w : World) : BP e w = (do
 let r1 ← vl (e 11) w
 let r2 ← vl r1.1 r1.2
 let r3 ← vl Go.Value.nilIface r2.2
 some (.tuple #[r2.1, r3.1], r3.2)) := by kernel_rfl
theorem Fo (x0 x1 x2 : Value) (w : World) : Bv P (EV P) 80 #[x0, x1, x2] w = (do
 let r1 ← vl (.int .i64 0) w
 let r2 ← vl Go.Value.nilIface r1.2
 let r3 ← vl x0 r2.2
 let r4 ← bo P .eql 9 (.tmp 12) (.const (Go.Value.string { data := #[] })) r3.1 (Go.Value.string { data := #[] }) r3.2
 AL r4.1 (do
 let r5 ← mi P 128 (.int .i64 2) r4.2
 let r6 ← vl (.int .i64 0) r5.2
 let r7 ← vl r5.1 r6.2
 some (.tuple #[r6.1, r7.1], r7.2)) (do
 let r8 ← vl (.bool false) r4.2
 let r9 ← vl x0 r8.2
 let r10 ← ix P 9 r9.1 (.int .i64 0) r9.2
 let r11 ← bo P .eql 5 (.tmp 16) (.const (.int .u8 43)) r10.1 (.int .u8 43) r10.2
 let r12 ← vl r11.1 r11.2
 AL r12.1 (do
 let r13 ← vl x0 r12.2
 let r14 ← sl P 9 r13.1 (some (.int .i64 1)) none none r13.2
 let r15 ← vl r14.1 r14.2
 A0 (AJ (AO #[x0, x1, x2]) [(6, r1.1), (7, r2.1), (12, r3.1), (13, r4.1), (8, r8.1), (15, r9.1), (16, r10.1), (18, r11.1), (17, r12.1), (19, r13.1), (20, r14.1), (0, r15.1)]) r15.2) (do
 let r16 ← bo P .eql 5 (.tmp 16) (.const (.int .u8 45)) r10.1 (.int .u8 45) r12.2
 let r17 ← vl r16.1 r16.2
 AL r17.1 (do
 let r18 ← vl x0 r17.2
 let r19 ← sl P 9 r18.1 (some (.int .i64 1)) none none r18.2
 let r20 ← vl r19.1 r19.2
 let r21 ← vl (.bool true) r20.2
 A0 (AJ (AO #[x0, x1, x2]) [(6, r1.1), (7, r2.1), (12, r3.1), (13, r4.1), (8, r8.1), (15, r9.1), (16, r10.1), (18, r11.1), (17, r12.1), (22, r16.1), (21, r17.1), (23, r18.1), (24, r19.1), (0, r20.1), (8, r21.1)]) r21.2) (do
 A0 (AJ (AO #[x0, x1, x2]) [(6, r1.1), (7, r2.1), (12, r3.1), (13, r4.1), (8, r8.1), (15, r9.1), (16, r10.1), (18, r11.1), (17, r12.1), (22, r16.1), (21, r17.1)]) r17.2)))) := by kernel_rfl
theorem HA (x0 x1 : Value) (w : World) : Bv P (EV P) 81 #[x0, x1] w = (do
 let r1 ← vl (Go.Value.pointer none) w
 Ah (vl x0) (dw r1.2) fun r3 => do
 Ah (vl x1) (dw r1.2) fun r4 => do
 Ah (ld P 43 (.pointer (some ⟨2, 0, none⟩))) (dw r1.2) fun r5 => do
 let r6 ← EV P 104 #[r4.1] (dw r1.2)
 AG (ld P 43 (.pointer (some ⟨2, 0, none⟩)) r6.2 = some (r5.1, r6.2) ∧ True) <| do
 Ah (bd P 152 #[(0, r3.1), (1, r6.1), (2, r5.1)]) r6.2 fun r7 => do
 let r8 ← bx P 152 r7.1 r6.2
 AG qt3 <| do
 Ah (vl r8.1) r8.2 fun r9 => do
 some (r9.1, r8.2)) := by kernel_rfl
theorem HW (x0 x1 : Value) (w : World) : Bv P (EV P) 82 #[x0, x1] w = (do
 let r1 ← vl (Go.Value.pointer none) w
 Ah (vl x0) (dw r1.2) fun r3 => do
 Ah (vl x1) (dw r1.2) fun r4 => do
 Ah (ld P 43 (.pointer (some ⟨3, 0, none⟩))) (dw r1.2) fun r5 => do
 let r6 ← EV P 104 #[r4.1] (dw r1.2)
 AG (ld P 43 (.pointer (some ⟨3, 0, none⟩)) r6.2 = some (r5.1, r6.2) ∧ True) <| do
 Ah (bd P 152 #[(0, r3.1), (1, r6.1), (2, r5.1)]) r6.2 fun r7 => do
 let r8 ← bx P 152 r7.1 r6.2
 AG qt3 <| do
 Ah (vl r8.1) r8.2 fun r9 => do
 some (r9.1, r8.2)) := by kernel_rfl
noncomputable def BT (e : Env) (w : World) : Option (Value × World) := BA P (EV P) 85 106 (cB (cA (cB (cA (cB (cB (Ae P 85))))))) e w (Am 0 (AE P (EV P) 85 106 (cB (cB (cB (Ae P 85)))) (Bc P (AB P 85))))
noncomputable def Ch (e : Env) (w : World) : Option (Value × World) := BA P (EV P) 85 106 (cB (cB (cB (cB (cB (cA (cB (cA (cB (cB (Ae P 85))))))))))) e w (Am 0 (AE P (EV P) 85 106 (cB (cB (cB (Ae P 85)))) (Bc P (AB P 85))))
noncomputable def Ci (e : Env) (w : World) : Option (Value × World) := BA P (EV P) 85 106 (cB (cB (cB (cB (cB (cB (cB (cA (cB (cA (cB (cB (Ae P 85))))))))))))) e w (Am 0 (AE P (EV P) 85 106 (cB (cB (cB (Ae P 85)))) (Bc P (AB P 85))))
noncomputable def Cj (e : Env) (w : World) : Option (Value × World) := BA P (EV P) 85 106 (cB (cB (cB (cB (cB (cB (cB (cB (cB (cB (cB (cA (cB (cA (cB (cB (Ae P 85))))))))))))))))) e w (Am 0 (AE P (EV P) 85 106 (cB (cB (cB (Ae P 85)))) (Bc P (AB P 85))))
noncomputable def CV (e : Env) (w : World) : Option (Value × World) := BA P (EV P) 85 106 (cB (cB (cB (cB (cB (cB (cB (cB (cB (cB (cB (cB (cB (cB (cB (cA (cB (cA (cB (cB (Ae P 85))))))))))))))))))))) e w (Am 0 (AE P (EV P) 85 106 (cB (cB (cB (Ae P 85)))) (Bc P (AB P 85))))
noncomputable def CW (e : Env) (w : World) : Option (Value × World) := BA P (EV P) 85 106 (cB (cB (cB (cB (cB (cB (cB (cB (cB (cB (cB (cB (cB (cB (cB (cB (cB (cA (cB (cA (cB (cB (Ae P 85))))))))))))))))))))))) e w (Am 0 (AE P (EV P) 85 106 (cB (cB (cB (Ae P 85)))) (Bc P (AB P 85))))
theorem IP (e : Env) (w : World) : BT e w = (do
 AL (e 11) (do
 let r1 ← vl (e 0) w
 let r2 ← EV P 25 #[r1.1, (.int .i64 4)] r1.2
 let r3 ← vl (e 0) r2.2
 let r4 ← EV P 25 #[r3.1, (.int .i64 4)] r3.2
 let r5 ← vl (e 0) r4.2
 let r6 ← EV P 106 #[r5.1] r5.2
 let r7 ← bd P 118 #[(0, (.int .i64 1)), (1, r2.1), (3, r4.1), (4, r6.1)] r6.2
 let r8 ← st P 118 (e 4) r7.1 r7.2
 let v10 ← (ld P 118 (e 4) r8.2).bind fun r9 => AG (r9.2 = r8.2) (some r9.1)
 some (v10, r8.2)) (do
 let r11 ← bo P .eql 3 (.tmp 10) (.const (.int .i64 3)) (e 10) (.int .i64 3) w
 let r12 ← vl r11.1 r11.2
 AL r12.1 (do
 let r13 ← vl (e 0) r12.2
 let r14 ← EV P 25 #[r13.1, (.int .i64 4)] r13.2
 let r15 ← vl (e 0) r14.2
 let r16 ← EV P 25 #[r15.1, (.int .i64 4)] r15.2
 let r17 ← bd P 118 #[(0, (.int .i64 1)), (1, r14.1), (3, r16.1), (5, (.bool true))] r16.2
 let r18 ← st P 118 (e 4) r17.1 r17.2
 let v20 ← (ld P 118 (e 4) r18.2).bind fun r19 => AG (r19.2 = r18.2) (some r19.1)
 some (v20, r18.2)) (do
 let r21 ← bo P .eql 3 (.tmp 10) (.const (.int .i64 4)) (e 10) (.int .i64 4) r12.2
 let r22 ← vl r21.1 r21.2
 AL r22.1 (do
 Ch (AJ e [(23, r11.1), (22, r12.1), (30, r21.1), (29, r22.1)]) r22.2) (do
 let r23 ← bo P .eql 3 (.tmp 10) (.const (.int .i64 5)) (e 10) (.int .i64 5) r22.2
 let r24 ← vl r23.1 r23.2
 AL r24.1 (do
 Ch (AJ e [(23, r11.1), (22, r12.1), (30, r21.1), (29, r22.1), (31, r23.1), (29, r24.1)]) r24.2) (do
 let r25 ← bo P .eql 3 (.tmp 10) (.const (.int .i64 6)) (e 10) (.int .i64 6) r24.2
 let r26 ← vl r25.1 r25.2
 Ch (AJ e [(23, r11.1), (22, r12.1), (30, r21.1), (29, r22.1), (31, r23.1), (29, r24.1), (32, r25.1), (29, r26.1)]) r26.2))))) := by kernel_rfl
theorem IQ (e : Env) (w : World) : Ch e w = (do
 AL (e 29) (do
 let r1 ← vl (e 0) w
 let r2 ← EV P 25 #[r1.1, (.int .i64 4)] r1.2
 let r3 ← bd P 118 #[(0, (.int .i64 2)), (1, r2.1)] r2.2
 let r4 ← st P 118 (e 4) r3.1 r3.2
 let v6 ← (ld P 118 (e 4) r4.2).bind fun r5 => AG (r5.2 = r4.2) (some r5.1)
 some (v6, r4.2)) (do
 let r7 ← bo P .eql 3 (.tmp 10) (.const (.int .i64 7)) (e 10) (.int .i64 7) w
 let r8 ← vl r7.1 r7.2
 AL r8.1 (do
 Ci (AJ e [(37, r7.1), (36, r8.1)]) r8.2) (do
 let r9 ← bo P .eql 3 (.tmp 10) (.const (.int .i64 8)) (e 10) (.int .i64 8) r8.2
 let r10 ← vl r9.1 r9.2
 AL r10.1 (do
 Ci (AJ e [(37, r7.1), (36, r8.1), (38, r9.1), (36, r10.1)]) r10.2) (do
 let r11 ← bo P .eql 3 (.tmp 10) (.const (.int .i64 9)) (e 10) (.int .i64 9) r10.2
 let r12 ← vl r11.1 r11.2
 Ci (AJ e [(37, r7.1), (36, r8.1), (38, r9.1), (36, r10.1), (39, r11.1), (36, r12.1)]) r12.2)))) := by kernel_rfl
theorem IU (e : Env) (w : World) : Ci e w = (do
 AL (e 36) (do
 let r1 ← vl (e 0) w
 let r2 ← EV P 25 #[r1.1, (.int .i64 4)] r1.2
 let r3 ← vl (e 0) r2.2
 let r4 ← EV P 25 #[r3.1, (.int .i64 4)] r3.2
 let r5 ← vl (e 0) r4.2
 let r6 ← EV P 25 #[r5.1, (.int .i64 4)] r5.2
 let r7 ← bd P 118 #[(0, (.int .i64 3)), (1, r2.1), (2, r4.1), (3, r6.1)] r6.2
 let r8 ← st P 118 (e 4) r7.1 r7.2
 let v10 ← (ld P 118 (e 4) r8.2).bind fun r9 => AG (r9.2 = r8.2) (some r9.1)
 some (v10, r8.2)) (do
 let r11 ← bo P .eql 3 (.tmp 10) (.const (.int .i64 10)) (e 10) (.int .i64 10) w
 let r12 ← vl r11.1 r11.2
 AL r12.1 (do
 let r13 ← vl (e 0) r12.2
 let r14 ← bs P 87 2 #[(0, (.int .i64 4)), (1, (.int .i64 5))] r13.2
 let r15 ← EV P 54 #[r13.1, r14.1] r14.2
 let r16 ← vl (e 0) r15.2
 let r17 ← EV P 25 #[r16.1, (.int .i64 4)] r16.2
 let r18 ← vl (e 0) r17.2
 let r19 ← EV P 25 #[r18.1, (.int .i64 3)] r18.2
 let r20 ← bd P 118 #[(0, r15.1), (1, r17.1), (2, r19.1)] r19.2
 let r21 ← st P 118 (e 4) r20.1 r20.2
 let v23 ← (ld P 118 (e 4) r21.2).bind fun r22 => AG (r22.2 = r21.2) (some r22.1)
 some (v23, r21.2)) (do
 let r24 ← bo P .eql 3 (.tmp 10) (.const (.int .i64 11)) (e 10) (.int .i64 11) r12.2
 let r25 ← vl r24.1 r24.2
 AL r25.1 (do
 Cj (AJ e [(48, r11.1), (47, r12.1), (58, r24.1), (57, r25.1)]) r25.2) (do
 let r26 ← bo P .eql 3 (.tmp 10) (.const (.int .i64 12)) (e 10) (.int .i64 12) r25.2
 let r27 ← vl r26.1 r26.2
 AL r27.1 (do
 Cj (AJ e [(48, r11.1), (47, r12.1), (58, r24.1), (57, r25.1), (59, r26.1), (57, r27.1)]) r27.2) (do
 let r28 ← bo P .eql 3 (.tmp 10) (.const (.int .i64 13)) (e 10) (.int .i64 13) r27.2
 let r29 ← vl r28.1 r28.2
 Cj (AJ e [(48, r11.1), (47, r12.1), (58, r24.1), (57, r25.1), (59, r26.1), (57, r27.1), (60, r28.1), (57, r29.1)]) r29.2))))) := by kernel_rfl
theorem IV (e : Env) (w : World) : Cj e w = (do
 AL (e 57) (do
 let r1 ← vl (e 5) w
 let r2 ← vl (e 0) r1.2
 let r3 ← bs P 87 4 #[(0, (.int .i64 0)), (1, (.int .i64 0)), (2, (.int .i64 1)), (3, (.int .i64 2))] r2.2
 let r4 ← EV P 54 #[r2.1, r3.1] r3.2
 let r5 ← bd P 118 #[(0, (.int .i64 6)), (1, r1.1), (2, r4.1)] r4.2
 let r6 ← st P 118 (e 4) r5.1 r5.2
 let v8 ← (ld P 118 (e 4) r6.2).bind fun r7 => AG (r7.2 = r6.2) (some r7.1)
 some (v8, r6.2)) (do
 let r9 ← bo P .eql 3 (.tmp 10) (.const (.int .i64 14)) (e 10) (.int .i64 14) w
 let r10 ← vl r9.1 r9.2
 AL r10.1 (do
 let r11 ← vl (e 0) r10.2
 let r12 ← bs P 87 2 #[(0, (.int .i64 7)), (1, (.int .i64 8))] r11.2
 let r13 ← EV P 54 #[r11.1, r12.1] r12.2
 let r14 ← vl (e 5) r13.2
 let r15 ← vl (e 0) r14.2
 let r16 ← EV P 25 #[r15.1, (.int .i64 4)] r15.2
 let r17 ← bd P 118 #[(0, r13.1), (1, r14.1), (2, r16.1)] r16.2
 let r18 ← st P 118 (e 4) r17.1 r17.2
 let v20 ← (ld P 118 (e 4) r18.2).bind fun r19 => AG (r19.2 = r18.2) (some r19.1)
 some (v20, r18.2)) (do
 let r21 ← bo P .eql 3 (.tmp 10) (.const (.int .i64 15)) (e 10) (.int .i64 15) r10.2
 let r22 ← vl r21.1 r21.2
 AL r22.1 (do
 CV (AJ e [(67, r9.1), (66, r10.1), (76, r21.1), (75, r22.1)]) r22.2) (do
 let r23 ← bo P .eql 3 (.tmp 10) (.const (.int .i64 16)) (e 10) (.int .i64 16) r22.2
 let r24 ← vl r23.1 r23.2
 CV (AJ e [(67, r9.1), (66, r10.1), (76, r21.1), (75, r22.1), (77, r23.1), (75, r24.1)]) r24.2)))) := by kernel_rfl
theorem IW (e : Env) (w : World) : CV e w = (do
 AL (e 75) (do
 let r1 ← vl (e 5) w
 let r2 ← vl (e 0) r1.2
 let r3 ← EV P 25 #[r2.1, (.int .i64 3)] r2.2
 let r4 ← bd P 118 #[(0, (.int .i64 9)), (1, r1.1), (2, r3.1)] r3.2
 let r5 ← st P 118 (e 4) r4.1 r4.2
 let v7 ← (ld P 118 (e 4) r5.2).bind fun r6 => AG (r6.2 = r5.2) (some r6.1)
 some (v7, r5.2)) (do
 let r8 ← bo P .eql 3 (.tmp 10) (.const (.int .i64 17)) (e 10) (.int .i64 17) w
 let r9 ← vl r8.1 r8.2
 AL r9.1 (do
 CW (AJ e [(83, r8.1), (82, r9.1)]) r9.2) (do
 let r10 ← bo P .eql 3 (.tmp 10) (.const (.int .i64 18)) (e 10) (.int .i64 18) r9.2
 let r11 ← vl r10.1 r10.2
 CW (AJ e [(83, r8.1), (82, r9.1), (84, r10.1), (82, r11.1)]) r11.2))) := by kernel_rfl
theorem IX (e : Env) (w : World) : CW e w = (do
 AL (e 82) (do
 let r1 ← vl (e 0) w
 let r2 ← EV P 25 #[r1.1, (.int .i64 3)] r1.2
 let r3 ← vl r2.1 r2.2
 let r4 ← vl (e 5) r3.2
 let r5 ← vl r3.1 r4.2
 let r6 ← fa P 67 (e 3) 0 r5.2
 let r7 ← ld P 63 r6.1 r6.2
 let r8 ← vl r3.1 r7.2
 let r9 ← ia P 63 r7.1 r8.1 r8.2
 let r10 ← fa P 102 r9.1 4 r9.2
 let r11 ← ld P 100 r10.1 r10.2
 let r12 ← vl (e 5) r11.2
 let r13 ← ia P 100 r11.1 r12.1 r12.2
 let r14 ← ld P 99 r13.1 r13.2
 let r15 ← Au P #[99] 3 #[r14.1] r14.2
 let r16 ← bd P 118 #[(0, (.int .i64 10)), (1, r4.1), (2, r5.1), (3, r15.1)] r15.2
 let r17 ← st P 118 (e 4) r16.1 r16.2
 let v19 ← (ld P 118 (e 4) r17.2).bind fun r18 => AG (r18.2 = r17.2) (some r18.1)
 some (v19, r17.2)) (do
 let r20 ← vl (e 0) w
 let r21 ← bs P 87 7 #[(0, (.int .i64 11)), (1, (.int .i64 11)), (2, (.int .i64 11)), (3, (.int .i64 12)), (4, (.int .i64 13)), (5, (.int .i64 0)), (6, (.int .i64 14))] r20.2
 let r22 ← EV P 54 #[r20.1, r21.1] r21.2
 let r23 ← vl (e 0) r22.2
 let r24 ← EV P 25 #[r23.1, (.int .i64 3)] r23.2
 let r25 ← bd P 118 #[(0, r22.1), (1, r24.1)] r24.2
 let r26 ← st P 118 (e 4) r25.1 r25.2
 let v28 ← (ld P 118 (e 4) r26.2).bind fun r27 => AG (r27.2 = r26.2) (some r27.1)
 some (v28, r26.2))) := by kernel_rfl
theorem KH (x0 x1 : Value) (w : World) : Bv P (EV P) 85 #[x0, x1] w = (do
 let r1 ← bx P 67 x1 w
 let r2 ← al P 118 r1.2
 let r3 ← vl x0 r2.2
 let r4 ← EV P 25 #[r3.1, (.int .i64 3)] r3.2
 let r5 ← vl r4.1 r4.2
 let r6 ← vl x0 r5.2
 let r7 ← EV P 25 #[r6.1, (.int .i64 20)] r6.2
 let r8 ← bo P .eql 3 (.tmp 10) (.const (.int .i64 0)) r7.1 (.int .i64 0) r7.2
 let r9 ← vl r8.1 r8.2
 AL r9.1 (do
 BT (AJ (AO #[x0, x1]) [(3, r1.1), (4, r2.1), (7, r3.1), (8, r4.1), (5, r5.1), (9, r6.1), (10, r7.1), (12, r8.1), (11, r9.1)]) r9.2) (do
 let r10 ← bo P .eql 3 (.tmp 10) (.const (.int .i64 1)) r7.1 (.int .i64 1) r9.2
 let r11 ← vl r10.1 r10.2
 AL r11.1 (do
 BT (AJ (AO #[x0, x1]) [(3, r1.1), (4, r2.1), (7, r3.1), (8, r4.1), (5, r5.1), (9, r6.1), (10, r7.1), (12, r8.1), (11, r9.1), (13, r10.1), (11, r11.1)]) r11.2) (do
 let r12 ← bo P .eql 3 (.tmp 10) (.const (.int .i64 2)) r7.1 (.int .i64 2) r11.2
 let r13 ← vl r12.1 r12.2
 BT (AJ (AO #[x0, x1]) [(3, r1.1), (4, r2.1), (7, r3.1), (8, r4.1), (5, r5.1), (9, r6.1), (10, r7.1), (12, r8.1), (11, r9.1), (13, r10.1), (11, r11.1), (14, r12.1), (11, r13.1)]) r13.2))) := by kernel_rfl
end Go.Proofs.YtkhbpmhagpljiaaGreatDoor.X
