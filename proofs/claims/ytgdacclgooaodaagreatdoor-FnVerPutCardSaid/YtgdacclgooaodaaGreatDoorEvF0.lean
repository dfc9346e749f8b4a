/- A part of the proof: an evaluator of the model, its laws, and contracts of functions; no condition. -/
import Derived.Test.YtgdacclgooaodaaGreatDoorEvT
set_option linter.unusedVariables false
set_option maxRecDepth 100000
namespace Go.Proofs.YtgdacclgooaodaaGreatDoor.X
open Go Go.Ev
noncomputable def laws_FnVerPut_l1 (e : Env) (w : World) : Option (Value × World) := exC P (EV P) 4 73 (.loop (cA (cA (cB (cA (cB (cB (cB (cB (cB (bodyOf P 4))))))))))) e w (kBlock 0 (kSeq P (EV P) 4 73 (cB (cB (cB (cB (cB (cB (bodyOf P 4))))))) (kFn P (fnOf P 4))))
theorem laws_FnVerPut_l1_eq (e : Env) (w : World) : laws_FnVerPut_l1 e w =
 (vl (e 5) w).bind fun r1 =>
 (bo P .lss 3 (.tmp 48) (.const (.int .i64 4)) r1.1 (.int .i64 4) r1.2).bind fun r2 =>
 cnd r2.1 (
 (fa P 28 (e 3) 2 (dw r2.2)).bind fun r4 =>
 ifP (r4.2 = (dw r2.2)) <|
 (fa P 26 r4.1 0 (dw r2.2)).bind fun r5 =>
 ifP (r5.2 = (dw r2.2)) <|
 (ld P 24 r5.1 (dw r2.2)).bind fun r6 =>
 ifP (r6.2 = (dw r2.2)) <|
 (vl (e 5) (dw r2.2)).bind fun r7 =>
 ifP (r7.2 = (dw r2.2)) <|
 (ia P 24 r6.1 r7.1 (dw r2.2)).bind fun r8 =>
 ifP (r8.2 = (dw r2.2)) <|
 (ld P 23 r8.1 (dw r2.2)).bind fun r9 =>
 ifP (r9.2 = (dw r2.2)) <|
 (fa P 28 (e 3) 1 (dw r2.2)).bind fun r10 =>
 ifP (r10.2 = (dw r2.2)) <|
 (ld P 23 r10.1 (dw r2.2)).bind fun r11 =>
 ifP (r11.2 = (dw r2.2)) <|
 (EV P 16 #[r9.1, r11.1] (dw r2.2)).bind fun r12 =>
 ifP (True ∧ True ∧ True ∧ True ∧ True ∧ True ∧ True ∧ True) <|
 (uo P .not r12.1 r12.2).bind fun r13 =>
 ifP (r13.2 = r12.2) <|
 cnd r13.1 (
 (vl (.bool false) r12.2).bind fun r14 =>
 some (r14.1, r14.2)) (
 (vl (e 5) r12.2).bind fun r15 =>
 (bo P .add 3 (.tmp 50) (.const (.int .i64 1)) r15.1 (.int .i64 1) r15.2).bind fun r16 =>
 (vl r16.1 r16.2).bind fun r17 =>
 laws_FnVerPut_l1 (ups e [(48, r1.1), (49, r2.1), (52, r4.1), (53, r5.1), (54, r6.1), (55, r7.1), (56, r8.1), (57, r9.1), (58, r10.1), (59, r11.1), (60, r12.1), (61, r13.1), (50, r15.1), (51, r16.1), (5, r17.1)]) r17.2)) (
 (vl (e 4) r2.2).bind fun r18 =>
 (EV P 7 #[r18.1] r18.2).bind fun r19 =>
 (vl r19.1 r19.2).bind fun r20 =>
 (xt P r20.1 0 r20.2).bind fun r21 =>
 (xt P r20.1 1 r21.2).bind fun r22 =>
 (al P 28 r22.2).bind fun r23 =>
 (st P 28 r23.1 r21.1 r23.2).bind fun r24 =>
 (vl r22.1 r24.2).bind fun r25 =>
 (vl r25.1 r25.2).bind fun r26 =>
 (vl r26.1 r26.2).bind fun r27 =>
 (gif r27.1 true (ld P 28 r23.1 r27.2) r27.2).bind fun r28 =>
 (gif r27.1 true (ld P 28 (e 3) r28.2) r28.2).bind fun r29 =>
 (gif r27.1 true (EV P 17 #[r28.1, r29.1] r29.2) r29.2).bind fun r30 =>
 (pickV r27.1 r30.1 (.bool false) r30.2).bind fun r31 =>
 (vl r31.1 r31.2).bind fun r32 =>
 some (r32.1, r32.2)) := (exC_loop P (EV P) 4 73 (cA (cA (cB (cA (cB (cB (cB (cB (cB (bodyOf P 4)))))))))) e w (kBlock 0 (kSeq P (EV P) 4 73 (cB (cB (cB (cB (cB (cB (bodyOf P 4))))))) (kFn P (fnOf P 4))))).trans (by kernel_rfl)
theorem laws_FnVerPut_fn (x0 : Value) (w : World) : fnC P (EV P) 4 #[x0] w =
 (vl (.bool false) w).bind fun r1 =>
 (vl x0 r1.2).bind fun r2 =>
 (b_len P #[34] 3 #[r2.1] r2.2).bind fun r3 =>
 (bo P .gtr 3 (.tmp 9) (.const (.int .i64 1048576)) r3.1 (.int .i64 1048576) r3.2).bind fun r4 =>
 cnd r4.1 (
 (vl (.bool true) r4.2).bind fun r5 =>
 some (r5.1, r5.2)) (
 (vl x0 r4.2).bind fun r6 =>
 (EV P 11 #[r6.1] r6.2).bind fun r7 =>
 (al P 28 r7.2).bind fun r8 =>
 (st P 28 r8.1 r7.1 r8.2).bind fun r9 =>
 (ld P 28 r8.1 r9.2).bind fun r10 =>
 (EV P 12 #[r10.1] r10.2).bind fun r11 =>
 (vl r11.1 r11.2).bind fun r12 =>
 (vl r12.1 (dw r12.2)).bind fun r14 =>
 ifP (r14.2 = (dw r12.2)) <|
 (ld P 28 r8.1 (dw r12.2)).bind fun r15 =>
 ifP (r15.2 = (dw r12.2)) <|
 (EV P 13 #[r15.1] (dw r12.2)).bind fun r16 =>
 ifP (True ∧ True) <|
 (bo P .neq 9 (.tmp 15) (.tmp 17) r14.1 r16.1 r16.2).bind fun r17 =>
 ifP (r17.2 = r16.2) <|
 (vl r17.1 r16.2).bind fun r18 =>
 ifP (r18.2 = r16.2) <|
 (gif r18.1 false (vl r12.1 r16.2) r16.2).bind fun r19 =>
 ifP (r19.2 = r16.2) <|
 (gif r18.1 false (bo P .neq 9 (.tmp 20) (.const (Go.Value.string { data := #[] })) r19.1 (Go.Value.string { data := #[] }) r16.2) r16.2).bind fun r20 =>
 ifP (r20.2 = r16.2) <|
 (gif r18.1 false (ld P 28 r8.1 r16.2) r16.2).bind fun r21 =>
 ifP (r21.2 = r16.2) <|
 (gif r18.1 false (EV P 14 #[r21.1] r16.2) r16.2).bind fun r22 =>
 ifP (True ∧ gif r18.1 false (bo P .neq 9 (.tmp 20) (.const (Go.Value.string { data := #[] })) r19.1 (Go.Value.string { data := #[] }) r22.2) r22.2 = some (r20.1, r22.2) ∧ True ∧ True ∧ True) <|
 (gif r18.1 false (bo P .neq 4 (.tmp 21) (.tmp 23) r20.1 r22.1 r22.2) r22.2).bind fun r23 =>
 ifP (r23.2 = r22.2) <|
 (pickV r18.1 (.bool true) r23.1 r22.2).bind fun r24 =>
 ifP (r24.2 = r22.2) <|
 (vl r24.1 r22.2).bind fun r25 =>
 ifP (r25.2 = r22.2) <|
 (gif r25.1 false (ld P 28 r8.1 r22.2) r22.2).bind fun r26 =>
 ifP (r26.2 = r22.2) <|
 (gif r25.1 false (ld P 28 r8.1 r22.2) r22.2).bind fun r27 =>
 ifP (r27.2 = r22.2) <|
 (gif r25.1 false (EV P 14 #[r26.1] r22.2) r22.2).bind fun r28 =>
 ifP (gif r25.1 false (ld P 28 r8.1 r28.2) r28.2 = some (r27.1, r28.2) ∧ True ∧ True ∧ True ∧ True ∧ True ∧ True ∧ True) <|
 (gif r25.1 false (EV P 15 #[r27.1] r28.2) r28.2).bind fun r29 =>
 ifP (True ∧ True ∧ True ∧ True ∧ True ∧ True ∧ True ∧ True) <|
 (gif r25.1 false (bo P .neq 4 (.tmp 28) (.tmp 30) r28.1 r29.1 r29.2) r29.2).bind fun r30 =>
 ifP (r30.2 = r29.2) <|
 (pickV r25.1 (.bool true) r30.1 r29.2).bind fun r31 =>
 ifP (r31.2 = r29.2) <|
 (vl r31.1 r29.2).bind fun r32 =>
 ifP (r32.2 = r29.2) <|
 (gif r32.1 false (vl r12.1 r29.2) r29.2).bind fun r33 =>
 ifP (r33.2 = r29.2) <|
 (gif r32.1 false (bo P .eql 9 (.tmp 34) (.const (Go.Value.string { data := #[] })) r33.1 (Go.Value.string { data := #[] }) r29.2) r29.2).bind fun r34 =>
 ifP (r34.2 = r29.2) <|
 (pickV r32.1 (.bool true) r34.1 r29.2).bind fun r35 =>
 ifP (r35.2 = r29.2) <|
 cnd r35.1 (
 (vl r12.1 r29.2).bind fun r36 =>
 (ld P 28 r8.1 r36.2).bind fun r37 =>
 (EV P 13 #[r37.1] r37.2).bind fun r38 =>
 (bo P .eql 9 (.tmp 37) (.tmp 39) r36.1 r38.1 r38.2).bind fun r39 =>
 (vl r39.1 r39.2).bind fun r40 =>
 (gif r40.1 true (vl r12.1 r40.2) r40.2).bind fun r41 =>
 (gif r40.1 true (bo P .neq 9 (.tmp 42) (.const (Go.Value.string { data := #[] })) r41.1 (Go.Value.string { data := #[] }) r41.2) r41.2).bind fun r42 =>
 (gif r40.1 true (ld P 28 r8.1 r42.2) r42.2).bind fun r43 =>
 (gif r40.1 true (EV P 14 #[r43.1] r43.2) r43.2).bind fun r44 =>
 (gif r40.1 true (bo P .eql 4 (.tmp 43) (.tmp 45) r42.1 r44.1 r44.2) r44.2).bind fun r45 =>
 (pickV r40.1 r45.1 (.bool false) r45.2).bind fun r46 =>
 (vl r46.1 r46.2).bind fun r47 =>
 some (r47.1, r47.2)) (
 (vl (.int .i64 0) r29.2).bind fun r48 =>
 laws_FnVerPut_l1 (ups (env0 #[x0]) [(2, r1.1), (8, r2.1), (9, r3.1), (10, r4.1), (11, r6.1), (12, r7.1), (3, r8.1), (13, r10.1), (14, r11.1), (4, r12.1), (15, r14.1), (16, r15.1), (17, r16.1), (18, r17.1), (19, r18.1), (20, r19.1), (21, r20.1), (22, r21.1), (23, r22.1), (24, r23.1), (25, r24.1), (26, r25.1), (27, r26.1), (29, r27.1), (28, r28.1), (30, r29.1), (31, r30.1), (32, r31.1), (33, r32.1), (34, r33.1), (35, r34.1), (36, r35.1), (5, r48.1)]) r48.2)) := by kernel_rfl
theorem impl_VerGet_fn (x0 : Value) (w : World) : fnC P (EV P) 7 #[x0] w =
 (al P 28 w).bind fun r1 =>
 (vl (.bool false) r1.2).bind fun r2 =>
 (vl x0 r2.2).bind fun r3 =>
 (EV P 23 #[r3.1, (Go.Value.string { data := #[32] })] r3.2).bind fun r4 =>
 (vl r4.1 r4.2).bind fun r5 =>
 (vl r5.1 r5.2).bind fun r6 =>
 (b_len P #[41] 3 #[r6.1] r6.2).bind fun r7 =>
 (bo P .neq 3 (.tmp 15) (.const (.int .i64 7)) r7.1 (.int .i64 7) r7.2).bind fun r8 =>
 cnd r8.1 (
 (bd P 28 #[] r8.2).bind fun r9 =>
 (st P 28 r1.1 r9.1 r9.2).bind fun r10 =>
 (vl (.bool false) r10.2).bind fun r11 =>
 ((ld P 28 r1.1 r11.2).bind fun r12 => ifP (r12.2 = r11.2) (some r12.1)).bind fun v13 =>
 some (.tuple #[v13, r11.1], r11.2)) (
 (vl r5.1 r8.2).bind fun r14 =>
 (ia P 41 r14.1 (.int .i64 0) r14.2).bind fun r15 =>
 (ld P 9 r15.1 r15.2).bind fun r16 =>
 (EV P 24 #[r16.1] r16.2).bind fun r17 =>
 (vl r17.1 r17.2).bind fun r18 =>
 (xt P r18.1 0 r18.2).bind fun r19 =>
 (xt P r18.1 1 r19.2).bind fun r20 =>
 (vl r19.1 r20.2).bind fun r21 =>
 (vl r20.1 r21.2).bind fun r22 =>
 (vl r5.1 r22.2).bind fun r23 =>
 (ia P 41 r23.1 (.int .i64 1) r23.2).bind fun r24 =>
 (ld P 9 r24.1 r24.2).bind fun r25 =>
 (EV P 25 #[r25.1] r25.2).bind fun r26 =>
 (vl r26.1 r26.2).bind fun r27 =>
 (xt P r27.1 0 r27.2).bind fun r28 =>
 (xt P r27.1 1 r28.2).bind fun r29 =>
 (al P 23 r29.2).bind fun r30 =>
 (st P 23 r30.1 r28.1 r30.2).bind fun r31 =>
 (vl r29.1 r31.2).bind fun r32 =>
 (vl r5.1 r32.2).bind fun r33 =>
 (sl P 41 r33.1 (some (.int .i64 2)) (some (.int .i64 6)) none r33.2).bind fun r34 =>
 (EV P 26 #[r34.1] r34.2).bind fun r35 =>
 (vl r35.1 r35.2).bind fun r36 =>
 (xt P r36.1 0 r36.2).bind fun r37 =>
 (xt P r36.1 1 r37.2).bind fun r38 =>
 (al P 26 r38.2).bind fun r39 =>
 (st P 26 r39.1 r37.1 r39.2).bind fun r40 =>
 (vl r38.1 r40.2).bind fun r41 =>
 (vl r21.1 r41.2).bind fun r42 =>
 (ld P 23 r30.1 r42.2).bind fun r43 =>
 (ld P 26 r39.1 r43.2).bind fun r44 =>
 (bd P 28 #[(0, r42.1), (1, r43.1), (2, r44.1)] r44.2).bind fun r45 =>
 (al P 28 r45.2).bind fun r46 =>
 (st P 28 r46.1 r45.1 r46.2).bind fun r47 =>
 (vl r22.1 r47.2).bind fun r48 =>
 (bo P .neq 46 (.tmp 42) (.const Go.Value.nilIface) r48.1 Go.Value.nilIface r48.2).bind fun r49 =>
 (vl r49.1 r49.2).bind fun r50 =>
 (gif r50.1 false (vl r32.1 r50.2) r50.2).bind fun r51 =>
 (gif r50.1 false (uo P .not r51.1 r51.2) r51.2).bind fun r52 =>
 (pickV r50.1 (.bool true) r52.1 r52.2).bind fun r53 =>
 (vl r53.1 r53.2).bind fun r54 =>
 (gif r54.1 false (vl r41.1 r54.2) r54.2).bind fun r55 =>
 (gif r54.1 false (uo P .not r55.1 r55.2) r55.2).bind fun r56 =>
 (pickV r54.1 (.bool true) r56.1 r56.2).bind fun r57 =>
 (vl r57.1 r57.2).bind fun r58 =>
 (gif r58.1 false (vl r5.1 r58.2) r58.2).bind fun r59 =>
 (gif r58.1 false (ia P 41 r59.1 (.int .i64 6) r59.2) r59.2).bind fun r60 =>
 (gif r58.1 false (ld P 9 r60.1 r60.2) r60.2).bind fun r61 =>
 (gif r58.1 false (EV P 27 #[r46.1, r61.1] r61.2) r61.2).bind fun r62 =>
 (gif r58.1 false (uo P .not r62.1 r62.2) r62.2).bind fun r63 =>
 (pickV r58.1 (.bool true) r63.1 r63.2).bind fun r64 =>
 (vl r64.1 r64.2).bind fun r65 =>
 (gif r65.1 false (ld P 28 r46.1 r65.2) r65.2).bind fun r66 =>
 (gif r65.1 false (EV P 14 #[r66.1] r66.2) r66.2).bind fun r67 =>
 (gif r65.1 false (uo P .not r67.1 r67.2) r67.2).bind fun r68 =>
 (pickV r65.1 (.bool true) r68.1 r68.2).bind fun r69 =>
 (vl r69.1 r69.2).bind fun r70 =>
 (gif r70.1 false (ld P 28 r46.1 r70.2) r70.2).bind fun r71 =>
 (gif r70.1 false (EV P 12 #[r71.1] r71.2) r71.2).bind fun r72 =>
 (gif r70.1 false (vl x0 r72.2) r72.2).bind fun r73 =>
 (gif r70.1 false (bo P .neq 9 (.tmp 66) (.tmp 67) r72.1 r73.1 r73.2) r73.2).bind fun r74 =>
 (pickV r70.1 (.bool true) r74.1 r74.2).bind fun r75 =>
 cnd r75.1 (
 (bd P 28 #[] r75.2).bind fun r76 =>
 (st P 28 r1.1 r76.1 r76.2).bind fun r77 =>
 (vl (.bool false) r77.2).bind fun r78 =>
 ((ld P 28 r1.1 r78.2).bind fun r79 => ifP (r79.2 = r78.2) (some r79.1)).bind fun v80 =>
 some (.tuple #[v80, r78.1], r78.2)) (
 (ld P 28 r46.1 r75.2).bind fun r81 =>
 (st P 28 r1.1 r81.1 r81.2).bind fun r82 =>
 (vl (.bool true) r82.2).bind fun r83 =>
 ((ld P 28 r1.1 r83.2).bind fun r84 => ifP (r84.2 = r83.2) (some r84.1)).bind fun v85 =>
 some (.tuple #[v85, r83.1], r83.2))) := by kernel_rfl
theorem spec_DrawVerPut_fn (x0 : Value) (w : World) : fnC P (EV P) 11 #[x0] w =
 (al P 28 w).bind fun r1 =>
 (vl x0 r1.2).bind fun r2 =>
 (EV P 33 #[r2.1] r2.2).bind fun r3 =>
 (EV P 32 #[r3.1] r3.2).bind fun r4 =>
 (st P 28 r1.1 r4.1 r4.2).bind fun r5 =>
 ((ld P 28 r1.1 r5.2).bind fun r6 => ifP (r6.2 = r5.2) (some r6.1)).bind fun v7 =>
 some (v7, r5.2) := by kernel_rfl
theorem impl_VerPut_fn (x0 : Value) (w : World) : fnC P (EV P) 12 #[x0] w =
 (bx P 28 x0 w).bind fun r1 =>
 (vl (Go.Value.string { data := #[] }) r1.2).bind fun r2 =>
 (ld P 28 r1.1 r2.2).bind fun r3 =>
 (EV P 14 #[r3.1] r3.2).bind fun r4 =>
 (uo P .not r4.1 r4.2).bind fun r5 =>
 cnd r5.1 (
 (vl (Go.Value.string { data := #[] }) r5.2).bind fun r6 =>
 some (r6.1, r6.2)) (
 (fa P 28 r1.1 0 (dw r5.2)).bind fun r8 =>
 ifP (r8.2 = (dw r5.2)) <|
 (ld P 3 r8.1 (dw r5.2)).bind fun r9 =>
 ifP (r9.2 = (dw r5.2)) <|
 (fa P 28 r1.1 1 (dw r5.2)).bind fun r10 =>
 ifP (r10.2 = (dw r5.2)) <|
 (ld P 23 r10.1 (dw r5.2)).bind fun r11 =>
 ifP (r11.2 = (dw r5.2)) <|
 (fa P 28 r1.1 2 (dw r5.2)).bind fun r12 =>
 ifP (r12.2 = (dw r5.2)) <|
 (ld P 26 r12.1 (dw r5.2)).bind fun r13 =>
 ifP (r13.2 = (dw r5.2)) <|
 (ld P 28 r1.1 (dw r5.2)).bind fun r14 =>
 ifP (r14.2 = (dw r5.2)) <|
 (EV P 34 #[r9.1] (dw r5.2)).bind fun r15 =>
 ifP (ld P 28 r1.1 r15.2 = some (r14.1, r15.2) ∧ ld P 26 r12.1 r15.2 = some (r13.1, r15.2) ∧ fa P 28 r1.1 2 r15.2 = some (r12.1, r15.2) ∧ ld P 23 r10.1 r15.2 = some (r11.1, r15.2) ∧ fa P 28 r1.1 1 r15.2 = some (r10.1, r15.2) ∧ True ∧ True ∧ True) <|
 (bo P .add 9 (.tmp 8) (.const (Go.Value.string { data := #[32] })) r15.1 (Go.Value.string { data := #[32] }) r15.2).bind fun r16 =>
 ifP (r16.2 = r15.2) <|
 (EV P 35 #[r11.1] r15.2).bind fun r17 =>
 ifP (bo P .add 9 (.tmp 8) (.const (Go.Value.string { data := #[32] })) r15.1 (Go.Value.string { data := #[32] }) r17.2 = some (r16.1, r17.2) ∧ ld P 28 r1.1 r17.2 = some (r14.1, r17.2) ∧ ld P 26 r12.1 r17.2 = some (r13.1, r17.2) ∧ fa P 28 r1.1 2 r17.2 = some (r12.1, r17.2) ∧ True ∧ True ∧ True ∧ True ∧ True) <|
 (bo P .add 9 (.tmp 9) (.tmp 12) r16.1 r17.1 r17.2).bind fun r18 =>
 ifP (r18.2 = r17.2) <|
 (bo P .add 9 (.tmp 13) (.const (Go.Value.string { data := #[32] })) r18.1 (Go.Value.string { data := #[32] }) r17.2).bind fun r19 =>
 ifP (r19.2 = r17.2) <|
 (EV P 36 #[r13.1] r17.2).bind fun r20 =>
 ifP (bo P .add 9 (.tmp 13) (.const (Go.Value.string { data := #[32] })) r18.1 (Go.Value.string { data := #[32] }) r20.2 = some (r19.1, r20.2) ∧ bo P .add 9 (.tmp 9) (.tmp 12) r16.1 r17.1 r20.2 = some (r18.1, r20.2) ∧ bo P .add 9 (.tmp 8) (.const (Go.Value.string { data := #[32] })) r15.1 (Go.Value.string { data := #[32] }) r20.2 = some (r16.1, r20.2) ∧ ld P 28 r1.1 r20.2 = some (r14.1, r20.2) ∧ True ∧ True ∧ True ∧ True ∧ True ∧ True ∧ True) <|
 (bo P .add 9 (.tmp 14) (.tmp 17) r19.1 r20.1 r20.2).bind fun r21 =>
 ifP (r21.2 = r20.2) <|
 (bo P .add 9 (.tmp 18) (.const (Go.Value.string { data := #[32] })) r21.1 (Go.Value.string { data := #[32] }) r20.2).bind fun r22 =>
 ifP (r22.2 = r20.2) <|
 (EV P 37 #[r14.1] r20.2).bind fun r23 =>
 ifP (bo P .add 9 (.tmp 18) (.const (Go.Value.string { data := #[32] })) r21.1 (Go.Value.string { data := #[32] }) r23.2 = some (r22.1, r23.2) ∧ bo P .add 9 (.tmp 14) (.tmp 17) r19.1 r20.1 r23.2 = some (r21.1, r23.2) ∧ bo P .add 9 (.tmp 13) (.const (Go.Value.string { data := #[32] })) r18.1 (Go.Value.string { data := #[32] }) r23.2 = some (r19.1, r23.2) ∧ bo P .add 9 (.tmp 9) (.tmp 12) r16.1 r17.1 r23.2 = some (r18.1, r23.2) ∧ bo P .add 9 (.tmp 8) (.const (Go.Value.string { data := #[32] })) r15.1 (Go.Value.string { data := #[32] }) r23.2 = some (r16.1, r23.2) ∧ True ∧ True ∧ True ∧ True ∧ True ∧ True ∧ True ∧ True) <|
 (bo P .add 9 (.tmp 19) (.tmp 21) r22.1 r23.1 r23.2).bind fun r24 =>
 ifP (r24.2 = r23.2) <|
 (vl r24.1 r23.2).bind fun r25 =>
 ifP (r25.2 = r23.2) <|
 some (r25.1, r23.2)) := by kernel_rfl
theorem spec_VerPut_fn (x0 : Value) (w : World) : fnC P (EV P) 13 #[x0] w =
 (bx P 28 x0 w).bind fun r1 =>
 (vl (Go.Value.string { data := #[] }) r1.2).bind fun r2 =>
 (ld P 28 r1.1 r2.2).bind fun r3 =>
 (EV P 21 #[r3.1] r3.2).bind fun r4 =>
 (uo P .not r4.1 r4.2).bind fun r5 =>
 cnd r5.1 (
 (vl (Go.Value.string { data := #[] }) r5.2).bind fun r6 =>
 some (r6.1, r6.2)) (
 (ld P 28 r1.1 r5.2).bind fun r7 =>
 (EV P 22 #[r7.1] r7.2).bind fun r8 =>
 (vl r8.1 r8.2).bind fun r9 =>
 some (r9.1, r9.2)) := by kernel_rfl
theorem impl_VerOk_fn (x0 : Value) (w : World) : fnC P (EV P) 14 #[x0] w =
 (bx P 28 x0 w).bind fun r1 =>
 (vl (.bool false) r1.2).bind fun r2 =>
 (ld P 28 r1.1 (dw r2.2)).bind fun r4 =>
 ifP (r4.2 = (dw r2.2)) <|
 (EV P 38 #[r4.1] (dw r2.2)).bind fun r5 =>
 ifP (True ∧ True) <|
 (vl r5.1 r5.2).bind fun r6 =>
 ifP (r6.2 = r5.2) <|
 (gif r6.1 true (fa P 28 r1.1 1 r5.2) r5.2).bind fun r7 =>
 ifP (r7.2 = r5.2) <|
 (gif r6.1 true (ld P 23 r7.1 r5.2) r5.2).bind fun r8 =>
 ifP (r8.2 = r5.2) <|
 (gif r6.1 true (EV P 39 #[r8.1] r5.2) r5.2).bind fun r9 =>
 ifP (True ∧ True ∧ True ∧ True) <|
 (pickV r6.1 r9.1 (.bool false) r9.2).bind fun r10 =>
 ifP (r10.2 = r9.2) <|
 (vl r10.1 r9.2).bind fun r11 =>
 ifP (r11.2 = r9.2) <|
 (gif r11.1 true (fa P 28 r1.1 1 r9.2) r9.2).bind fun r12 =>
 ifP (r12.2 = r9.2) <|
 (gif r11.1 true (fa P 23 r12.1 0 r9.2) r9.2).bind fun r13 =>
 ifP (r13.2 = r9.2) <|
 (gif r11.1 true (ld P 3 r13.1 r9.2) r9.2).bind fun r14 =>
 ifP (r14.2 = r9.2) <|
 (gif r11.1 true (fa P 28 r1.1 2 r9.2) r9.2).bind fun r15 =>
 ifP (r15.2 = r9.2) <|
 (gif r11.1 true (ld P 26 r15.1 r9.2) r9.2).bind fun r16 =>
 ifP (r16.2 = r9.2) <|
 (gif r11.1 true (EV P 40 #[r16.1] r9.2) r9.2).bind fun r17 =>
 ifP (True ∧ True ∧ gif r11.1 true (ld P 3 r13.1 r17.2) r17.2 = some (r14.1, r17.2) ∧ gif r11.1 true (fa P 23 r12.1 0 r17.2) r17.2 = some (r13.1, r17.2) ∧ gif r11.1 true (fa P 28 r1.1 1 r17.2) r17.2 = some (r12.1, r17.2) ∧ True ∧ True ∧ True ∧ True) <|
 (gif r11.1 true (bo P .gtr 3 (.tmp 13) (.tmp 16) r14.1 r17.1 r17.2) r17.2).bind fun r18 =>
 ifP (r18.2 = r17.2) <|
 (pickV r11.1 r18.1 (.bool false) r17.2).bind fun r19 =>
 ifP (r19.2 = r17.2) <|
 (vl r19.1 r17.2).bind fun r20 =>
 ifP (r20.2 = r17.2) <|
 some (r20.1, r17.2) := by kernel_rfl
theorem spec_VerOk_fn (x0 : Value) (w : World) : fnC P (EV P) 15 #[x0] w =
 (bx P 28 x0 w).bind fun r1 =>
 (vl (.bool false) r1.2).bind fun r2 =>
 (ld P 28 r1.1 r2.2).bind fun r3 =>
 (EV P 21 #[r3.1] r3.2).bind fun r4 =>
 (vl r4.1 r4.2).bind fun r5 =>
 some (r5.1, r5.2) := by kernel_rfl
theorem impl_TagLess_fn (x0 x1 : Value) (w : World) : fnC P (EV P) 16 #[x0, x1] w =
 (bx P 23 x0 w).bind fun r1 =>
 (bx P 23 x1 r1.2).bind fun r2 =>
 (vl (.bool false) r2.2).bind fun r3 =>
 (ld P 23 r1.1 r3.2).bind fun r4 =>
 (ld P 23 r2.1 r4.2).bind fun r5 =>
 (EV P 41 #[r4.1, r5.1] r5.2).bind fun r6 =>
 (bo P .lss 3 (.tmp 7) (.const (.int .i64 0)) r6.1 (.int .i64 0) r6.2).bind fun r7 =>
 (vl r7.1 r7.2).bind fun r8 =>
 some (r8.1, r8.2) := by kernel_rfl
theorem laws_cfVer_fn (x0 x1 : Value) (w : World) : fnC P (EV P) 17 #[x0, x1] w =
 (bx P 28 x0 w).bind fun r1 =>
 (bx P 28 x1 r1.2).bind fun r2 =>
 (vl (.bool false) r2.2).bind fun r3 =>
 (fa P 28 r1.1 0 r3.2).bind fun r4 =>
 (ld P 3 r4.1 r4.2).bind fun r5 =>
 (fa P 28 r2.1 0 r5.2).bind fun r6 =>
 (ld P 3 r6.1 r6.2).bind fun r7 =>
 (bo P .eql 3 (.tmp 6) (.tmp 8) r5.1 r7.1 r7.2).bind fun r8 =>
 (vl r8.1 r8.2).bind fun r9 =>
 (gif r9.1 true (fa P 28 r1.1 1 r9.2) r9.2).bind fun r10 =>
 (gif r9.1 true (ld P 23 r10.1 r10.2) r10.2).bind fun r11 =>
 (gif r9.1 true (fa P 28 r2.1 1 r11.2) r11.2).bind fun r12 =>
 (gif r9.1 true (ld P 23 r12.1 r12.2) r12.2).bind fun r13 =>
 (gif r9.1 true (bo P .eql 23 (.tmp 12) (.tmp 14) r11.1 r13.1 r13.2) r13.2).bind fun r14 =>
 (pickV r9.1 r14.1 (.bool false) r14.2).bind fun r15 =>
 (vl r15.1 r15.2).bind fun r16 =>
 (gif r16.1 true (fa P 28 r1.1 2 r16.2) r16.2).bind fun r17 =>
 (gif r16.1 true (ld P 26 r17.1 r17.2) r17.2).bind fun r18 =>
 (gif r16.1 true (fa P 28 r2.1 2 r18.2) r18.2).bind fun r19 =>
 (gif r16.1 true (ld P 26 r19.1 r19.2) r19.2).bind fun r20 =>
 (gif r16.1 true (EV P 42 #[r18.1, r20.1] r20.2) r20.2).bind fun r21 =>
 (pickV r16.1 r21.1 (.bool false) r21.2).bind fun r22 =>
 (vl r22.1 r22.2).bind fun r23 =>
 (gif r23.1 true (fa P 28 r1.1 3 r23.2) r23.2).bind fun r24 =>
 (gif r23.1 true (ld P 9 r24.1 r24.2) r24.2).bind fun r25 =>
 (gif r23.1 true (fa P 28 r2.1 3 r25.2) r25.2).bind fun r26 =>
 (gif r23.1 true (ld P 9 r26.1 r26.2) r26.2).bind fun r27 =>
 (gif r23.1 true (bo P .eql 9 (.tmp 26) (.tmp 28) r25.1 r27.1 r27.2) r27.2).bind fun r28 =>
 (pickV r23.1 r28.1 (.bool false) r28.2).bind fun r29 =>
 (vl r29.1 r29.2).bind fun r30 =>
 (gif r30.1 true (fa P 28 r1.1 4 r30.2) r30.2).bind fun r31 =>
 (gif r30.1 true (ld P 4 r31.1 r31.2) r31.2).bind fun r32 =>
 (gif r30.1 true (fa P 28 r2.1 4 r32.2) r32.2).bind fun r33 =>
 (gif r30.1 true (ld P 4 r33.1 r33.2) r33.2).bind fun r34 =>
 (gif r30.1 true (bo P .eql 4 (.tmp 33) (.tmp 35) r32.1 r34.1 r34.2) r34.2).bind fun r35 =>
 (pickV r30.1 r35.1 (.bool false) r35.2).bind fun r36 =>
 (vl r36.1 r36.2).bind fun r37 =>
 some (r37.1, r37.2) := by kernel_rfl
noncomputable def spec_l2Ok_l1 (e : Env) (w : World) : Option (Value × World) := exC P (EV P) 21 56 (.loop (cA (cA (cB (cA (cB (cB (bodyOf P 21)))))))) e w (kBlock 0 (kSeq P (EV P) 21 56 (cB (cB (cB (bodyOf P 21)))) (kFn P (fnOf P 21))))
theorem spec_l2Ok_l1_eq (e : Env) (w : World) : spec_l2Ok_l1 e w =
 (vl (e 3) w).bind fun r1 =>
 (bo P .lss 3 (.tmp 41) (.const (.int .i64 4)) r1.1 (.int .i64 4) r1.2).bind fun r2 =>
 cnd r2.1 (
 (fa P 28 (e 1) 2 (dw r2.2)).bind fun r4 =>
 ifP (r4.2 = (dw r2.2)) <|
 (fa P 26 r4.1 0 (dw r2.2)).bind fun r5 =>
 ifP (r5.2 = (dw r2.2)) <|
 (ld P 24 r5.1 (dw r2.2)).bind fun r6 =>
 ifP (r6.2 = (dw r2.2)) <|
 (vl (e 3) (dw r2.2)).bind fun r7 =>
 ifP (r7.2 = (dw r2.2)) <|
 (ia P 24 r6.1 r7.1 (dw r2.2)).bind fun r8 =>
 ifP (r8.2 = (dw r2.2)) <|
 (fa P 23 r8.1 0 (dw r2.2)).bind fun r9 =>
 ifP (r9.2 = (dw r2.2)) <|
 (ld P 3 r9.1 (dw r2.2)).bind fun r10 =>
 ifP (r10.2 = (dw r2.2)) <|
 (fa P 28 (e 1) 1 (dw r2.2)).bind fun r11 =>
 ifP (r11.2 = (dw r2.2)) <|
 (fa P 23 r11.1 0 (dw r2.2)).bind fun r12 =>
 ifP (r12.2 = (dw r2.2)) <|
 (ld P 3 r12.1 (dw r2.2)).bind fun r13 =>
 ifP (r13.2 = (dw r2.2)) <|
 (bo P .geq 3 (.tmp 51) (.tmp 54) r10.1 r13.1 (dw r2.2)).bind fun r14 =>
 ifP (r14.2 = (dw r2.2)) <|
 cnd r14.1 (
 (vl (.bool false) (dw r2.2)).bind fun r15 =>
 some (r15.1, r15.2)) (
 (vl (e 3) (dw r2.2)).bind fun r16 =>
 (bo P .add 3 (.tmp 43) (.const (.int .i64 1)) r16.1 (.int .i64 1) r16.2).bind fun r17 =>
 (vl r17.1 r17.2).bind fun r18 =>
 spec_l2Ok_l1 (ups e [(41, r1.1), (42, r2.1), (45, r4.1), (46, r5.1), (47, r6.1), (48, r7.1), (49, r8.1), (50, r9.1), (51, r10.1), (52, r11.1), (53, r12.1), (54, r13.1), (55, r14.1), (43, r16.1), (44, r17.1), (3, r18.1)]) r18.2)) (
 (vl (.bool true) r2.2).bind fun r19 =>
 some (r19.1, r19.2)) := (exC_loop P (EV P) 21 56 (cA (cA (cB (cA (cB (cB (bodyOf P 21))))))) e w (kBlock 0 (kSeq P (EV P) 21 56 (cB (cB (cB (bodyOf P 21)))) (kFn P (fnOf P 21))))).trans (by kernel_rfl)
theorem spec_l2Ok_fn (x0 : Value) (w : World) : fnC P (EV P) 21 #[x0] w =
 (bx P 28 x0 w).bind fun r1 =>
 (vl (.bool false) r1.2).bind fun r2 =>
 (fa P 28 r1.1 0 r2.2).bind fun r3 =>
 (ld P 3 r3.1 r3.2).bind fun r4 =>
 (EV P 48 #[r4.1, (.int .i64 0), (.int .i64 3)] r4.2).bind fun r5 =>
 (uo P .not r5.1 r5.2).bind fun r6 =>
 (vl r6.1 r6.2).bind fun r7 =>
 (gif r7.1 false (fa P 28 r1.1 3 r7.2) r7.2).bind fun r8 =>
 (gif r7.1 false (ld P 9 r8.1 r8.2) r8.2).bind fun r9 =>
 (gif r7.1 false (EV P 49 #[r9.1] r9.2) r9.2).bind fun r10 =>
 (gif r7.1 false (uo P .not r10.1 r10.2) r10.2).bind fun r11 =>
 (pickV r7.1 (.bool true) r11.1 r11.2).bind fun r12 =>
 (vl r12.1 r12.2).bind fun r13 =>
 (gif r13.1 false (fa P 28 r1.1 1 r13.2) r13.2).bind fun r14 =>
 (gif r13.1 false (ld P 23 r14.1 r14.2) r14.2).bind fun r15 =>
 (gif r13.1 false (EV P 50 #[r15.1] r15.2) r15.2).bind fun r16 =>
 (gif r13.1 false (uo P .not r16.1 r16.2) r16.2).bind fun r17 =>
 (pickV r13.1 (.bool true) r17.1 r17.2).bind fun r18 =>
 (vl r18.1 r18.2).bind fun r19 =>
 (gif r19.1 false (fa P 28 r1.1 1 r19.2) r19.2).bind fun r20 =>
 (gif r19.1 false (fa P 23 r20.1 0 r20.2) r20.2).bind fun r21 =>
 (gif r19.1 false (ld P 3 r21.1 r21.2) r21.2).bind fun r22 =>
 (gif r19.1 false (bo P .eql 3 (.tmp 23) (.const (.int .i64 0)) r22.1 (.int .i64 0) r22.2) r22.2).bind fun r23 =>
 (pickV r19.1 (.bool true) r23.1 r23.2).bind fun r24 =>
 (vl r24.1 r24.2).bind fun r25 =>
 (gif r25.1 false (fa P 28 r1.1 4 r25.2) r25.2).bind fun r26 =>
 (gif r25.1 false (ld P 4 r26.1 r26.2) r26.2).bind fun r27 =>
 (gif r25.1 false (vl r27.1 r27.2) r27.2).bind fun r28 =>
 (gif r28.1 true (fa P 28 r1.1 3 r28.2) r28.2).bind fun r29 =>
 (gif r28.1 true (ld P 9 r29.1 r29.2) r29.2).bind fun r30 =>
 (gif r28.1 true (bo P .neq 9 (.tmp 31) (.const (Go.Value.string { data := #[] })) r30.1 (Go.Value.string { data := #[] }) r30.2) r30.2).bind fun r31 =>
 (gif r25.1 false (pickV r28.1 r31.1 (.bool false) r31.2) r31.2).bind fun r32 =>
 (pickV r25.1 (.bool true) r32.1 r32.2).bind fun r33 =>
 (vl r33.1 r33.2).bind fun r34 =>
 (gif r34.1 false (fa P 28 r1.1 2 r34.2) r34.2).bind fun r35 =>
 (gif r34.1 false (ld P 26 r35.1 r35.2) r35.2).bind fun r36 =>
 (gif r34.1 false (EV P 51 #[r36.1] r36.2) r36.2).bind fun r37 =>
 (gif r34.1 false (uo P .not r37.1 r37.2) r37.2).bind fun r38 =>
 (pickV r34.1 (.bool true) r38.1 r38.2).bind fun r39 =>
 cnd r39.1 (
 (vl (.bool false) r39.2).bind fun r40 =>
 some (r40.1, r40.2)) (
 (vl (.int .i64 0) r39.2).bind fun r41 =>
 spec_l2Ok_l1 (ups (env0 #[x0]) [(1, r1.1), (2, r2.1), (4, r3.1), (5, r4.1), (6, r5.1), (7, r6.1), (8, r7.1), (9, r8.1), (10, r9.1), (11, r10.1), (12, r11.1), (13, r12.1), (14, r13.1), (15, r14.1), (16, r15.1), (17, r16.1), (18, r17.1), (19, r18.1), (20, r19.1), (21, r20.1), (22, r21.1), (23, r22.1), (24, r23.1), (25, r24.1), (26, r25.1), (27, r26.1), (28, r27.1), (29, r28.1), (30, r29.1), (31, r30.1), (32, r31.1), (33, r32.1), (34, r33.1), (35, r34.1), (36, r35.1), (37, r36.1), (38, r37.1), (39, r38.1), (40, r39.1), (3, r41.1)]) r41.2) := by kernel_rfl
noncomputable def spec_l2Put_j1 (e : Env) (w : World) : Option (Value × World) := exC P (EV P) 22 24 (cB (cB (cB (bodyOf P 22)))) e w (kFn P (fnOf P 22))
theorem spec_l2Put_j1_eq (e : Env) (w : World) : spec_l2Put_j1 e w =
 (fa P 28 (e 1) 0 (dw w)).bind fun r2 =>
 ifP (r2.2 = (dw w)) <|
 (ld P 3 r2.1 (dw w)).bind fun r3 =>
 ifP (r3.2 = (dw w)) <|
 (fa P 28 (e 1) 1 (dw w)).bind fun r4 =>
 ifP (r4.2 = (dw w)) <|
 (ld P 23 r4.1 (dw w)).bind fun r5 =>
 ifP (r5.2 = (dw w)) <|
 (fa P 28 (e 1) 2 (dw w)).bind fun r6 =>
 ifP (r6.2 = (dw w)) <|
 (ld P 26 r6.1 (dw w)).bind fun r7 =>
 ifP (r7.2 = (dw w)) <|
 (vl (e 3) (dw w)).bind fun r8 =>
 ifP (r8.2 = (dw w)) <|
 (EV P 52 #[r3.1] (dw w)).bind fun r9 =>
 ifP (ld P 26 r6.1 r9.2 = some (r7.1, r9.2) ∧ fa P 28 (e 1) 2 r9.2 = some (r6.1, r9.2) ∧ ld P 23 r4.1 r9.2 = some (r5.1, r9.2) ∧ fa P 28 (e 1) 1 r9.2 = some (r4.1, r9.2) ∧ True ∧ True ∧ True) <|
 (bo P .add 9 (.tmp 11) (.const (Go.Value.string { data := #[32] })) r9.1 (Go.Value.string { data := #[32] }) r9.2).bind fun r10 =>
 ifP (r10.2 = r9.2) <|
 (EV P 53 #[r5.1] r9.2).bind fun r11 =>
 ifP (bo P .add 9 (.tmp 11) (.const (Go.Value.string { data := #[32] })) r9.1 (Go.Value.string { data := #[32] }) r11.2 = some (r10.1, r11.2) ∧ ld P 26 r6.1 r11.2 = some (r7.1, r11.2) ∧ fa P 28 (e 1) 2 r11.2 = some (r6.1, r11.2) ∧ True ∧ True ∧ True ∧ True ∧ True) <|
 (bo P .add 9 (.tmp 12) (.tmp 15) r10.1 r11.1 r11.2).bind fun r12 =>
 ifP (r12.2 = r11.2) <|
 (EV P 54 #[r7.1] r11.2).bind fun r13 =>
 ifP (bo P .add 9 (.tmp 12) (.tmp 15) r10.1 r11.1 r13.2 = some (r12.1, r13.2) ∧ bo P .add 9 (.tmp 11) (.const (Go.Value.string { data := #[32] })) r9.1 (Go.Value.string { data := #[32] }) r13.2 = some (r10.1, r13.2) ∧ True ∧ True ∧ True ∧ True ∧ True ∧ True ∧ True) <|
 (bo P .add 9 (.tmp 16) (.tmp 19) r12.1 r13.1 r13.2).bind fun r14 =>
 ifP (r14.2 = r13.2) <|
 (bo P .add 9 (.tmp 20) (.const (Go.Value.string { data := #[32] })) r14.1 (Go.Value.string { data := #[32] }) r13.2).bind fun r15 =>
 ifP (r15.2 = r13.2) <|
 (bo P .add 9 (.tmp 21) (.tmp 22) r15.1 r8.1 r13.2).bind fun r16 =>
 ifP (r16.2 = r13.2) <|
 (vl r16.1 r13.2).bind fun r17 =>
 ifP (r17.2 = r13.2) <|
 some (r17.1, r13.2) := by kernel_rfl
theorem spec_l2Put_fn (x0 : Value) (w : World) : fnC P (EV P) 22 #[x0] w =
 (bx P 28 x0 w).bind fun r1 =>
 (vl (Go.Value.string { data := #[] }) r1.2).bind fun r2 =>
 (fa P 28 r1.1 3 r2.2).bind fun r3 =>
 (ld P 9 r3.1 r3.2).bind fun r4 =>
 (bo P .add 9 (.const (Go.Value.string { data := #[61] })) (.tmp 5) (Go.Value.string { data := #[61] }) r4.1 r4.2).bind fun r5 =>
 (vl r5.1 r5.2).bind fun r6 =>
 (fa P 28 r1.1 4 r6.2).bind fun r7 =>
 (ld P 4 r7.1 r7.2).bind fun r8 =>
 cnd r8.1 (
 (vl (Go.Value.string { data := #[45] }) r8.2).bind fun r9 =>
 spec_l2Put_j1 (ups (env0 #[x0]) [(1, r1.1), (2, r2.1), (4, r3.1), (5, r4.1), (6, r5.1), (3, r6.1), (7, r7.1), (8, r8.1), (3, r9.1)]) r9.2) (
 spec_l2Put_j1 (ups (env0 #[x0]) [(1, r1.1), (2, r2.1), (4, r3.1), (5, r4.1), (6, r5.1), (3, r6.1), (7, r7.1), (8, r8.1)]) r8.2) := by kernel_rfl
theorem strings_Split_fn (x0 x1 : Value) (w : World) : fnC P (EV P) 23 #[x0, x1] w =
 (vl (Go.Value.slice none 0 0) w).bind fun r1 =>
 (vl x0 r1.2).bind fun r2 =>
 (vl x1 r2.2).bind fun r3 =>
 (EV P 55 #[r2.1, r3.1, (.int .i64 0), (.int .i64 (-1))] r3.2).bind fun r4 =>
 (vl r4.1 r4.2).bind fun r5 =>
 some (r5.1, r5.2) := by kernel_rfl
theorem strconv_Atoi_fn (x0 : Value) (w : World) : fnC P (EV P) 24 #[x0] w =
 (vl (.int .i64 0) w).bind fun r1 =>
 (vl Go.Value.nilIface r1.2).bind fun r2 =>
 (vl x0 r2.2).bind fun r3 =>
 (EV P 56 #[r3.1] r3.2).bind fun r4 =>
 (vl r4.1 r4.2).bind fun r5 =>
 (xt P r5.1 0 r5.2).bind fun r6 =>
 (xt P r5.1 1 r6.2).bind fun r7 =>
 (vl r6.1 r7.2).bind fun r8 =>
 (vl r7.1 r8.2).bind fun r9 =>
 (vl r9.1 r9.2).bind fun r10 =>
 (bo P .neq 46 (.tmp 11) (.const Go.Value.nilIface) r10.1 Go.Value.nilIface r10.2).bind fun r11 =>
 cnd r11.1 (
 (vl r8.1 r11.2).bind fun r12 =>
 (vl x0 r12.2).bind fun r13 =>
 (vl r9.1 r13.2).bind fun r14 =>
 (EV P 57 #[(Go.Value.string { data := #[65, 116, 111, 105] }), r13.1, (.int .i64 0), (.int .i64 0), r14.1] r14.2).bind fun r15 =>
 (vl r12.1 r15.2).bind fun r16 =>
 (vl r15.1 r16.2).bind fun r17 =>
 some (.tuple #[r16.1, r17.1], r17.2)) (
 (vl r8.1 r11.2).bind fun r18 =>
 (vl r18.1 r18.2).bind fun r19 =>
 (vl Go.Value.nilIface r19.2).bind fun r20 =>
 some (.tuple #[r19.1, r20.1], r20.2)) := by kernel_rfl
theorem impl_TagGet_fn (x0 : Value) (w : World) : fnC P (EV P) 25 #[x0] w =
 (al P 23 w).bind fun r1 =>
 (vl (.bool false) r1.2).bind fun r2 =>
 (vl x0 r2.2).bind fun r3 =>
 (EV P 58 #[r3.1, (Go.Value.string { data := #[46] })] r3.2).bind fun r4 =>
 (vl r4.1 r4.2).bind fun r5 =>
 (xt P r5.1 0 r5.2).bind fun r6 =>
 (xt P r5.1 1 r6.2).bind fun r7 =>
 (xt P r5.1 2 r7.2).bind fun r8 =>
 (vl r6.1 r8.2).bind fun r9 =>
 (vl r7.1 r9.2).bind fun r10 =>
 (vl r8.1 r10.2).bind fun r11 =>
 (vl r9.1 r11.2).bind fun r12 =>
 (EV P 24 #[r12.1] r12.2).bind fun r13 =>
 (vl r13.1 r13.2).bind fun r14 =>
 (xt P r14.1 0 r14.2).bind fun r15 =>
 (xt P r14.1 1 r15.2).bind fun r16 =>
 (vl r15.1 r16.2).bind fun r17 =>
 (vl r16.1 r17.2).bind fun r18 =>
 (vl r10.1 r18.2).bind fun r19 =>
 (EV P 24 #[r19.1] r19.2).bind fun r20 =>
 (vl r20.1 r20.2).bind fun r21 =>
 (xt P r21.1 0 r21.2).bind fun r22 =>
 (xt P r21.1 1 r22.2).bind fun r23 =>
 (vl r22.1 r23.2).bind fun r24 =>
 (vl r23.1 r24.2).bind fun r25 =>
 (vl r17.1 r25.2).bind fun r26 =>
 (vl r24.1 r26.2).bind fun r27 =>
 (bd P 23 #[(0, r26.1), (1, r27.1)] r27.2).bind fun r28 =>
 (al P 23 r28.2).bind fun r29 =>
 (st P 23 r29.1 r28.1 r29.2).bind fun r30 =>
 (vl r18.1 r30.2).bind fun r31 =>
 (bo P .neq 46 (.tmp 31) (.const Go.Value.nilIface) r31.1 Go.Value.nilIface r31.2).bind fun r32 =>
 (vl r32.1 r32.2).bind fun r33 =>
 (gif r33.1 false (vl r25.1 r33.2) r33.2).bind fun r34 =>
 (gif r33.1 false (bo P .neq 46 (.tmp 34) (.const Go.Value.nilIface) r34.1 Go.Value.nilIface r34.2) r34.2).bind fun r35 =>
 (pickV r33.1 (.bool true) r35.1 r35.2).bind fun r36 =>
 (vl r36.1 r36.2).bind fun r37 =>
 (gif r37.1 false (ld P 23 r29.1 r37.2) r37.2).bind fun r38 =>
 (gif r37.1 false (EV P 39 #[r38.1] r38.2) r38.2).bind fun r39 =>
 (gif r37.1 false (uo P .not r39.1 r39.2) r39.2).bind fun r40 =>
 (pickV r37.1 (.bool true) r40.1 r40.2).bind fun r41 =>
 (vl r41.1 r41.2).bind fun r42 =>
 (gif r42.1 false (ld P 23 r29.1 r42.2) r42.2).bind fun r43 =>
 (gif r42.1 false (EV P 35 #[r43.1] r43.2) r43.2).bind fun r44 =>
 (gif r42.1 false (vl x0 r44.2) r44.2).bind fun r45 =>
 (gif r42.1 false (bo P .neq 9 (.tmp 44) (.tmp 45) r44.1 r45.1 r45.2) r45.2).bind fun r46 =>
 (pickV r42.1 (.bool true) r46.1 r46.2).bind fun r47 =>
 cnd r47.1 (
 (bd P 23 #[] r47.2).bind fun r48 =>
 (st P 23 r1.1 r48.1 r48.2).bind fun r49 =>
 (vl (.bool false) r49.2).bind fun r50 =>
 ((ld P 23 r1.1 r50.2).bind fun r51 => ifP (r51.2 = r50.2) (some r51.1)).bind fun v52 =>
 some (.tuple #[v52, r50.1], r50.2)) (
 (ld P 23 r29.1 r47.2).bind fun r53 =>
 (st P 23 r1.1 r53.1 r53.2).bind fun r54 =>
 (vl (.bool true) r54.2).bind fun r55 =>
 ((ld P 23 r1.1 r55.2).bind fun r56 => ifP (r56.2 = r55.2) (some r56.1)).bind fun v57 =>
 some (.tuple #[v57, r55.1], r55.2)) := by kernel_rfl
noncomputable def impl_readPast_l1 (e : Env) (w : World) : Option (Value × World) := exC P (EV P) 26 33 (.loop (cA (cA (cB (cA (cB (cB (bodyOf P 26)))))))) e w (kBlock 0 (kSeq P (EV P) 26 33 (cB (cB (cB (bodyOf P 26)))) (kFn P (fnOf P 26))))
theorem impl_readPast_l1_eq (e : Env) (w : World) : impl_readPast_l1 e w =
 (bo P .lss 3 (.tmp 13) (.tmp 12) (e 13) (e 12) w).bind fun r1 =>
 cnd r1.1 (
 (ia P 41 (e 11) (e 13) r1.2).bind fun r2 =>
 (ld P 9 r2.1 r2.2).bind fun r3 =>
 (vl r3.1 r3.2).bind fun r4 =>
 (vl r4.1 r4.2).bind fun r5 =>
 (EV P 25 #[r5.1] r5.2).bind fun r6 =>
 (vl r6.1 r6.2).bind fun r7 =>
 (xt P r7.1 0 r7.2).bind fun r8 =>
 (xt P r7.1 1 r8.2).bind fun r9 =>
 (al P 23 r9.2).bind fun r10 =>
 (st P 23 r10.1 r8.1 r10.2).bind fun r11 =>
 (vl r9.1 r11.2).bind fun r12 =>
 (vl r12.1 r12.2).bind fun r13 =>
 (uo P .not r13.1 r13.2).bind fun r14 =>
 cnd r14.1 (
 (bd P 26 #[] r14.2).bind fun r15 =>
 (st P 26 (e 2) r15.1 r15.2).bind fun r16 =>
 (vl (.bool false) r16.2).bind fun r17 =>
 ((ld P 26 (e 2) r17.2).bind fun r18 => ifP (r18.2 = r17.2) (some r18.1)).bind fun v19 =>
 some (.tuple #[v19, r17.1], r17.2)) (
 (fa P 26 (e 4) 0 r14.2).bind fun r20 =>
 (ld P 24 r20.1 r20.2).bind fun r21 =>
 (ld P 23 r10.1 r21.2).bind fun r22 =>
 (bs P 24 1 #[(0, r22.1)] r22.2).bind fun r23 =>
 (b_append P #[24, 24] 24 #[r21.1, r23.1] r23.2).bind fun r24 =>
 (fa P 26 (e 4) 0 r24.2).bind fun r25 =>
 (st P 24 r25.1 r24.1 r25.2).bind fun r26 =>
 (bo P .add 3 (.tmp 13) (.const (.int .i64 1)) (e 13) (.int .i64 1) r26.2).bind fun r27 =>
 (vl r27.1 r27.2).bind fun r28 =>
 impl_readPast_l1 (ups e [(14, r1.1), (15, r2.1), (16, r3.1), (6, r4.1), (18, r5.1), (19, r6.1), (17, r7.1), (20, r8.1), (21, r9.1), (7, r10.1), (8, r12.1), (22, r13.1), (23, r14.1), (25, r20.1), (26, r21.1), (27, r22.1), (28, r23.1), (29, r24.1), (30, r25.1), (31, r27.1), (13, r28.1)]) r28.2)) (
 (ld P 26 (e 4) r1.2).bind fun r29 =>
 (st P 26 (e 2) r29.1 r29.2).bind fun r30 =>
 (vl (.bool true) r30.2).bind fun r31 =>
 ((ld P 26 (e 2) r31.2).bind fun r32 => ifP (r32.2 = r31.2) (some r32.1)).bind fun v33 =>
 some (.tuple #[v33, r31.1], r31.2)) := (exC_loop P (EV P) 26 33 (cA (cA (cB (cA (cB (cB (bodyOf P 26))))))) e w (kBlock 0 (kSeq P (EV P) 26 33 (cB (cB (cB (bodyOf P 26)))) (kFn P (fnOf P 26))))).trans (by kernel_rfl)
theorem impl_readPast_fn (x0 : Value) (w : World) : fnC P (EV P) 26 #[x0] w =
 (al P 26 w).bind fun r1 =>
 (vl (.bool false) r1.2).bind fun r2 =>
 (ms P 24 (.int .i64 0) (.int .i64 4) r2.2).bind fun r3 =>
 (bd P 26 #[(0, r3.1)] r3.2).bind fun r4 =>
 (al P 26 r4.2).bind fun r5 =>
 (st P 26 r5.1 r4.1 r5.2).bind fun r6 =>
 (vl x0 r6.2).bind fun r7 =>
 (b_len P #[41] 3 #[r7.1] r7.2).bind fun r8 =>
 (vl (.int .i64 0) r8.2).bind fun r9 =>
 impl_readPast_l1 (ups (env0 #[x0]) [(2, r1.1), (3, r2.1), (9, r3.1), (10, r4.1), (4, r5.1), (11, r7.1), (12, r8.1), (13, r9.1)]) r9.2 := by kernel_rfl
theorem impl_Ver_readRest_fn (x0 x1 : Value) (w : World) : fnC P (EV P) 27 #[x0, x1] w =
 (vl (.bool false) w).bind fun r1 =>
 (vl x1 r1.2).bind fun r2 =>
 (EV P 59 #[r2.1, (Go.Value.string { data := #[61] })] r2.2).bind fun r3 =>
 (vl r3.1 r3.2).bind fun r4 =>
 (xt P r4.1 0 r4.2).bind fun r5 =>
 (xt P r4.1 1 r5.2).bind fun r6 =>
 (vl r5.1 r6.2).bind fun r7 =>
 (vl r6.1 r7.2).bind fun r8 =>
 (vl x1 r8.2).bind fun r9 =>
 (bo P .eql 9 (.tmp 12) (.const (Go.Value.string { data := #[45] })) r9.1 (Go.Value.string { data := #[45] }) r9.2).bind fun r10 =>
 cnd r10.1 (
 (vl x0 r10.2).bind fun r11 =>
 (nk P r11.1 r11.2).bind fun r12 =>
 (fa P 28 r12.1 4 r12.2).bind fun r13 =>
 (st P 4 r13.1 (.bool true) r13.2).bind fun r14 =>
 (vl (.bool true) r14.2).bind fun r15 =>
 some (r15.1, r15.2)) (
 (vl x0 r10.2).bind fun r16 =>
 (vl r7.1 r16.2).bind fun r17 =>
 (EV P 60 #[r17.1] r17.2).bind fun r18 =>
 (nk P r16.1 r18.2).bind fun r19 =>
 (fa P 28 r19.1 3 r19.2).bind fun r20 =>
 (st P 9 r20.1 r18.1 r20.2).bind fun r21 =>
 (vl r8.1 r21.2).bind fun r22 =>
 (vl r22.1 r22.2).bind fun r23 =>
 some (r23.1, r23.2)) := by kernel_rfl
noncomputable def spec_l20AnyVer_j1 (e : Env) (w : World) : Option (Value × World) := exC P (EV P) 32 46 (cB (cB (cB (bodyOf P 32)))) e w (kFn P (fnOf P 32))
theorem spec_l20AnyVer_j1_eq (e : Env) (w : World) : spec_l20AnyVer_j1 e w =
 (ld P 28 (e 3) w).bind fun r1 =>
 (st P 28 (e 2) r1.1 r1.2).bind fun r2 =>
 ((ld P 28 (e 2) r2.2).bind fun r3 => ifP (r3.2 = r2.2) (some r3.1)).bind fun v4 =>
 some (v4, r2.2) := by kernel_rfl
theorem spec_l20AnyVer_fn (x0 : Value) (w : World) : fnC P (EV P) 32 #[x0] w =
 (al P 28 w).bind fun r1 =>
 (vl x0 r1.2).bind fun r2 =>
 (EV P 43 #[r2.1] r2.2).bind fun r3 =>
 (al P 28 r3.2).bind fun r4 =>
 (st P 28 r4.1 r3.1 r4.2).bind fun r5 =>
 (vl x0 r5.2).bind fun r6 =>
 (EV P 44 #[r6.1, (.int .i64 10)] r6.2).bind fun r7 =>
 (bo P .eql 3 (.tmp 7) (.const (.int .i64 0)) r7.1 (.int .i64 0) r7.2).bind fun r8 =>
 (vl r8.1 r8.2).bind fun r9 =>
 cnd r9.1 (
 (vl x0 r9.2).bind fun r10 =>
 (bs P 82 2 #[(0, (.int .i64 (-1))), (1, (.int .i64 4))] r10.2).bind fun r11 =>
 (EV P 64 #[r10.1, r11.1] r11.2).bind fun r12 =>
 (fa P 28 r4.1 0 r12.2).bind fun r13 =>
 (st P 3 r13.1 r12.1 r13.2).bind fun r14 =>
 spec_l20AnyVer_j1 (ups (env0 #[x0]) [(2, r1.1), (4, r2.1), (5, r3.1), (3, r4.1), (6, r6.1), (7, r7.1), (9, r8.1), (8, r9.1), (10, r10.1), (11, r11.1), (12, r12.1), (13, r13.1)]) r14.2) (
 (bo P .eql 3 (.tmp 7) (.const (.int .i64 1)) r7.1 (.int .i64 1) r9.2).bind fun r15 =>
 (vl r15.1 r15.2).bind fun r16 =>
 cnd r16.1 (
 (vl x0 r16.2).bind fun r17 =>
 (bs P 41 3 #[(0, (Go.Value.string { data := #[97, 32, 98] })), (1, (Go.Value.string { data := #[116, 111, 111, 108, 111, 110, 103, 101, 114] })), (2, (Go.Value.string { data := #[10] }))] r17.2).bind fun r18 =>
 (EV P 65 #[r17.1, r18.1] r18.2).bind fun r19 =>
 (fa P 28 r4.1 3 r19.2).bind fun r20 =>
 (st P 9 r20.1 r19.1 r20.2).bind fun r21 =>
 spec_l20AnyVer_j1 (ups (env0 #[x0]) [(2, r1.1), (4, r2.1), (5, r3.1), (3, r4.1), (6, r6.1), (7, r7.1), (9, r8.1), (8, r9.1), (15, r15.1), (14, r16.1), (16, r17.1), (17, r18.1), (18, r19.1), (19, r20.1)]) r21.2) (
 (bo P .eql 3 (.tmp 7) (.const (.int .i64 2)) r7.1 (.int .i64 2) r16.2).bind fun r22 =>
 (vl r22.1 r22.2).bind fun r23 =>
 cnd r23.1 (
 (fa P 28 r4.1 2 r23.2).bind fun r24 =>
 (fa P 26 r24.1 0 r24.2).bind fun r25 =>
 (ld P 24 r25.1 r25.2).bind fun r26 =>
 (sl P 24 r26.1 (some (.int .i64 1)) none none r26.2).bind fun r27 =>
 (fa P 28 r4.1 2 r27.2).bind fun r28 =>
 (fa P 26 r28.1 0 r28.2).bind fun r29 =>
 (st P 24 r29.1 r27.1 r29.2).bind fun r30 =>
 spec_l20AnyVer_j1 (ups (env0 #[x0]) [(2, r1.1), (4, r2.1), (5, r3.1), (3, r4.1), (6, r6.1), (7, r7.1), (9, r8.1), (8, r9.1), (15, r15.1), (14, r16.1), (21, r22.1), (20, r23.1), (22, r24.1), (23, r25.1), (24, r26.1), (25, r27.1), (26, r28.1), (27, r29.1)]) r30.2) (
 (bo P .eql 3 (.tmp 7) (.const (.int .i64 3)) r7.1 (.int .i64 3) r23.2).bind fun r31 =>
 (vl r31.1 r31.2).bind fun r32 =>
 cnd r32.1 (
 (fa P 28 r4.1 2 (dw r32.2)).bind fun r34 =>
 ifP (r34.2 = (dw r32.2)) <|
 (fa P 26 r34.1 0 (dw r32.2)).bind fun r35 =>
 ifP (r35.2 = (dw r32.2)) <|
 (ld P 24 r35.1 (dw r32.2)).bind fun r36 =>
 ifP (r36.2 = (dw r32.2)) <|
 (vl x0 (dw r32.2)).bind fun r37 =>
 ifP (r37.2 = (dw r32.2)) <|
 (bd P 23 #[(0, (.int .i64 50)), (1, (.int .i64 1))] (dw r32.2)).bind fun r38 =>
 ifP (r38.2 = (dw r32.2)) <|
 (EV P 44 #[r37.1, (.int .i64 4)] (dw r32.2)).bind fun r39 =>
 ifP (bd P 23 #[(0, (.int .i64 50)), (1, (.int .i64 1))] r39.2 = some (r38.1, r39.2) ∧ ld P 24 r35.1 r39.2 = some (r36.1, r39.2) ∧ fa P 26 r34.1 0 r39.2 = some (r35.1, r39.2) ∧ fa P 28 r4.1 2 r39.2 = some (r34.1, r39.2) ∧ True) <|
 (ia P 24 r36.1 r39.1 r39.2).bind fun r40 =>
 ifP (r40.2 = r39.2) <|
 (st P 23 r40.1 r38.1 r39.2).bind fun r41 =>
 ifP (True ∧ True ∧ True ∧ True ∧ True ∧ True) <|
 spec_l20AnyVer_j1 (ups (env0 #[x0]) [(2, r1.1), (4, r2.1), (5, r3.1), (3, r4.1), (6, r6.1), (7, r7.1), (9, r8.1), (8, r9.1), (15, r15.1), (14, r16.1), (21, r22.1), (20, r23.1), (29, r31.1), (28, r32.1), (30, r34.1), (31, r35.1), (32, r36.1), (33, r37.1), (35, r38.1), (34, r39.1), (36, r40.1)]) r41.2) (
 (bo P .eql 3 (.tmp 7) (.const (.int .i64 4)) r7.1 (.int .i64 4) r32.2).bind fun r42 =>
 (vl r42.1 r42.2).bind fun r43 =>
 cnd r43.1 (
 (vl x0 r43.2).bind fun r44 =>
 (EV P 66 #[r44.1] r44.2).bind fun r45 =>
 (fa P 28 r4.1 1 r45.2).bind fun r46 =>
 (st P 23 r46.1 r45.1 r46.2).bind fun r47 =>
 spec_l20AnyVer_j1 (ups (env0 #[x0]) [(2, r1.1), (4, r2.1), (5, r3.1), (3, r4.1), (6, r6.1), (7, r7.1), (9, r8.1), (8, r9.1), (15, r15.1), (14, r16.1), (21, r22.1), (20, r23.1), (29, r31.1), (28, r32.1), (38, r42.1), (37, r43.1), (39, r44.1), (40, r45.1), (41, r46.1)]) r47.2) (
 (bo P .eql 3 (.tmp 7) (.const (.int .i64 5)) r7.1 (.int .i64 5) r43.2).bind fun r48 =>
 (vl r48.1 r48.2).bind fun r49 =>
 cnd r49.1 (
 (fa P 28 r4.1 4 r49.2).bind fun r50 =>
 (st P 4 r50.1 (.bool true) r50.2).bind fun r51 =>
 spec_l20AnyVer_j1 (ups (env0 #[x0]) [(2, r1.1), (4, r2.1), (5, r3.1), (3, r4.1), (6, r6.1), (7, r7.1), (9, r8.1), (8, r9.1), (15, r15.1), (14, r16.1), (21, r22.1), (20, r23.1), (29, r31.1), (28, r32.1), (38, r42.1), (37, r43.1), (43, r48.1), (42, r49.1), (44, r50.1)]) r51.2) (
 spec_l20AnyVer_j1 (ups (env0 #[x0]) [(2, r1.1), (4, r2.1), (5, r3.1), (3, r4.1), (6, r6.1), (7, r7.1), (9, r8.1), (8, r9.1), (15, r15.1), (14, r16.1), (21, r22.1), (20, r23.1), (29, r31.1), (28, r32.1), (38, r42.1), (37, r43.1), (43, r48.1), (42, r49.1)]) r49.2)))))) := by kernel_rfl
noncomputable def spec_l20Open_j1 (e : Env) (w : World) : Option (Value × World) := exC P (EV P) 33 11 (cB (cB (bodyOf P 33))) e w (kFn P (fnOf P 33))
theorem spec_l20Open_j1_eq (e : Env) (w : World) : spec_l20Open_j1 e w =
 (vl (e 0) w).bind fun r1 =>
 (bd P 86 #[(0, r1.1)] r1.2).bind fun r2 =>
 (bx P 86 r2.1 r2.2).bind fun r3 =>
 (vl r3.1 r3.2).bind fun r4 =>
 some (r4.1, r4.2) := by kernel_rfl
theorem spec_l20Open_fn (x0 : Value) (w : World) : fnC P (EV P) 33 #[x0] w =
 (vl (Go.Value.pointer none) w).bind fun r1 =>
 (vl x0 r1.2).bind fun r2 =>
 (b_len P #[34] 3 #[r2.1] r2.2).bind fun r3 =>
 (bo P .gtr 3 (.tmp 4) (.const (.int .i64 2000)) r3.1 (.int .i64 2000) r3.2).bind fun r4 =>
 cnd r4.1 (
 (vl x0 r4.2).bind fun r5 =>
 (sl P 34 r5.1 none (some (.int .i64 2000)) none r5.2).bind fun r6 =>
 (vl r6.1 r6.2).bind fun r7 =>
 spec_l20Open_j1 (ups (env0 #[x0]) [(2, r1.1), (3, r2.1), (4, r3.1), (5, r4.1), (6, r5.1), (7, r6.1), (0, r7.1)]) r7.2) (
 spec_l20Open_j1 (ups (env0 #[x0]) [(2, r1.1), (3, r2.1), (4, r3.1), (5, r4.1)]) r4.2) := by kernel_rfl
theorem strconv_Itoa_fn (x0 : Value) (w : World) : fnC P (EV P) 34 #[x0] w =
 (vl (Go.Value.string { data := #[] }) w).bind fun r1 =>
 (vl x0 r1.2).bind fun r2 =>
 (EV P 67 #[r2.1] r2.2).bind fun r3 =>
 (vl r3.1 r3.2).bind fun r4 =>
 some (r4.1, r4.2) := by kernel_rfl
theorem impl_Tag_text_fn (x0 : Value) (w : World) : fnC P (EV P) 35 #[x0] w =
 (bx P 23 x0 w).bind fun r1 =>
 (vl (Go.Value.string { data := #[] }) r1.2).bind fun r2 =>
 (fa P 23 r1.1 0 (dw r2.2)).bind fun r4 =>
 ifP (r4.2 = (dw r2.2)) <|
 (ld P 3 r4.1 (dw r2.2)).bind fun r5 =>
 ifP (r5.2 = (dw r2.2)) <|
 (fa P 23 r1.1 1 (dw r2.2)).bind fun r6 =>
 ifP (r6.2 = (dw r2.2)) <|
 (ld P 3 r6.1 (dw r2.2)).bind fun r7 =>
 ifP (r7.2 = (dw r2.2)) <|
 (EV P 34 #[r5.1] (dw r2.2)).bind fun r8 =>
 ifP (ld P 3 r6.1 r8.2 = some (r7.1, r8.2) ∧ fa P 23 r1.1 1 r8.2 = some (r6.1, r8.2) ∧ True ∧ True ∧ True) <|
 (bo P .add 9 (.tmp 5) (.const (Go.Value.string { data := #[46] })) r8.1 (Go.Value.string { data := #[46] }) r8.2).bind fun r9 =>
 ifP (r9.2 = r8.2) <|
 (EV P 34 #[r7.1] r8.2).bind fun r10 =>
 ifP (bo P .add 9 (.tmp 5) (.const (Go.Value.string { data := #[46] })) r8.1 (Go.Value.string { data := #[46] }) r10.2 = some (r9.1, r10.2) ∧ True ∧ True ∧ True ∧ True ∧ True) <|
 (bo P .add 9 (.tmp 6) (.tmp 9) r9.1 r10.1 r10.2).bind fun r11 =>
 ifP (r11.2 = r10.2) <|
 (vl r11.1 r10.2).bind fun r12 =>
 ifP (r12.2 = r10.2) <|
 some (r12.1, r10.2) := by kernel_rfl
noncomputable def impl_Past_text_l1 (e : Env) (w : World) : Option (Value × World) := exC P (EV P) 36 25 (.loop (cA (cA (cB (cA (cB (cB (bodyOf P 36)))))))) e w (kBlock 0 (kSeq P (EV P) 36 25 (cB (cB (cB (bodyOf P 36)))) (kFn P (fnOf P 36))))
theorem impl_Past_text_l1_eq (e : Env) (w : World) : impl_Past_text_l1 e w =
 (bo P .lss 3 (.tmp 13) (.tmp 12) (e 13) (e 12) w).bind fun r1 =>
 cnd r1.1 (
 (ia P 24 (e 11) (e 13) r1.2).bind fun r2 =>
 (ld P 23 r2.1 r2.2).bind fun r3 =>
 (al P 23 r3.2).bind fun r4 =>
 (st P 23 r4.1 r3.1 r4.2).bind fun r5 =>
 (vl (e 3) r5.2).bind fun r6 =>
 (ld P 23 r4.1 r6.2).bind fun r7 =>
 (EV P 35 #[r7.1] r7.2).bind fun r8 =>
 (bs P 41 1 #[(0, r8.1)] r8.2).bind fun r9 =>
 (b_append P #[41, 41] 41 #[r6.1, r9.1] r9.2).bind fun r10 =>
 (vl r10.1 r10.2).bind fun r11 =>
 (bo P .add 3 (.tmp 13) (.const (.int .i64 1)) (e 13) (.int .i64 1) r11.2).bind fun r12 =>
 (vl r12.1 r12.2).bind fun r13 =>
 impl_Past_text_l1 (ups e [(14, r1.1), (15, r2.1), (16, r3.1), (5, r4.1), (17, r6.1), (18, r7.1), (19, r8.1), (20, r9.1), (21, r10.1), (3, r11.1), (22, r12.1), (13, r13.1)]) r13.2) (
 (vl (e 3) r1.2).bind fun r14 =>
 (EV P 68 #[r14.1, (Go.Value.string { data := #[32] })] r14.2).bind fun r15 =>
 (vl r15.1 r15.2).bind fun r16 =>
 some (r16.1, r16.2)) := (exC_loop P (EV P) 36 25 (cA (cA (cB (cA (cB (cB (bodyOf P 36))))))) e w (kBlock 0 (kSeq P (EV P) 36 25 (cB (cB (cB (bodyOf P 36)))) (kFn P (fnOf P 36))))).trans (by kernel_rfl)
theorem impl_Past_text_fn (x0 : Value) (w : World) : fnC P (EV P) 36 #[x0] w =
 (bx P 26 x0 w).bind fun r1 =>
 (vl (Go.Value.string { data := #[] }) r1.2).bind fun r2 =>
 (fa P 26 r1.1 0 r2.2).bind fun r3 =>
 (ld P 24 r3.1 r3.2).bind fun r4 =>
 (b_len P #[24] 3 #[r4.1] r4.2).bind fun r5 =>
 (ms P 41 (.int .i64 0) r5.1 r5.2).bind fun r6 =>
 (vl r6.1 r6.2).bind fun r7 =>
 (fa P 26 r1.1 0 r7.2).bind fun r8 =>
 (ld P 24 r8.1 r8.2).bind fun r9 =>
 (b_len P #[24] 3 #[r9.1] r9.2).bind fun r10 =>
 (vl (.int .i64 0) r10.2).bind fun r11 =>
 impl_Past_text_l1 (ups (env0 #[x0]) [(1, r1.1), (2, r2.1), (6, r3.1), (7, r4.1), (8, r5.1), (9, r6.1), (3, r7.1), (10, r8.1), (11, r9.1), (12, r10.1), (13, r11.1)]) r11.2 := by kernel_rfl
theorem impl_Ver_rest_fn (x0 : Value) (w : World) : fnC P (EV P) 37 #[x0] w =
 (bx P 28 x0 w).bind fun r1 =>
 (vl (Go.Value.string { data := #[] }) r1.2).bind fun r2 =>
 (fa P 28 r1.1 4 r2.2).bind fun r3 =>
 (ld P 4 r3.1 r3.2).bind fun r4 =>
 cnd r4.1 (
 (vl (Go.Value.string { data := #[45] }) r4.2).bind fun r5 =>
 some (r5.1, r5.2)) (
 (fa P 28 r1.1 3 r4.2).bind fun r6 =>
 (ld P 9 r6.1 r6.2).bind fun r7 =>
 (bo P .add 9 (.const (Go.Value.string { data := #[61] })) (.tmp 6) (Go.Value.string { data := #[61] }) r7.1 r7.2).bind fun r8 =>
 (vl r8.1 r8.2).bind fun r9 =>
 some (r9.1, r9.2)) := by kernel_rfl
theorem impl_Ver_written_fn (x0 : Value) (w : World) : fnC P (EV P) 38 #[x0] w =
 (bx P 28 x0 w).bind fun r1 =>
 (vl (.bool false) r1.2).bind fun r2 =>
 (fa P 28 r1.1 0 r2.2).bind fun r3 =>
 (ld P 3 r3.1 r3.2).bind fun r4 =>
 (EV P 69 #[r4.1] r4.2).bind fun r5 =>
 (vl r5.1 r5.2).bind fun r6 =>
 (gif r6.1 true (fa P 28 r1.1 3 r6.2) r6.2).bind fun r7 =>
 (gif r6.1 true (ld P 9 r7.1 r7.2) r7.2).bind fun r8 =>
 (gif r6.1 true (EV P 70 #[r8.1] r8.2) r8.2).bind fun r9 =>
 (pickV r6.1 r9.1 (.bool false) r9.2).bind fun r10 =>
 (vl r10.1 r10.2).bind fun r11 =>
 (gif r11.1 true (fa P 28 r1.1 4 r11.2) r11.2).bind fun r12 =>
 (gif r11.1 true (ld P 4 r12.1 r12.2) r12.2).bind fun r13 =>
 (gif r11.1 true (uo P .not r13.1 r13.2) r13.2).bind fun r14 =>
 (gif r11.1 true (vl r14.1 r14.2) r14.2).bind fun r15 =>
 (gif r15.1 false (fa P 28 r1.1 3 r15.2) r15.2).bind fun r16 =>
 (gif r15.1 false (ld P 9 r16.1 r16.2) r16.2).bind fun r17 =>
 (gif r15.1 false (bo P .eql 9 (.tmp 17) (.const (Go.Value.string { data := #[] })) r17.1 (Go.Value.string { data := #[] }) r17.2) r17.2).bind fun r18 =>
 (gif r11.1 true (pickV r15.1 (.bool true) r18.1 r18.2) r18.2).bind fun r19 =>
 (pickV r11.1 r19.1 (.bool false) r19.2).bind fun r20 =>
 (vl r20.1 r20.2).bind fun r21 =>
 (gif r21.1 true (fa P 28 r1.1 2 r21.2) r21.2).bind fun r22 =>
 (gif r21.1 true (ld P 26 r22.1 r22.2) r22.2).bind fun r23 =>
 (gif r21.1 true (EV P 71 #[r23.1] r23.2) r23.2).bind fun r24 =>
 (pickV r21.1 r24.1 (.bool false) r24.2).bind fun r25 =>
 (vl r25.1 r25.2).bind fun r26 =>
 some (r26.1, r26.2) := by kernel_rfl
theorem impl_TagOk_fn (x0 : Value) (w : World) : fnC P (EV P) 39 #[x0] w =
 (bx P 23 x0 w).bind fun r1 =>
 (vl (.bool false) r1.2).bind fun r2 =>
 (ld P 23 r1.1 r2.2).bind fun r3 =>
 (bd P 23 #[] r3.2).bind fun r4 =>
 (bo P .eql 23 (.tmp 3) (.tmp 4) r3.1 r4.1 r4.2).bind fun r5 =>
 (vl r5.1 r5.2).bind fun r6 =>
 (gif r6.1 false (fa P 23 r1.1 0 r6.2) r6.2).bind fun r7 =>
 (gif r6.1 false (ld P 3 r7.1 r7.2) r7.2).bind fun r8 =>
 (gif r6.1 false (EV P 72 #[r8.1, (.int .i64 1), (.int .i64 999)] r8.2) r8.2).bind fun r9 =>
 (gif r6.1 false (vl r9.1 r9.2) r9.2).bind fun r10 =>
 (gif r10.1 true (fa P 23 r1.1 1 r10.2) r10.2).bind fun r11 =>
 (gif r10.1 true (ld P 3 r11.1 r11.2) r11.2).bind fun r12 =>
 (gif r10.1 true (EV P 73 #[r12.1] r12.2) r12.2).bind fun r13 =>
 (gif r6.1 false (pickV r10.1 r13.1 (.bool false) r13.2) r13.2).bind fun r14 =>
 (pickV r6.1 (.bool true) r14.1 r14.2).bind fun r15 =>
 (vl r15.1 r15.2).bind fun r16 =>
 some (r16.1, r16.2) := by kernel_rfl
noncomputable def impl_Past_latest_l1 (e : Env) (w : World) : Option (Value × World) := exC P (EV P) 40 19 (.loop (cA (cA (cB (cA (cB (cB (bodyOf P 40)))))))) e w (kBlock 0 (kSeq P (EV P) 40 19 (cB (cB (cB (bodyOf P 40)))) (kFn P (fnOf P 40))))
theorem impl_Past_latest_l1_eq (e : Env) (w : World) : impl_Past_latest_l1 e w =
 (bo P .lss 3 (.tmp 9) (.tmp 8) (e 9) (e 8) w).bind fun r1 =>
 cnd r1.1 (
 (ia P 24 (e 7) (e 9) r1.2).bind fun r2 =>
 (ld P 23 r2.1 r2.2).bind fun r3 =>
 (al P 23 r3.2).bind fun r4 =>
 (st P 23 r4.1 r3.1 r4.2).bind fun r5 =>
 (vl (e 3) r5.2).bind fun r6 =>
 (fa P 23 r4.1 0 r6.2).bind fun r7 =>
 (ld P 3 r7.1 r7.2).bind fun r8 =>
 (b_max P #[3, 3] 3 #[r6.1, r8.1] r8.2).bind fun r9 =>
 (vl r9.1 r9.2).bind fun r10 =>
 (bo P .add 3 (.tmp 9) (.const (.int .i64 1)) (e 9) (.int .i64 1) r10.2).bind fun r11 =>
 (vl r11.1 r11.2).bind fun r12 =>
 impl_Past_latest_l1 (ups e [(10, r1.1), (11, r2.1), (12, r3.1), (5, r4.1), (13, r6.1), (14, r7.1), (15, r8.1), (16, r9.1), (3, r10.1), (17, r11.1), (9, r12.1)]) r12.2) (
 (vl (e 3) r1.2).bind fun r13 =>
 (vl r13.1 r13.2).bind fun r14 =>
 some (r14.1, r14.2)) := (exC_loop P (EV P) 40 19 (cA (cA (cB (cA (cB (cB (bodyOf P 40))))))) e w (kBlock 0 (kSeq P (EV P) 40 19 (cB (cB (cB (bodyOf P 40)))) (kFn P (fnOf P 40))))).trans (by kernel_rfl)
theorem impl_Past_latest_fn (x0 : Value) (w : World) : fnC P (EV P) 40 #[x0] w =
 (bx P 26 x0 w).bind fun r1 =>
 (vl (.int .i64 0) r1.2).bind fun r2 =>
 (vl (.int .i64 0) r2.2).bind fun r3 =>
 (fa P 26 r1.1 0 r3.2).bind fun r4 =>
 (ld P 24 r4.1 r4.2).bind fun r5 =>
 (b_len P #[24] 3 #[r5.1] r5.2).bind fun r6 =>
 (vl (.int .i64 0) r6.2).bind fun r7 =>
 impl_Past_latest_l1 (ups (env0 #[x0]) [(1, r1.1), (2, r2.1), (3, r3.1), (6, r4.1), (7, r5.1), (8, r6.1), (9, r7.1)]) r7.2 := by kernel_rfl
theorem impl_Tag_compare_fn (x0 x1 : Value) (w : World) : fnC P (EV P) 41 #[x0, x1] w =
 (bx P 23 x0 w).bind fun r1 =>
 (bx P 23 x1 r1.2).bind fun r2 =>
 (vl (.int .i64 0) r2.2).bind fun r3 =>
 (fa P 23 r1.1 0 (dw r3.2)).bind fun r5 =>
 ifP (r5.2 = (dw r3.2)) <|
 (ld P 3 r5.1 (dw r3.2)).bind fun r6 =>
 ifP (r6.2 = (dw r3.2)) <|
 (fa P 23 r2.1 0 (dw r3.2)).bind fun r7 =>
 ifP (r7.2 = (dw r3.2)) <|
 (ld P 3 r7.1 (dw r3.2)).bind fun r8 =>
 ifP (r8.2 = (dw r3.2)) <|
 (fa P 23 r1.1 1 (dw r3.2)).bind fun r9 =>
 ifP (r9.2 = (dw r3.2)) <|
 (ld P 3 r9.1 (dw r3.2)).bind fun r10 =>
 ifP (r10.2 = (dw r3.2)) <|
 (fa P 23 r2.1 1 (dw r3.2)).bind fun r11 =>
 ifP (r11.2 = (dw r3.2)) <|
 (ld P 3 r11.1 (dw r3.2)).bind fun r12 =>
 ifP (r12.2 = (dw r3.2)) <|
 (EV P 75 #[r6.1, r8.1] (dw r3.2)).bind fun r13 =>
 ifP (ld P 3 r11.1 r13.2 = some (r12.1, r13.2) ∧ fa P 23 r2.1 1 r13.2 = some (r11.1, r13.2) ∧ ld P 3 r9.1 r13.2 = some (r10.1, r13.2) ∧ fa P 23 r1.1 1 r13.2 = some (r9.1, r13.2) ∧ True ∧ True ∧ True ∧ True ∧ True) <|
 (EV P 75 #[r10.1, r12.1] r13.2).bind fun r14 =>
 ifP (True ∧ True ∧ True ∧ True ∧ True ∧ True ∧ True ∧ True ∧ True) <|
 (bs P 82 2 #[(0, r13.1), (1, r14.1)] r14.2).bind fun r15 =>
 ifP (True ∧ True ∧ True ∧ True ∧ True ∧ True ∧ True ∧ True ∧ True) <|
 (EV P 74 #[r15.1] r15.2).bind fun r16 =>
 ifP (True ∧ True ∧ True ∧ True ∧ True ∧ True ∧ True ∧ True ∧ True) <|
 (vl r16.1 r16.2).bind fun r17 =>
 ifP (r17.2 = r16.2) <|
 some (r17.1, r16.2) := by kernel_rfl
noncomputable def laws_cfPast_l1 (e : Env) (w : World) : Option (Value × World) := exC P (EV P) 42 31 (.loop (cA (cA (cB (cA (cB (cB (bodyOf P 42)))))))) e w (kBlock 0 (kSeq P (EV P) 42 31 (cB (cB (cB (bodyOf P 42)))) (kFn P (fnOf P 42))))
theorem laws_cfPast_l1_eq (e : Env) (w : World) : laws_cfPast_l1 e w =
 (vl (e 5) w).bind fun r1 =>
 (fa P 26 (e 2) 0 r1.2).bind fun r2 =>
 (ld P 24 r2.1 r2.2).bind fun r3 =>
 (b_len P #[24] 3 #[r3.1] r3.2).bind fun r4 =>
 (bo P .lss 3 (.tmp 13) (.tmp 16) r1.1 r4.1 r4.2).bind fun r5 =>
 cnd r5.1 (
 (fa P 26 (e 2) 0 (dw r5.2)).bind fun r7 =>
 ifP (r7.2 = (dw r5.2)) <|
 (ld P 24 r7.1 (dw r5.2)).bind fun r8 =>
 ifP (r8.2 = (dw r5.2)) <|
 (vl (e 5) (dw r5.2)).bind fun r9 =>
 ifP (r9.2 = (dw r5.2)) <|
 (ia P 24 r8.1 r9.1 (dw r5.2)).bind fun r10 =>
 ifP (r10.2 = (dw r5.2)) <|
 (ld P 23 r10.1 (dw r5.2)).bind fun r11 =>
 ifP (r11.2 = (dw r5.2)) <|
 (fa P 26 (e 3) 0 (dw r5.2)).bind fun r12 =>
 ifP (r12.2 = (dw r5.2)) <|
 (ld P 24 r12.1 (dw r5.2)).bind fun r13 =>
 ifP (r13.2 = (dw r5.2)) <|
 (vl (e 5) (dw r5.2)).bind fun r14 =>
 ifP (r14.2 = (dw r5.2)) <|
 (ia P 24 r13.1 r14.1 (dw r5.2)).bind fun r15 =>
 ifP (r15.2 = (dw r5.2)) <|
 (ld P 23 r15.1 (dw r5.2)).bind fun r16 =>
 ifP (r16.2 = (dw r5.2)) <|
 (bo P .neq 23 (.tmp 24) (.tmp 29) r11.1 r16.1 (dw r5.2)).bind fun r17 =>
 ifP (r17.2 = (dw r5.2)) <|
 cnd r17.1 (
 (vl (.bool false) (dw r5.2)).bind fun r18 =>
 some (r18.1, r18.2)) (
 (vl (e 5) (dw r5.2)).bind fun r19 =>
 (bo P .add 3 (.tmp 18) (.const (.int .i64 1)) r19.1 (.int .i64 1) r19.2).bind fun r20 =>
 (vl r20.1 r20.2).bind fun r21 =>
 laws_cfPast_l1 (ups e [(13, r1.1), (14, r2.1), (15, r3.1), (16, r4.1), (17, r5.1), (20, r7.1), (21, r8.1), (22, r9.1), (23, r10.1), (24, r11.1), (25, r12.1), (26, r13.1), (27, r14.1), (28, r15.1), (29, r16.1), (30, r17.1), (18, r19.1), (19, r20.1), (5, r21.1)]) r21.2)) (
 (vl (.bool true) r5.2).bind fun r22 =>
 some (r22.1, r22.2)) := (exC_loop P (EV P) 42 31 (cA (cA (cB (cA (cB (cB (bodyOf P 42))))))) e w (kBlock 0 (kSeq P (EV P) 42 31 (cB (cB (cB (bodyOf P 42)))) (kFn P (fnOf P 42))))).trans (by kernel_rfl)
theorem laws_cfPast_fn (x0 x1 : Value) (w : World) : fnC P (EV P) 42 #[x0, x1] w =
 (bx P 26 x0 w).bind fun r1 =>
 (bx P 26 x1 r1.2).bind fun r2 =>
 (vl (.bool false) r2.2).bind fun r3 =>
 (fa P 26 r1.1 0 r3.2).bind fun r4 =>
 (ld P 24 r4.1 r4.2).bind fun r5 =>
 (b_len P #[24] 3 #[r5.1] r5.2).bind fun r6 =>
 (fa P 26 r2.1 0 r6.2).bind fun r7 =>
 (ld P 24 r7.1 r7.2).bind fun r8 =>
 (b_len P #[24] 3 #[r8.1] r8.2).bind fun r9 =>
 (bo P .neq 3 (.tmp 8) (.tmp 11) r6.1 r9.1 r9.2).bind fun r10 =>
 cnd r10.1 (
 (vl (.bool false) r10.2).bind fun r11 =>
 some (r11.1, r11.2)) (
 (vl (.int .i64 0) r10.2).bind fun r12 =>
 laws_cfPast_l1 (ups (env0 #[x0, x1]) [(2, r1.1), (3, r2.1), (4, r3.1), (6, r4.1), (7, r5.1), (8, r6.1), (9, r7.1), (10, r8.1), (11, r9.1), (12, r10.1), (5, r12.1)]) r12.2) := by kernel_rfl
noncomputable def spec_l20Ver_l1 (e : Env) (w : World) : Option (Value × World) := exC P (EV P) 43 54 (.loop (cA (cA (cB (cA (cB (cB (cB (bodyOf P 43))))))))) e w (kBlock 0 (kSeq P (EV P) 43 54 (cB (cB (cB (cB (bodyOf P 43))))) (kFn P (fnOf P 43))))
noncomputable def spec_l20Ver_j1 (e : Env) (w : World) : Option (Value × World) := exC P (EV P) 43 54 (cB (cB (cA (cA (cB (cA (cB (cB (cB (bodyOf P 43)))))))))) e w (kLoop P (EV P) 43 54 (cA (cA (cB (cA (cB (cB (cB (bodyOf P 43)))))))) (kBlock 0 (kSeq P (EV P) 43 54 (cB (cB (cB (cB (bodyOf P 43))))) (kFn P (fnOf P 43)))))
noncomputable def spec_l20Ver_j2 (e : Env) (w : World) : Option (Value × World) := exC P (EV P) 43 54 (cB (cB (cB (cB (cB (cB (bodyOf P 43))))))) e w (kFn P (fnOf P 43))
theorem spec_l20Ver_l1_eq (e : Env) (w : World) : spec_l20Ver_l1 e w =
 (vl (e 5) w).bind fun r1 =>
 (bo P .lss 3 (.tmp 12) (.const (.int .i64 4)) r1.1 (.int .i64 4) r1.2).bind fun r2 =>
 cnd r2.1 (
 (fa P 28 (e 3) 2 (dw r2.2)).bind fun r4 =>
 ifP (r4.2 = (dw r2.2)) <|
 (fa P 26 r4.1 0 (dw r2.2)).bind fun r5 =>
 ifP (r5.2 = (dw r2.2)) <|
 (ld P 24 r5.1 (dw r2.2)).bind fun r6 =>
 ifP (r6.2 = (dw r2.2)) <|
 (vl (e 5) (dw r2.2)).bind fun r7 =>
 ifP (r7.2 = (dw r2.2)) <|
 (vl (e 0) (dw r2.2)).bind fun r8 =>
 ifP (r8.2 = (dw r2.2)) <|
 (EV P 78 #[r8.1] (dw r2.2)).bind fun r9 =>
 ifP (ld P 24 r5.1 r9.2 = some (r6.1, r9.2) ∧ fa P 26 r4.1 0 r9.2 = some (r5.1, r9.2) ∧ fa P 28 (e 3) 2 r9.2 = some (r4.1, r9.2) ∧ True) <|
 (ia P 24 r6.1 r7.1 r9.2).bind fun r10 =>
 ifP (r10.2 = r9.2) <|
 (st P 23 r10.1 r9.1 r9.2).bind fun r11 =>
 ifP (True ∧ True ∧ True ∧ True ∧ True) <|
 (fa P 28 (e 3) 2 r11.2).bind fun r12 =>
 (fa P 26 r12.1 0 r12.2).bind fun r13 =>
 (ld P 24 r13.1 r13.2).bind fun r14 =>
 (vl (e 5) r14.2).bind fun r15 =>
 (ia P 24 r14.1 r15.1 r15.2).bind fun r16 =>
 (fa P 23 r16.1 0 r16.2).bind fun r17 =>
 (ld P 3 r17.1 r17.2).bind fun r18 =>
 (vl (e 4) r18.2).bind fun r19 =>
 (bo P .gtr 3 (.tmp 29) (.tmp 30) r18.1 r19.1 r19.2).bind fun r20 =>
 cnd r20.1 (
 (fa P 28 (e 3) 2 r20.2).bind fun r21 =>
 (fa P 26 r21.1 0 r21.2).bind fun r22 =>
 (ld P 24 r22.1 r22.2).bind fun r23 =>
 (vl (e 5) r23.2).bind fun r24 =>
 (ia P 24 r23.1 r24.1 r24.2).bind fun r25 =>
 (fa P 23 r25.1 0 r25.2).bind fun r26 =>
 (ld P 3 r26.1 r26.2).bind fun r27 =>
 (vl r27.1 r27.2).bind fun r28 =>
 spec_l20Ver_j1 (ups e [(12, r1.1), (13, r2.1), (16, r4.1), (17, r5.1), (18, r6.1), (19, r7.1), (20, r8.1), (21, r9.1), (22, r10.1), (23, r12.1), (24, r13.1), (25, r14.1), (26, r15.1), (27, r16.1), (28, r17.1), (29, r18.1), (30, r19.1), (31, r20.1), (32, r21.1), (33, r22.1), (34, r23.1), (35, r24.1), (36, r25.1), (37, r26.1), (38, r27.1), (4, r28.1)]) r28.2) (
 spec_l20Ver_j1 (ups e [(12, r1.1), (13, r2.1), (16, r4.1), (17, r5.1), (18, r6.1), (19, r7.1), (20, r8.1), (21, r9.1), (22, r10.1), (23, r12.1), (24, r13.1), (25, r14.1), (26, r15.1), (27, r16.1), (28, r17.1), (29, r18.1), (30, r19.1), (31, r20.1)]) r20.2)) (
 (vl (e 4) r2.2).bind fun r29 =>
 (bo P .add 3 (.tmp 39) (.const (.int .i64 1)) r29.1 (.int .i64 1) r29.2).bind fun r30 =>
 (vl (e 0) r30.2).bind fun r31 =>
 (EV P 44 #[r31.1, (.int .i64 3)] r31.2).bind fun r32 =>
 (bo P .add 3 (.tmp 40) (.tmp 42) r30.1 r32.1 r32.2).bind fun r33 =>
 (vl (e 0) r33.2).bind fun r34 =>
 (EV P 44 #[r34.1, (.int .i64 3)] r34.2).bind fun r35 =>
 (bd P 23 #[(0, r33.1), (1, r35.1)] r35.2).bind fun r36 =>
 (fa P 28 (e 3) 1 r36.2).bind fun r37 =>
 (st P 23 r37.1 r36.1 r37.2).bind fun r38 =>
 (vl (e 0) r38.2).bind fun r39 =>
 (EV P 44 #[r39.1, (.int .i64 6)] r39.2).bind fun r40 =>
 (bo P .eql 3 (.tmp 49) (.const (.int .i64 0)) r40.1 (.int .i64 0) r40.2).bind fun r41 =>
 cnd r41.1 (
 (fa P 28 (e 3) 3 r41.2).bind fun r42 =>
 (st P 9 r42.1 (Go.Value.string { data := #[] }) r42.2).bind fun r43 =>
 (fa P 28 (e 3) 4 r43.2).bind fun r44 =>
 (st P 4 r44.1 (.bool true) r44.2).bind fun r45 =>
 spec_l20Ver_j2 (ups e [(12, r1.1), (13, r2.1), (39, r29.1), (40, r30.1), (41, r31.1), (42, r32.1), (43, r33.1), (44, r34.1), (45, r35.1), (46, r36.1), (47, r37.1), (48, r39.1), (49, r40.1), (50, r41.1), (51, r42.1), (52, r44.1)]) r45.2) (
 spec_l20Ver_j2 (ups e [(12, r1.1), (13, r2.1), (39, r29.1), (40, r30.1), (41, r31.1), (42, r32.1), (43, r33.1), (44, r34.1), (45, r35.1), (46, r36.1), (47, r37.1), (48, r39.1), (49, r40.1), (50, r41.1)]) r41.2)) := (exC_loop P (EV P) 43 54 (cA (cA (cB (cA (cB (cB (cB (bodyOf P 43)))))))) e w (kBlock 0 (kSeq P (EV P) 43 54 (cB (cB (cB (cB (bodyOf P 43))))) (kFn P (fnOf P 43))))).trans (by kernel_rfl)
theorem spec_l20Ver_j1_eq (e : Env) (w : World) : spec_l20Ver_j1 e w =
 (vl (e 5) w).bind fun r1 =>
 (bo P .add 3 (.tmp 14) (.const (.int .i64 1)) r1.1 (.int .i64 1) r1.2).bind fun r2 =>
 (vl r2.1 r2.2).bind fun r3 =>
 spec_l20Ver_l1 (ups e [(14, r1.1), (15, r2.1), (5, r3.1)]) r3.2 := by kernel_rfl
theorem spec_l20Ver_j2_eq (e : Env) (w : World) : spec_l20Ver_j2 e w =
 (ld P 28 (e 3) w).bind fun r1 =>
 (st P 28 (e 2) r1.1 r1.2).bind fun r2 =>
 ((ld P 28 (e 2) r2.2).bind fun r3 => ifP (r3.2 = r2.2) (some r3.1)).bind fun v4 =>
 some (v4, r2.2) := by kernel_rfl
theorem spec_l20Ver_fn (x0 : Value) (w : World) : fnC P (EV P) 43 #[x0] w =
 (al P 28 w).bind fun r1 =>
 (vl x0 r1.2).bind fun r2 =>
 (EV P 44 #[r2.1, (.int .i64 4)] r2.2).bind fun r3 =>
 (EV P 76 #[] r3.2).bind fun r4 =>
 (vl x0 r4.2).bind fun r5 =>
 (EV P 77 #[r5.1] r5.2).bind fun r6 =>
 (bd P 28 #[(0, r3.1), (2, r4.1), (3, r6.1)] r6.2).bind fun r7 =>
 (al P 28 r7.2).bind fun r8 =>
 (st P 28 r8.1 r7.1 r8.2).bind fun r9 =>
 (vl (.int .i64 0) r9.2).bind fun r10 =>
 (vl (.int .i64 0) r10.2).bind fun r11 =>
 spec_l20Ver_l1 (ups (env0 #[x0]) [(2, r1.1), (6, r2.1), (7, r3.1), (8, r4.1), (9, r5.1), (10, r6.1), (11, r7.1), (3, r8.1), (4, r10.1), (5, r11.1)]) r11.2 := by kernel_rfl
end Go.Proofs.YtgdacclgooaodaaGreatDoor.X
