/- A part of the proof: an evaluator of the model, its laws, and contracts of functions; no condition. -/
import Derived.Test.YtcafhepclddcaaaEvT
set_option linter.unusedVariables false
set_option maxRecDepth 100000
namespace Go.Proofs.Ytcafhepclddcaaa.X
open Go Go.Ev
theorem laws_FnExactCauseAhead_fn (x0 x1 x2 : Value) (w : World) : fnC P (EV P) 8 #[x0, x1, x2] w =
 (bx P 39 x1 w).bind fun r1 =>
 (bx P 39 x2 r1.2).bind fun r2 =>
 (vl (.bool false) r2.2).bind fun r3 =>
 (vl (.int .i64 1048576) r3.2).bind fun r4 =>
 (vl x0 r4.2).bind fun r5 =>
 (vl r4.1 r5.2).bind fun r6 =>
 (EV P 12 #[r5.1, r6.1] r6.2).bind fun r7 =>
 (vl r7.1 r7.2).bind fun r8 =>
 (vl r8.1 r8.2).bind fun r9 =>
 (bo P .lss 3 (.tmp 14) (.const (.int .i64 0)) r9.1 (.int .i64 0) r9.2).bind fun r10 =>
 cnd r10.1 (
 (vl (.bool true) r10.2).bind fun r11 =>
 some (r11.1, r11.2)) (
 (vl x0 (dw r10.2)).bind fun r13 =>
 ifP (r13.2 = (dw r10.2)) <|
 (ld P 39 r1.1 (dw r10.2)).bind fun r14 =>
 ifP (r14.2 = (dw r10.2)) <|
 (ld P 39 r2.1 (dw r10.2)).bind fun r15 =>
 ifP (r15.2 = (dw r10.2)) <|
 (EV P 14 #[r13.1] (dw r10.2)).bind fun r16 =>
 ifP (ld P 39 r2.1 r16.2 = some (r15.1, r16.2) ∧ ld P 39 r1.1 r16.2 = some (r14.1, r16.2) ∧ True) <|
 (EV P 26 #[r14.1] r16.2).bind fun r17 =>
 ifP (ld P 39 r2.1 r17.2 = some (r15.1, r17.2) ∧ True ∧ True) <|
 (EV P 26 #[r15.1] r17.2).bind fun r18 =>
 ifP (True ∧ True ∧ True) <|
 (EV P 33 #[r16.1, r17.1, r18.1] r18.2).bind fun r19 =>
 ifP (True ∧ True ∧ True) <|
 (vl r19.1 r19.2).bind fun r20 =>
 ifP (r20.2 = r19.2) <|
 (vl x0 r19.2).bind fun r21 =>
 (EV P 14 #[r21.1] r21.2).bind fun r22 =>
 (vl r22.1 r22.2).bind fun r23 =>
 (vl r23.1 (dw r23.2)).bind fun r25 =>
 ifP (r25.2 = (dw r23.2)) <|
 (ld P 39 r1.1 (dw r23.2)).bind fun r26 =>
 ifP (r26.2 = (dw r23.2)) <|
 (ld P 39 r2.1 (dw r23.2)).bind fun r27 =>
 ifP (r27.2 = (dw r23.2)) <|
 (EV P 26 #[r26.1] (dw r23.2)).bind fun r28 =>
 ifP (ld P 39 r2.1 r28.2 = some (r27.1, r28.2) ∧ True ∧ True) <|
 (EV P 26 #[r27.1] r28.2).bind fun r29 =>
 ifP (True ∧ True ∧ True) <|
 (EV P 34 #[r25.1, r28.1, r29.1] r29.2).bind fun r30 =>
 ifP (True ∧ True ∧ True) <|
 (vl r30.1 r30.2).bind fun r31 =>
 ifP (r31.2 = r30.2) <|
 (vl r31.1 r30.2).bind fun r32 =>
 (vl r20.1 r32.2).bind fun r33 =>
 (bo P .neq 4 (.tmp 31) (.tmp 32) r32.1 r33.1 r33.2).bind fun r34 =>
 cnd r34.1 (
 (vl (.bool false) r34.2).bind fun r35 =>
 some (r35.1, r35.2)) (
 (vl r23.1 r34.2).bind fun r36 =>
 (vl x0 r36.2).bind fun r37 =>
 (EV P 14 #[r37.1] r37.2).bind fun r38 =>
 (EV P 16 #[r36.1, r38.1] r38.2).bind fun r39 =>
 (uo P .not r39.1 r39.2).bind fun r40 =>
 cnd r40.1 (
 (vl (.bool false) r40.2).bind fun r41 =>
 some (r41.1, r41.2)) (
 (vl (.bool true) r40.2).bind fun r42 =>
 some (r42.1, r42.2)))) := by kernel_rfl
theorem laws_szDoneS_fn (x0 x1 : Value) (w : World) : fnC P (EV P) 12 #[x0, x1] w =
 (vl (.int .i64 0) w).bind fun r1 =>
 (vl x1 r1.2).bind fun r2 =>
 (vl x0 r2.2).bind fun r3 =>
 (b_len P #[22] 3 #[r3.1] r3.2).bind fun r4 =>
 (bo P .sub 3 (.tmp 5) (.tmp 7) r2.1 r4.1 r4.2).bind fun r5 =>
 (vl r5.1 r5.2).bind fun r6 =>
 (vl r6.1 r6.2).bind fun r7 =>
 (bo P .lss 3 (.tmp 9) (.const (.int .i64 0)) r7.1 (.int .i64 0) r7.2).bind fun r8 =>
 cnd r8.1 (
 (vl (.int .i64 (-1)) r8.2).bind fun r9 =>
 some (r9.1, r9.2)) (
 (vl r6.1 r8.2).bind fun r10 =>
 (vl r10.1 r10.2).bind fun r11 =>
 some (r11.1, r11.2)) := by kernel_rfl
noncomputable def laws_toDoneS_l1 (e : Env) (w : World) : Option (Value × World) := exC P (EV P) 14 23 (.loop (cA (cA (cB (cA (cB (cB (bodyOf P 14)))))))) e w (kBlock 0 (kSeq P (EV P) 14 23 (cB (cB (cB (bodyOf P 14)))) (kFn P (fnOf P 14))))
theorem laws_toDoneS_l1_eq (e : Env) (w : World) : laws_toDoneS_l1 e w =
 (vl (e 4) w).bind fun r1 =>
 (vl (e 0) r1.2).bind fun r2 =>
 (b_len P #[22] 3 #[r2.1] r2.2).bind fun r3 =>
 (bo P .lss 3 (.tmp 8) (.tmp 10) r1.1 r3.1 r3.2).bind fun r4 =>
 cnd r4.1 (
 (vl (e 3) r4.2).bind fun r5 =>
 (vl (e 4) r5.2).bind fun r6 =>
 (vl (e 0) r6.2).bind fun r7 =>
 (vl (e 4) r7.2).bind fun r8 =>
 (ia P 22 r7.1 r8.1 r8.2).bind fun r9 =>
 (ld P 69 r9.1 r9.2).bind fun r10 =>
 (EV P 48 #[r10.1] r10.2).bind fun r11 =>
 (ia P 25 r5.1 r6.1 r11.2).bind fun r12 =>
 (st P 66 r12.1 r11.1 r12.2).bind fun r13 =>
 (vl (e 4) r13.2).bind fun r14 =>
 (bo P .add 3 (.tmp 12) (.const (.int .i64 1)) r14.1 (.int .i64 1) r14.2).bind fun r15 =>
 (vl r15.1 r15.2).bind fun r16 =>
 laws_toDoneS_l1 (ups e [(8, r1.1), (9, r2.1), (10, r3.1), (11, r4.1), (14, r5.1), (15, r6.1), (16, r7.1), (17, r8.1), (18, r9.1), (19, r10.1), (20, r11.1), (21, r12.1), (12, r14.1), (13, r15.1), (4, r16.1)]) r16.2) (
 (vl (e 3) r4.2).bind fun r17 =>
 (vl r17.1 r17.2).bind fun r18 =>
 some (r18.1, r18.2)) := (exC_loop P (EV P) 14 23 (cA (cA (cB (cA (cB (cB (bodyOf P 14))))))) e w (kBlock 0 (kSeq P (EV P) 14 23 (cB (cB (cB (bodyOf P 14)))) (kFn P (fnOf P 14))))).trans (by kernel_rfl)
theorem laws_toDoneS_fn (x0 : Value) (w : World) : fnC P (EV P) 14 #[x0] w =
 (vl (Go.Value.slice none 0 0) w).bind fun r1 =>
 (vl x0 r1.2).bind fun r2 =>
 (b_len P #[22] 3 #[r2.1] r2.2).bind fun r3 =>
 (ms P 25 r3.1 r3.1 r3.2).bind fun r4 =>
 (vl r4.1 r4.2).bind fun r5 =>
 (vl (.int .i64 0) r5.2).bind fun r6 =>
 laws_toDoneS_l1 (ups (env0 #[x0]) [(2, r1.1), (5, r2.1), (6, r3.1), (7, r4.1), (3, r5.1), (4, r6.1)]) r6.2 := by kernel_rfl
noncomputable def laws_eqDoneS_l1 (e : Env) (w : World) : Option (Value × World) := exC P (EV P) 16 27 (.loop (cA (cA (cB (cA (cB (cB (bodyOf P 16)))))))) e w (kBlock 0 (kSeq P (EV P) 16 27 (cB (cB (cB (bodyOf P 16)))) (kFn P (fnOf P 16))))
theorem laws_eqDoneS_l1_eq (e : Env) (w : World) : laws_eqDoneS_l1 e w =
 (vl (e 5) w).bind fun r1 =>
 (vl (e 0) r1.2).bind fun r2 =>
 (b_len P #[25] 3 #[r2.1] r2.2).bind fun r3 =>
 (bo P .lss 3 (.tmp 11) (.tmp 13) r1.1 r3.1 r3.2).bind fun r4 =>
 cnd r4.1 (
 (vl (e 0) (dw r4.2)).bind fun r6 =>
 ifP (r6.2 = (dw r4.2)) <|
 (vl (e 5) (dw r4.2)).bind fun r7 =>
 ifP (r7.2 = (dw r4.2)) <|
 (ia P 25 r6.1 r7.1 (dw r4.2)).bind fun r8 =>
 ifP (r8.2 = (dw r4.2)) <|
 (ld P 66 r8.1 (dw r4.2)).bind fun r9 =>
 ifP (r9.2 = (dw r4.2)) <|
 (vl (e 1) (dw r4.2)).bind fun r10 =>
 ifP (r10.2 = (dw r4.2)) <|
 (vl (e 5) (dw r4.2)).bind fun r11 =>
 ifP (r11.2 = (dw r4.2)) <|
 (ia P 25 r10.1 r11.1 (dw r4.2)).bind fun r12 =>
 ifP (r12.2 = (dw r4.2)) <|
 (ld P 66 r12.1 (dw r4.2)).bind fun r13 =>
 ifP (r13.2 = (dw r4.2)) <|
 (EV P 51 #[r9.1, r13.1] (dw r4.2)).bind fun r14 =>
 ifP (True ∧ True ∧ True ∧ True ∧ True) <|
 (uo P .not r14.1 r14.2).bind fun r15 =>
 ifP (r15.2 = r14.2) <|
 cnd r15.1 (
 (vl (.bool false) r14.2).bind fun r16 =>
 some (r16.1, r16.2)) (
 (vl (e 5) r14.2).bind fun r17 =>
 (bo P .add 3 (.tmp 15) (.const (.int .i64 1)) r17.1 (.int .i64 1) r17.2).bind fun r18 =>
 (vl r18.1 r18.2).bind fun r19 =>
 laws_eqDoneS_l1 (ups e [(11, r1.1), (12, r2.1), (13, r3.1), (14, r4.1), (17, r6.1), (18, r7.1), (19, r8.1), (20, r9.1), (21, r10.1), (22, r11.1), (23, r12.1), (24, r13.1), (25, r14.1), (26, r15.1), (15, r17.1), (16, r18.1), (5, r19.1)]) r19.2)) (
 (vl (.bool true) r4.2).bind fun r20 =>
 some (r20.1, r20.2)) := (exC_loop P (EV P) 16 27 (cA (cA (cB (cA (cB (cB (bodyOf P 16))))))) e w (kBlock 0 (kSeq P (EV P) 16 27 (cB (cB (cB (bodyOf P 16)))) (kFn P (fnOf P 16))))).trans (by kernel_rfl)
theorem laws_eqDoneS_fn (x0 x1 : Value) (w : World) : fnC P (EV P) 16 #[x0, x1] w =
 (vl (.bool false) w).bind fun r1 =>
 (vl x0 r1.2).bind fun r2 =>
 (b_len P #[25] 3 #[r2.1] r2.2).bind fun r3 =>
 (vl x1 r3.2).bind fun r4 =>
 (b_len P #[25] 3 #[r4.1] r4.2).bind fun r5 =>
 (bo P .neq 3 (.tmp 7) (.tmp 9) r3.1 r5.1 r5.2).bind fun r6 =>
 cnd r6.1 (
 (vl (.bool false) r6.2).bind fun r7 =>
 some (r7.1, r7.2)) (
 (vl (.int .i64 0) r6.2).bind fun r8 =>
 laws_eqDoneS_l1 (ups (env0 #[x0, x1]) [(4, r1.1), (6, r2.1), (7, r3.1), (8, r4.1), (9, r5.1), (10, r6.1), (5, r8.1)]) r8.2) := by kernel_rfl
theorem laws_toTag_fn (x0 : Value) (w : World) : fnC P (EV P) 26 #[x0] w =
 (bx P 39 x0 w).bind fun r1 =>
 (al P 42 r1.2).bind fun r2 =>
 (al P 42 r2.2).bind fun r3 =>
 (fa P 39 r1.1 0 r3.2).bind fun r4 =>
 (ld P 3 r4.1 r4.2).bind fun r5 =>
 (fa P 42 r3.1 0 r5.2).bind fun r6 =>
 (st P 3 r6.1 r5.1 r6.2).bind fun r7 =>
 (fa P 39 r1.1 1 r7.2).bind fun r8 =>
 (ld P 3 r8.1 r8.2).bind fun r9 =>
 (fa P 42 r3.1 1 r9.2).bind fun r10 =>
 (st P 3 r10.1 r9.1 r10.2).bind fun r11 =>
 (ld P 42 r3.1 r11.2).bind fun r12 =>
 (st P 42 r2.1 r12.1 r12.2).bind fun r13 =>
 ((ld P 42 r2.1 r13.2).bind fun r14 => ifP (r14.2 = r13.2) (some r14.1)).bind fun v15 =>
 some (v15, r13.2) := by kernel_rfl
theorem spec_CauseAhead_fn (x0 x1 x2 : Value) (w : World) : fnC P (EV P) 33 #[x0, x1, x2] w =
 (bx P 42 x1 w).bind fun r1 =>
 (bx P 42 x2 r1.2).bind fun r2 =>
 (vl (.bool false) r2.2).bind fun r3 =>
 (vl x0 r3.2).bind fun r4 =>
 (EV P 59 #[r4.1] r4.2).bind fun r5 =>
 (vl r5.1 r5.2).bind fun r6 =>
 (vl x0 r6.2).bind fun r7 =>
 (EV P 52 #[r7.1] r7.2).bind fun r8 =>
 (vl r8.1 r8.2).bind fun r9 =>
 (gif r9.1 true (vl r6.1 r9.2) r9.2).bind fun r10 =>
 (gif r9.1 true (ld P 42 r1.1 r10.2) r10.2).bind fun r11 =>
 (gif r9.1 true (EV P 64 #[r10.1, r11.1] r11.2) r11.2).bind fun r12 =>
 (pickV r9.1 r12.1 (.bool false) r12.2).bind fun r13 =>
 (vl r13.1 r13.2).bind fun r14 =>
 (gif r14.1 true (vl r6.1 r14.2) r14.2).bind fun r15 =>
 (gif r14.1 true (ld P 42 r2.1 r15.2) r15.2).bind fun r16 =>
 (gif r14.1 true (EV P 64 #[r15.1, r16.1] r16.2) r16.2).bind fun r17 =>
 (pickV r14.1 r17.1 (.bool false) r17.2).bind fun r18 =>
 (vl r18.1 r18.2).bind fun r19 =>
 (gif r19.1 true (vl x0 r19.2) r19.2).bind fun r20 =>
 (gif r19.1 true (ld P 42 r1.1 r20.2) r20.2).bind fun r21 =>
 (gif r19.1 true (ld P 42 r2.1 r21.2) r21.2).bind fun r22 =>
 (gif r19.1 true (EV P 65 #[r20.1, r21.1, r22.1] r22.2) r22.2).bind fun r23 =>
 (pickV r19.1 r23.1 (.bool false) r23.2).bind fun r24 =>
 (vl r24.1 r24.2).bind fun r25 =>
 some (r25.1, r25.2) := by kernel_rfl
theorem impl_CauseAhead_fn (x0 x1 x2 : Value) (w : World) : fnC P (EV P) 34 #[x0, x1, x2] w =
 (bx P 42 x1 w).bind fun r1 =>
 (bx P 42 x2 r1.2).bind fun r2 =>
 (vl (.bool false) r2.2).bind fun r3 =>
 (vl x0 r3.2).bind fun r4 =>
 (EV P 53 #[r4.1] r4.2).bind fun r5 =>
 (vl r5.1 r5.2).bind fun r6 =>
 (xt P r6.1 0 r6.2).bind fun r7 =>
 (xt P r6.1 1 r7.2).bind fun r8 =>
 (vl r7.1 r8.2).bind fun r9 =>
 (vl r8.1 r9.2).bind fun r10 =>
 (vl r10.1 r10.2).bind fun r11 =>
 (uo P .not r11.1 r11.2).bind fun r12 =>
 cnd r12.1 (
 (vl (.bool false) r12.2).bind fun r13 =>
 some (r13.1, r13.2)) (
 (vl r9.1 (dw r12.2)).bind fun r15 =>
 ifP (r15.2 = (dw r12.2)) <|
 (nk P r15.1 (dw r12.2)).bind fun r16 =>
 ifP (r16.2 = (dw r12.2)) <|
 (fa P 81 r16.1 1 (dw r12.2)).bind fun r17 =>
 ifP (r17.2 = (dw r12.2)) <|
 (ld P 79 r17.1 (dw r12.2)).bind fun r18 =>
 ifP (r18.2 = (dw r12.2)) <|
 (ld P 42 r1.1 (dw r12.2)).bind fun r19 =>
 ifP (r19.2 = (dw r12.2)) <|
 (lk P 79 r18.1 r19.1 true (dw r12.2)).bind fun r20 =>
 ifP (r20.2 = (dw r12.2)) <|
 (vl r20.1 (dw r12.2)).bind fun r21 =>
 ifP (r21.2 = (dw r12.2)) <|
 (xt P r21.1 0 (dw r12.2)).bind fun r22 =>
 ifP (r22.2 = (dw r12.2)) <|
 (xt P r21.1 1 (dw r12.2)).bind fun r23 =>
 ifP (r23.2 = (dw r12.2)) <|
 (al P 83 (dw r12.2)).bind fun r24 =>
 ifP (xt P r21.1 1 r24.2 = some (r23.1, r24.2) ∧ xt P r21.1 0 r24.2 = some (r22.1, r24.2) ∧ lk P 79 r18.1 r19.1 true r24.2 = some (r20.1, r24.2) ∧ ld P 42 r1.1 r24.2 = some (r19.1, r24.2) ∧ ld P 79 r17.1 r24.2 = some (r18.1, r24.2) ∧ fa P 81 r16.1 1 r24.2 = some (r17.1, r24.2) ∧ nk P r15.1 r24.2 = some (r16.1, r24.2) ∧ True) <|
 (st P 83 r24.1 r22.1 r24.2).bind fun r25 =>
 ifP (xt P r21.1 1 r25.2 = some (r23.1, r25.2) ∧ True ∧ True ∧ True ∧ True ∧ True ∧ True ∧ True) <|
 (vl r23.1 r25.2).bind fun r26 =>
 ifP (r26.2 = r25.2) <|
 (vl r9.1 (dw r25.2)).bind fun r28 =>
 ifP (r28.2 = (dw r25.2)) <|
 (nk P r28.1 (dw r25.2)).bind fun r29 =>
 ifP (r29.2 = (dw r25.2)) <|
 (fa P 81 r29.1 1 (dw r25.2)).bind fun r30 =>
 ifP (r30.2 = (dw r25.2)) <|
 (ld P 79 r30.1 (dw r25.2)).bind fun r31 =>
 ifP (r31.2 = (dw r25.2)) <|
 (ld P 42 r2.1 (dw r25.2)).bind fun r32 =>
 ifP (r32.2 = (dw r25.2)) <|
 (lk P 79 r31.1 r32.1 true (dw r25.2)).bind fun r33 =>
 ifP (r33.2 = (dw r25.2)) <|
 (vl r33.1 (dw r25.2)).bind fun r34 =>
 ifP (r34.2 = (dw r25.2)) <|
 (xt P r34.1 0 (dw r25.2)).bind fun r35 =>
 ifP (r35.2 = (dw r25.2)) <|
 (xt P r34.1 1 (dw r25.2)).bind fun r36 =>
 ifP (r36.2 = (dw r25.2)) <|
 (al P 83 (dw r25.2)).bind fun r37 =>
 ifP (xt P r34.1 1 r37.2 = some (r36.1, r37.2) ∧ xt P r34.1 0 r37.2 = some (r35.1, r37.2) ∧ lk P 79 r31.1 r32.1 true r37.2 = some (r33.1, r37.2) ∧ ld P 42 r2.1 r37.2 = some (r32.1, r37.2) ∧ ld P 79 r30.1 r37.2 = some (r31.1, r37.2) ∧ fa P 81 r29.1 1 r37.2 = some (r30.1, r37.2) ∧ nk P r28.1 r37.2 = some (r29.1, r37.2) ∧ True) <|
 (st P 83 r37.1 r35.1 r37.2).bind fun r38 =>
 ifP (xt P r34.1 1 r38.2 = some (r36.1, r38.2) ∧ True ∧ True ∧ True ∧ True ∧ True ∧ True ∧ True) <|
 (vl r36.1 r38.2).bind fun r39 =>
 ifP (r39.2 = r38.2) <|
 (vl r26.1 (dw r38.2)).bind fun r41 =>
 ifP (r41.2 = (dw r38.2)) <|
 (vl r41.1 (dw r38.2)).bind fun r42 =>
 ifP (r42.2 = (dw r38.2)) <|
 (gif r42.1 true (vl r39.1 (dw r38.2)) (dw r38.2)).bind fun r43 =>
 ifP (r43.2 = (dw r38.2)) <|
 (pickV r42.1 r43.1 (.bool false) (dw r38.2)).bind fun r44 =>
 ifP (r44.2 = (dw r38.2)) <|
 (vl r44.1 (dw r38.2)).bind fun r45 =>
 ifP (r45.2 = (dw r38.2)) <|
 (gif r45.1 true (vl r9.1 (dw r38.2)) (dw r38.2)).bind fun r46 =>
 ifP (r46.2 = (dw r38.2)) <|
 (gif r45.1 true (ld P 42 r2.1 (dw r38.2)) (dw r38.2)).bind fun r47 =>
 ifP (r47.2 = (dw r38.2)) <|
 (gif r45.1 true (ld P 42 r1.1 (dw r38.2)) (dw r38.2)).bind fun r48 =>
 ifP (r48.2 = (dw r38.2)) <|
 (gif r45.1 true (EV P 66 #[r46.1, r47.1] (dw r38.2)) (dw r38.2)).bind fun r49 =>
 ifP (gif r45.1 true (ld P 42 r1.1 r49.2) r49.2 = some (r48.1, r49.2) ∧ True ∧ True) <|
 (gif r45.1 true (lk P 90 r49.1 r48.1 false r49.2) r49.2).bind fun r50 =>
 ifP (r50.2 = r49.2) <|
 (pickV r45.1 r50.1 (.bool false) r49.2).bind fun r51 =>
 ifP (r51.2 = r49.2) <|
 (vl r51.1 r49.2).bind fun r52 =>
 ifP (r52.2 = r49.2) <|
 some (r52.1, r49.2)) := by kernel_rfl
end Go.Proofs.Ytcafhepclddcaaa.X
