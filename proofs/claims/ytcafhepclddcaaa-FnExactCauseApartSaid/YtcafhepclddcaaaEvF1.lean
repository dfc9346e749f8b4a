/- A part of the proof: an evaluator of the model, its laws, and contracts of functions; no condition. -/
import Derived.Test.YtcafhepclddcaaaEvT
set_option linter.unusedVariables false
set_option maxRecDepth 100000
namespace Go.Proofs.Ytcafhepclddcaaa.X
open Go Go.Ev
noncomputable def spec_CauseApart_l1 (e : Env) (w : World) : Option (Value × World) := exC P (EV P) 35 54 (.loop (cA (cA (cB (cA (cB (cB (cB (cB (bodyOf P 35)))))))))) e w (kBlock 0 (kSeq P (EV P) 35 54 (cB (cB (cB (cB (cB (bodyOf P 35)))))) (kFn P (fnOf P 35))))
noncomputable def spec_CauseApart_j1 (e : Env) (w : World) : Option (Value × World) := exC P (EV P) 35 54 (cB (cB (cA (cA (cB (cA (cB (cB (cB (cB (bodyOf P 35))))))))))) e w (kLoop P (EV P) 35 54 (cA (cA (cB (cA (cB (cB (cB (cB (bodyOf P 35))))))))) (kBlock 0 (kSeq P (EV P) 35 54 (cB (cB (cB (cB (cB (bodyOf P 35)))))) (kFn P (fnOf P 35)))))
theorem spec_CauseApart_l1_eq (e : Env) (w : World) : spec_CauseApart_l1 e w =
 (vl (e 7) w).bind fun r1 =>
 (vl (e 5) r1.2).bind fun r2 =>
 (b_len P #[30] 3 #[r2.1] r2.2).bind fun r3 =>
 (bo P .lss 3 (.tmp 19) (.tmp 21) r1.1 r3.1 r3.2).bind fun r4 =>
 cnd r4.1 (
 (vl (e 5) (dw r4.2)).bind fun r6 =>
 ifP (r6.2 = (dw r4.2)) <|
 (vl (e 7) (dw r4.2)).bind fun r7 =>
 ifP (r7.2 = (dw r4.2)) <|
 (ia P 30 r6.1 r7.1 (dw r4.2)).bind fun r8 =>
 ifP (r8.2 = (dw r4.2)) <|
 (ld P 42 r8.1 (dw r4.2)).bind fun r9 =>
 ifP (r9.2 = (dw r4.2)) <|
 (ld P 42 (e 3) (dw r4.2)).bind fun r10 =>
 ifP (r10.2 = (dw r4.2)) <|
 (bo P .neq 42 (.tmp 28) (.tmp 29) r9.1 r10.1 (dw r4.2)).bind fun r11 =>
 ifP (r11.2 = (dw r4.2)) <|
 (vl r11.1 (dw r4.2)).bind fun r12 =>
 ifP (r12.2 = (dw r4.2)) <|
 (gif r12.1 true (vl (e 0) (dw r4.2)) (dw r4.2)).bind fun r13 =>
 ifP (r13.2 = (dw r4.2)) <|
 (gif r12.1 true (ld P 42 (e 3) (dw r4.2)) (dw r4.2)).bind fun r14 =>
 ifP (r14.2 = (dw r4.2)) <|
 (gif r12.1 true (vl (e 5) (dw r4.2)) (dw r4.2)).bind fun r15 =>
 ifP (r15.2 = (dw r4.2)) <|
 (gif r12.1 true (vl (e 7) (dw r4.2)) (dw r4.2)).bind fun r16 =>
 ifP (r16.2 = (dw r4.2)) <|
 (gif r12.1 true (ia P 30 r15.1 r16.1 (dw r4.2)) (dw r4.2)).bind fun r17 =>
 ifP (r17.2 = (dw r4.2)) <|
 (gif r12.1 true (ld P 42 r17.1 (dw r4.2)) (dw r4.2)).bind fun r18 =>
 ifP (r18.2 = (dw r4.2)) <|
 (gif r12.1 true (EV P 65 #[r13.1, r14.1, r18.1] (dw r4.2)) (dw r4.2)).bind fun r19 =>
 ifP (True ∧ True ∧ True ∧ True ∧ True ∧ True ∧ True ∧ True) <|
 (gif r12.1 true (uo P .not r19.1 r19.2) r19.2).bind fun r20 =>
 ifP (r20.2 = r19.2) <|
 (pickV r12.1 r20.1 (.bool false) r19.2).bind fun r21 =>
 ifP (r21.2 = r19.2) <|
 (vl r21.1 r19.2).bind fun r22 =>
 ifP (r22.2 = r19.2) <|
 (gif r22.1 true (vl (e 0) r19.2) r19.2).bind fun r23 =>
 ifP (r23.2 = r19.2) <|
 (gif r22.1 true (vl (e 5) r19.2) r19.2).bind fun r24 =>
 ifP (r24.2 = r19.2) <|
 (gif r22.1 true (vl (e 7) r19.2) r19.2).bind fun r25 =>
 ifP (r25.2 = r19.2) <|
 (gif r22.1 true (ia P 30 r24.1 r25.1 r19.2) r19.2).bind fun r26 =>
 ifP (r26.2 = r19.2) <|
 (gif r22.1 true (ld P 42 r26.1 r19.2) r19.2).bind fun r27 =>
 ifP (r27.2 = r19.2) <|
 (gif r22.1 true (ld P 42 (e 3) r19.2) r19.2).bind fun r28 =>
 ifP (r28.2 = r19.2) <|
 (gif r22.1 true (EV P 65 #[r23.1, r27.1, r28.1] r19.2) r19.2).bind fun r29 =>
 ifP (True ∧ True ∧ True ∧ True ∧ True ∧ True ∧ True ∧ True ∧ True ∧ True ∧ True ∧ True) <|
 (gif r22.1 true (uo P .not r29.1 r29.2) r29.2).bind fun r30 =>
 ifP (r30.2 = r29.2) <|
 (pickV r22.1 r30.1 (.bool false) r29.2).bind fun r31 =>
 ifP (r31.2 = r29.2) <|
 cnd r31.1 (
 (vl (e 6) r29.2).bind fun r32 =>
 (bo P .add 3 (.tmp 51) (.const (.int .i64 1)) r32.1 (.int .i64 1) r32.2).bind fun r33 =>
 (vl r33.1 r33.2).bind fun r34 =>
 spec_CauseApart_j1 (ups e [(19, r1.1), (20, r2.1), (21, r3.1), (22, r4.1), (25, r6.1), (26, r7.1), (27, r8.1), (28, r9.1), (29, r10.1), (30, r11.1), (31, r12.1), (32, r13.1), (33, r14.1), (34, r15.1), (35, r16.1), (36, r17.1), (37, r18.1), (38, r19.1), (39, r20.1), (40, r21.1), (41, r22.1), (42, r23.1), (43, r24.1), (44, r25.1), (45, r26.1), (46, r27.1), (47, r28.1), (48, r29.1), (49, r30.1), (50, r31.1), (51, r32.1), (52, r33.1), (6, r34.1)]) r34.2) (
 spec_CauseApart_j1 (ups e [(19, r1.1), (20, r2.1), (21, r3.1), (22, r4.1), (25, r6.1), (26, r7.1), (27, r8.1), (28, r9.1), (29, r10.1), (30, r11.1), (31, r12.1), (32, r13.1), (33, r14.1), (34, r15.1), (35, r16.1), (36, r17.1), (37, r18.1), (38, r19.1), (39, r20.1), (40, r21.1), (41, r22.1), (42, r23.1), (43, r24.1), (44, r25.1), (45, r26.1), (46, r27.1), (47, r28.1), (48, r29.1), (49, r30.1), (50, r31.1)]) r29.2)) (
 (vl (e 6) r4.2).bind fun r35 =>
 (vl r35.1 r35.2).bind fun r36 =>
 some (r36.1, r36.2)) := (exC_loop P (EV P) 35 54 (cA (cA (cB (cA (cB (cB (cB (cB (bodyOf P 35))))))))) e w (kBlock 0 (kSeq P (EV P) 35 54 (cB (cB (cB (cB (cB (bodyOf P 35)))))) (kFn P (fnOf P 35))))).trans (by kernel_rfl)
theorem spec_CauseApart_j1_eq (e : Env) (w : World) : spec_CauseApart_j1 e w =
 (vl (e 7) w).bind fun r1 =>
 (bo P .add 3 (.tmp 23) (.const (.int .i64 1)) r1.1 (.int .i64 1) r1.2).bind fun r2 =>
 (vl r2.1 r2.2).bind fun r3 =>
 spec_CauseApart_l1 (ups e [(23, r1.1), (24, r2.1), (7, r3.1)]) r3.2 := by kernel_rfl
theorem spec_CauseApart_fn (x0 x1 : Value) (w : World) : fnC P (EV P) 35 #[x0, x1] w =
 (bx P 42 x1 w).bind fun r1 =>
 (vl (.int .i64 0) r1.2).bind fun r2 =>
 (vl x0 r2.2).bind fun r3 =>
 (EV P 59 #[r3.1] r3.2).bind fun r4 =>
 (vl r4.1 r4.2).bind fun r5 =>
 (vl x0 r5.2).bind fun r6 =>
 (EV P 52 #[r6.1] r6.2).bind fun r7 =>
 (uo P .not r7.1 r7.2).bind fun r8 =>
 (vl r8.1 r8.2).bind fun r9 =>
 (gif r9.1 false (vl r5.1 r9.2) r9.2).bind fun r10 =>
 (gif r9.1 false (ld P 42 r1.1 r10.2) r10.2).bind fun r11 =>
 (gif r9.1 false (EV P 64 #[r10.1, r11.1] r11.2) r11.2).bind fun r12 =>
 (gif r9.1 false (uo P .not r12.1 r12.2) r12.2).bind fun r13 =>
 (pickV r9.1 (.bool true) r13.1 r13.2).bind fun r14 =>
 cnd r14.1 (
 (vl (.int .i64 (-1)) r14.2).bind fun r15 =>
 some (r15.1, r15.2)) (
 (vl (.int .i64 0) r14.2).bind fun r16 =>
 (vl (.int .i64 0) r16.2).bind fun r17 =>
 spec_CauseApart_l1 (ups (env0 #[x0, x1]) [(3, r1.1), (4, r2.1), (8, r3.1), (9, r4.1), (5, r5.1), (10, r6.1), (11, r7.1), (12, r8.1), (13, r9.1), (14, r10.1), (15, r11.1), (16, r12.1), (17, r13.1), (18, r14.1), (6, r16.1), (7, r17.1)]) r17.2) := by kernel_rfl
noncomputable def impl_CauseApart_l1 (e : Env) (w : World) : Option (Value × World) := exC P (EV P) 36 62 (.loop (cA (cA (cB (cA (cB (cB (cB (cB (cB (cB (bodyOf P 36)))))))))))) e w (kBlock 0 (kSeq P (EV P) 36 62 (cB (cB (cB (cB (cB (cB (cB (bodyOf P 36)))))))) (kFn P (fnOf P 36))))
theorem impl_CauseApart_l1_eq (e : Env) (w : World) : impl_CauseApart_l1 e w =
 (nt P (e 37) false 0 w).bind fun r1 =>
 (xt P r1.1 0 r1.2).bind fun r2 =>
 cnd r2.1 (
 (en P (e 37) r2.2).bind fun r3 =>
 (xt P r3.1 0 r3.2).bind fun r4 =>
 (al P 42 r4.2).bind fun r5 =>
 (st P 42 r5.1 r4.1 r5.2).bind fun r6 =>
 (ld P 42 r5.1 (dw r6.2)).bind fun r8 =>
 ifP (r8.2 = (dw r6.2)) <|
 (ld P 42 (e 3) (dw r6.2)).bind fun r9 =>
 ifP (r9.2 = (dw r6.2)) <|
 (bo P .neq 42 (.tmp 42) (.tmp 43) r8.1 r9.1 (dw r6.2)).bind fun r10 =>
 ifP (r10.2 = (dw r6.2)) <|
 (vl r10.1 (dw r6.2)).bind fun r11 =>
 ifP (r11.2 = (dw r6.2)) <|
 (gif r11.1 true (vl (e 10) (dw r6.2)) (dw r6.2)).bind fun r12 =>
 ifP (r12.2 = (dw r6.2)) <|
 (gif r11.1 true (ld P 42 r5.1 (dw r6.2)) (dw r6.2)).bind fun r13 =>
 ifP (r13.2 = (dw r6.2)) <|
 (gif r11.1 true (lk P 90 r12.1 r13.1 false (dw r6.2)) (dw r6.2)).bind fun r14 =>
 ifP (r14.2 = (dw r6.2)) <|
 (gif r11.1 true (uo P .not r14.1 (dw r6.2)) (dw r6.2)).bind fun r15 =>
 ifP (r15.2 = (dw r6.2)) <|
 (pickV r11.1 r15.1 (.bool false) (dw r6.2)).bind fun r16 =>
 ifP (r16.2 = (dw r6.2)) <|
 (vl r16.1 (dw r6.2)).bind fun r17 =>
 ifP (r17.2 = (dw r6.2)) <|
 (gif r17.1 true (vl (e 5) (dw r6.2)) (dw r6.2)).bind fun r18 =>
 ifP (r18.2 = (dw r6.2)) <|
 (gif r17.1 true (ld P 42 r5.1 (dw r6.2)) (dw r6.2)).bind fun r19 =>
 ifP (r19.2 = (dw r6.2)) <|
 (gif r17.1 true (ld P 42 (e 3) (dw r6.2)) (dw r6.2)).bind fun r20 =>
 ifP (r20.2 = (dw r6.2)) <|
 (gif r17.1 true (EV P 66 #[r18.1, r19.1] (dw r6.2)) (dw r6.2)).bind fun r21 =>
 ifP (gif r17.1 true (ld P 42 (e 3) r21.2) r21.2 = some (r20.1, r21.2) ∧ True ∧ True ∧ True ∧ True ∧ True ∧ True ∧ True ∧ True) <|
 (gif r17.1 true (lk P 90 r21.1 r20.1 false r21.2) r21.2).bind fun r22 =>
 ifP (r22.2 = r21.2) <|
 (gif r17.1 true (uo P .not r22.1 r21.2) r21.2).bind fun r23 =>
 ifP (r23.2 = r21.2) <|
 (pickV r17.1 r23.1 (.bool false) r21.2).bind fun r24 =>
 ifP (r24.2 = r21.2) <|
 cnd r24.1 (
 (vl (e 9) r21.2).bind fun r25 =>
 (bo P .add 3 (.tmp 59) (.const (.int .i64 1)) r25.1 (.int .i64 1) r25.2).bind fun r26 =>
 (vl r26.1 r26.2).bind fun r27 =>
 impl_CauseApart_l1 (ups e [(38, r1.1), (39, r2.1), (40, r3.1), (41, r4.1), (11, r5.1), (42, r8.1), (43, r9.1), (44, r10.1), (45, r11.1), (46, r12.1), (47, r13.1), (48, r14.1), (49, r15.1), (50, r16.1), (51, r17.1), (52, r18.1), (53, r19.1), (55, r20.1), (54, r21.1), (56, r22.1), (57, r23.1), (58, r24.1), (59, r25.1), (60, r26.1), (9, r27.1)]) r27.2) (
 impl_CauseApart_l1 (ups e [(38, r1.1), (39, r2.1), (40, r3.1), (41, r4.1), (11, r5.1), (42, r8.1), (43, r9.1), (44, r10.1), (45, r11.1), (46, r12.1), (47, r13.1), (48, r14.1), (49, r15.1), (50, r16.1), (51, r17.1), (52, r18.1), (53, r19.1), (55, r20.1), (54, r21.1), (56, r22.1), (57, r23.1), (58, r24.1)]) r21.2)) (
 (vl (e 9) r2.2).bind fun r28 =>
 (vl r28.1 r28.2).bind fun r29 =>
 some (r29.1, r29.2)) := (exC_loop P (EV P) 36 62 (cA (cA (cB (cA (cB (cB (cB (cB (cB (cB (bodyOf P 36))))))))))) e w (kBlock 0 (kSeq P (EV P) 36 62 (cB (cB (cB (cB (cB (cB (cB (bodyOf P 36)))))))) (kFn P (fnOf P 36))))).trans (by kernel_rfl)
theorem impl_CauseApart_fn (x0 x1 : Value) (w : World) : fnC P (EV P) 36 #[x0, x1] w =
 (bx P 42 x1 w).bind fun r1 =>
 (vl (.int .i64 0) r1.2).bind fun r2 =>
 (vl x0 r2.2).bind fun r3 =>
 (EV P 53 #[r3.1] r3.2).bind fun r4 =>
 (vl r4.1 r4.2).bind fun r5 =>
 (xt P r5.1 0 r5.2).bind fun r6 =>
 (xt P r5.1 1 r6.2).bind fun r7 =>
 (vl r6.1 r7.2).bind fun r8 =>
 (vl r7.1 r8.2).bind fun r9 =>
 (vl r9.1 r9.2).bind fun r10 =>
 (uo P .not r10.1 r10.2).bind fun r11 =>
 cnd r11.1 (
 (vl (.int .i64 (-1)) r11.2).bind fun r12 =>
 some (r12.1, r12.2)) (
 (vl r8.1 (dw r11.2)).bind fun r14 =>
 ifP (r14.2 = (dw r11.2)) <|
 (nk P r14.1 (dw r11.2)).bind fun r15 =>
 ifP (r15.2 = (dw r11.2)) <|
 (fa P 81 r15.1 1 (dw r11.2)).bind fun r16 =>
 ifP (r16.2 = (dw r11.2)) <|
 (ld P 79 r16.1 (dw r11.2)).bind fun r17 =>
 ifP (r17.2 = (dw r11.2)) <|
 (ld P 42 r1.1 (dw r11.2)).bind fun r18 =>
 ifP (r18.2 = (dw r11.2)) <|
 (lk P 79 r17.1 r18.1 true (dw r11.2)).bind fun r19 =>
 ifP (r19.2 = (dw r11.2)) <|
 (vl r19.1 (dw r11.2)).bind fun r20 =>
 ifP (r20.2 = (dw r11.2)) <|
 (xt P r20.1 0 (dw r11.2)).bind fun r21 =>
 ifP (r21.2 = (dw r11.2)) <|
 (xt P r20.1 1 (dw r11.2)).bind fun r22 =>
 ifP (r22.2 = (dw r11.2)) <|
 (al P 83 (dw r11.2)).bind fun r23 =>
 ifP (xt P r20.1 1 r23.2 = some (r22.1, r23.2) ∧ xt P r20.1 0 r23.2 = some (r21.1, r23.2) ∧ lk P 79 r17.1 r18.1 true r23.2 = some (r19.1, r23.2) ∧ ld P 42 r1.1 r23.2 = some (r18.1, r23.2) ∧ ld P 79 r16.1 r23.2 = some (r17.1, r23.2) ∧ fa P 81 r15.1 1 r23.2 = some (r16.1, r23.2) ∧ nk P r14.1 r23.2 = some (r15.1, r23.2) ∧ True) <|
 (st P 83 r23.1 r21.1 r23.2).bind fun r24 =>
 ifP (xt P r20.1 1 r24.2 = some (r22.1, r24.2) ∧ True ∧ True ∧ True ∧ True ∧ True ∧ True ∧ True) <|
 (vl r22.1 r24.2).bind fun r25 =>
 ifP (r25.2 = r24.2) <|
 (vl r25.1 r24.2).bind fun r26 =>
 (uo P .not r26.1 r26.2).bind fun r27 =>
 cnd r27.1 (
 (vl (.int .i64 (-1)) r27.2).bind fun r28 =>
 some (r28.1, r28.2)) (
 (vl (.int .i64 0) r27.2).bind fun r29 =>
 (vl r8.1 r29.2).bind fun r30 =>
 (ld P 42 r1.1 r30.2).bind fun r31 =>
 (EV P 66 #[r30.1, r31.1] r31.2).bind fun r32 =>
 (vl r32.1 r32.2).bind fun r33 =>
 (vl r8.1 r33.2).bind fun r34 =>
 (nk P r34.1 r34.2).bind fun r35 =>
 (fa P 81 r35.1 1 r35.2).bind fun r36 =>
 (ld P 79 r36.1 r36.2).bind fun r37 =>
 (rg P 79 r37.1 r37.2).bind fun r38 =>
 impl_CauseApart_l1 (ups (env0 #[x0, x1]) [(3, r1.1), (4, r2.1), (13, r3.1), (14, r4.1), (12, r5.1), (15, r6.1), (16, r7.1), (5, r8.1), (6, r9.1), (17, r10.1), (18, r11.1), (20, r14.1), (21, r15.1), (22, r16.1), (23, r17.1), (24, r18.1), (25, r19.1), (19, r20.1), (26, r21.1), (27, r22.1), (7, r23.1), (8, r25.1), (28, r26.1), (29, r27.1), (9, r29.1), (30, r30.1), (31, r31.1), (32, r32.1), (10, r33.1), (33, r34.1), (34, r35.1), (35, r36.1), (36, r37.1), (37, r38.1)]) r38.2)) := by kernel_rfl
noncomputable def spec_l6Form_l1 (e : Env) (w : World) : Option (Value × World) := exC P (EV P) 46 19 (.loop (cA (cA (cB (cA (cB (bodyOf P 46))))))) e w (kBlock 0 (kSeq P (EV P) 46 19 (cB (cB (bodyOf P 46))) (kFn P (fnOf P 46))))
theorem spec_l6Form_l1_eq (e : Env) (w : World) : spec_l6Form_l1 e w =
 (vl (e 3) w).bind fun r1 =>
 (vl (e 0) r1.2).bind fun r2 =>
 (b_len P #[25] 3 #[r2.1] r2.2).bind fun r3 =>
 (bo P .lss 3 (.tmp 4) (.tmp 6) r1.1 r3.1 r3.2).bind fun r4 =>
 cnd r4.1 (
 (vl (e 0) r4.2).bind fun r5 =>
 (vl (e 3) r5.2).bind fun r6 =>
 (ia P 25 r5.1 r6.1 r6.2).bind fun r7 =>
 (ld P 66 r7.1 r7.2).bind fun r8 =>
 (EV P 83 #[r8.1] r8.2).bind fun r9 =>
 (uo P .not r9.1 r9.2).bind fun r10 =>
 cnd r10.1 (
 (vl (.bool false) r10.2).bind fun r11 =>
 some (r11.1, r11.2)) (
 (vl (e 3) r10.2).bind fun r12 =>
 (bo P .add 3 (.tmp 8) (.const (.int .i64 1)) r12.1 (.int .i64 1) r12.2).bind fun r13 =>
 (vl r13.1 r13.2).bind fun r14 =>
 spec_l6Form_l1 (ups e [(4, r1.1), (5, r2.1), (6, r3.1), (7, r4.1), (10, r5.1), (11, r6.1), (12, r7.1), (13, r8.1), (14, r9.1), (15, r10.1), (8, r12.1), (9, r13.1), (3, r14.1)]) r14.2)) (
 (vl (e 0) r4.2).bind fun r15 =>
 (b_len P #[25] 3 #[r15.1] r15.2).bind fun r16 =>
 (bo P .leq 3 (.tmp 17) (.const (.int .i64 80)) r16.1 (.int .i64 80) r16.2).bind fun r17 =>
 (vl r17.1 r17.2).bind fun r18 =>
 some (r18.1, r18.2)) := (exC_loop P (EV P) 46 19 (cA (cA (cB (cA (cB (bodyOf P 46)))))) e w (kBlock 0 (kSeq P (EV P) 46 19 (cB (cB (bodyOf P 46))) (kFn P (fnOf P 46))))).trans (by kernel_rfl)
theorem spec_l6Form_fn (x0 : Value) (w : World) : fnC P (EV P) 46 #[x0] w =
 (vl (.bool false) w).bind fun r1 =>
 (vl (.int .i64 0) r1.2).bind fun r2 =>
 spec_l6Form_l1 (ups (env0 #[x0]) [(2, r1.1), (3, r2.1)]) r2.2 := by kernel_rfl
noncomputable def spec_l6Walk_l1 (e : Env) (w : World) : Option (Value × World) := exC P (EV P) 47 136 (.loop (cA (cA (cB (cA (cB (cB (bodyOf P 47)))))))) e w (kBlock 0 (kSeq P (EV P) 47 136 (cB (cB (cB (bodyOf P 47)))) (kFn P (fnOf P 47))))
noncomputable def spec_l6Walk_l2 (e : Env) (w : World) : Option (Value × World) := exC P (EV P) 47 136 (.loop (cA (cA (cB (cA (cB (cB (cB (cB (bodyOf P 47)))))))))) e w (kBlock 2 (kSeq P (EV P) 47 136 (cB (cB (cB (cB (cB (bodyOf P 47)))))) (kFn P (fnOf P 47))))
noncomputable def spec_l6Walk_a1 (e : Env) (w : World) : Option (Value × World) := exC P (EV P) 47 136 (cA (cA (cB (cA (cB (cB (cA (cA (cB (cA (cA (cB (cA (cB (cB (cB (cB (bodyOf P 47)))))))))))))))))) e w (kSeq P (EV P) 47 136 (cB (cA (cB (cA (cB (cB (cA (cA (cB (cA (cA (cB (cA (cB (cB (cB (cB (bodyOf P 47)))))))))))))))))) (kSeq P (EV P) 47 136 (cB (cB (cB (cA (cA (cB (cA (cA (cB (cA (cB (cB (cB (cB (bodyOf P 47))))))))))))))) (kBlock 3 (kSeq P (EV P) 47 136 (cB (cB (cA (cA (cB (cA (cB (cB (cB (cB (bodyOf P 47))))))))))) (kLoop P (EV P) 47 136 (cA (cA (cB (cA (cB (cB (cB (cB (bodyOf P 47))))))))) (kBlock 2 (kSeq P (EV P) 47 136 (cB (cB (cB (cB (cB (bodyOf P 47)))))) (kFn P (fnOf P 47)))))))))
noncomputable def spec_l6Walk_a2 (e : Env) (w : World) : Option (Value × World) := exC P (EV P) 47 136 (cA (cA (cB (cA (cB (cB (cB (cB (cA (cA (cB (cA (cA (cB (cA (cB (cB (cB (cB (bodyOf P 47)))))))))))))))))))) e w (kSeq P (EV P) 47 136 (cB (cA (cB (cA (cB (cB (cB (cB (cA (cA (cB (cA (cA (cB (cA (cB (cB (cB (cB (bodyOf P 47)))))))))))))))))))) (kSeq P (EV P) 47 136 (cB (cB (cB (cB (cB (cA (cA (cB (cA (cA (cB (cA (cB (cB (cB (cB (bodyOf P 47))))))))))))))))) (kBlock 3 (kSeq P (EV P) 47 136 (cB (cB (cA (cA (cB (cA (cB (cB (cB (cB (bodyOf P 47))))))))))) (kLoop P (EV P) 47 136 (cA (cA (cB (cA (cB (cB (cB (cB (bodyOf P 47))))))))) (kBlock 2 (kSeq P (EV P) 47 136 (cB (cB (cB (cB (cB (bodyOf P 47)))))) (kFn P (fnOf P 47)))))))))
noncomputable def spec_l6Walk_j1 (e : Env) (w : World) : Option (Value × World) := exC P (EV P) 47 136 (cB (cB (cB (cB (cB (cA (cA (cB (cA (cA (cB (cA (cB (cB (cB (cB (bodyOf P 47))))))))))))))))) e w (kBlock 3 (kSeq P (EV P) 47 136 (cB (cB (cA (cA (cB (cA (cB (cB (cB (cB (bodyOf P 47))))))))))) (kLoop P (EV P) 47 136 (cA (cA (cB (cA (cB (cB (cB (cB (bodyOf P 47))))))))) (kBlock 2 (kSeq P (EV P) 47 136 (cB (cB (cB (cB (cB (bodyOf P 47)))))) (kFn P (fnOf P 47)))))))
noncomputable def spec_l6Walk_j2 (e : Env) (w : World) : Option (Value × World) := exC P (EV P) 47 136 (cB (cA (cB (cA (cB (cB (cA (cA (cB (cA (cA (cB (cA (cB (cB (cB (cB (bodyOf P 47)))))))))))))))))) e w (kSeq P (EV P) 47 136 (cB (cB (cB (cA (cA (cB (cA (cA (cB (cA (cB (cB (cB (cB (bodyOf P 47))))))))))))))) (kBlock 3 (kSeq P (EV P) 47 136 (cB (cB (cA (cA (cB (cA (cB (cB (cB (cB (bodyOf P 47))))))))))) (kLoop P (EV P) 47 136 (cA (cA (cB (cA (cB (cB (cB (cB (bodyOf P 47))))))))) (kBlock 2 (kSeq P (EV P) 47 136 (cB (cB (cB (cB (cB (bodyOf P 47)))))) (kFn P (fnOf P 47))))))))
noncomputable def spec_l6Walk_j3 (e : Env) (w : World) : Option (Value × World) := exC P (EV P) 47 136 (cB (cA (cB (cA (cB (cB (cB (cB (cA (cA (cB (cA (cA (cB (cA (cB (cB (cB (cB (bodyOf P 47)))))))))))))))))))) e w (kSeq P (EV P) 47 136 (cB (cB (cB (cB (cB (cA (cA (cB (cA (cA (cB (cA (cB (cB (cB (cB (bodyOf P 47))))))))))))))))) (kBlock 3 (kSeq P (EV P) 47 136 (cB (cB (cA (cA (cB (cA (cB (cB (cB (cB (bodyOf P 47))))))))))) (kLoop P (EV P) 47 136 (cA (cA (cB (cA (cB (cB (cB (cB (bodyOf P 47))))))))) (kBlock 2 (kSeq P (EV P) 47 136 (cB (cB (cB (cB (cB (bodyOf P 47)))))) (kFn P (fnOf P 47))))))))
noncomputable def spec_l6Walk_j4 (e : Env) (w : World) : Option (Value × World) := exC P (EV P) 47 136 (cB (cB (cA (cA (cB (cA (cB (cB (cB (cB (bodyOf P 47))))))))))) e w (kLoop P (EV P) 47 136 (cA (cA (cB (cA (cB (cB (cB (cB (bodyOf P 47))))))))) (kBlock 2 (kSeq P (EV P) 47 136 (cB (cB (cB (cB (cB (bodyOf P 47)))))) (kFn P (fnOf P 47)))))
theorem spec_l6Walk_l1_eq (e : Env) (w : World) : spec_l6Walk_l1 e w =
 (vl (e 5) w).bind fun r1 =>
 (bo P .lss 3 (.tmp 15) (.const (.int .i64 4)) r1.1 (.int .i64 4) r1.2).bind fun r2 =>
 cnd r2.1 (
 (vl (e 4) r2.2).bind fun r3 =>
 (EV P 55 #[] r3.2).bind fun r4 =>
 (bs P 62 1 #[(0, r4.1)] r4.2).bind fun r5 =>
 (b_append P #[62, 62] 62 #[r3.1, r5.1] r5.2).bind fun r6 =>
 (vl r6.1 r6.2).bind fun r7 =>
 (vl (e 5) r7.2).bind fun r8 =>
 (bo P .add 3 (.tmp 17) (.const (.int .i64 1)) r8.1 (.int .i64 1) r8.2).bind fun r9 =>
 (vl r9.1 r9.2).bind fun r10 =>
 spec_l6Walk_l1 (ups e [(15, r1.1), (16, r2.1), (19, r3.1), (20, r4.1), (21, r5.1), (22, r6.1), (4, r7.1), (17, r8.1), (18, r9.1), (5, r10.1)]) r10.2) (
 (bs P 62 0 #[] r2.2).bind fun r11 =>
 (vl r11.1 r11.2).bind fun r12 =>
 (vl (.int .i64 0) r12.2).bind fun r13 =>
 spec_l6Walk_l2 (ups e [(15, r1.1), (16, r2.1), (23, r11.1), (6, r12.1), (7, r13.1)]) r13.2) := (exC_loop P (EV P) 47 136 (cA (cA (cB (cA (cB (cB (bodyOf P 47))))))) e w (kBlock 0 (kSeq P (EV P) 47 136 (cB (cB (cB (bodyOf P 47)))) (kFn P (fnOf P 47))))).trans (by kernel_rfl)
theorem spec_l6Walk_l2_eq (e : Env) (w : World) : spec_l6Walk_l2 e w =
 (vl (e 7) w).bind fun r1 =>
 (vl (e 0) r1.2).bind fun r2 =>
 (b_len P #[25] 3 #[r2.1] r2.2).bind fun r3 =>
 (bo P .lss 3 (.tmp 24) (.tmp 26) r1.1 r3.1 r3.2).bind fun r4 =>
 cnd r4.1 (
 (vl (e 0) r4.2).bind fun r5 =>
 (vl (e 7) r5.2).bind fun r6 =>
 (ia P 25 r5.1 r6.1 r6.2).bind fun r7 =>
 (ld P 66 r7.1 r7.2).bind fun r8 =>
 (al P 66 r8.2).bind fun r9 =>
 (st P 66 r9.1 r8.1 r9.2).bind fun r10 =>
 (vl (e 4) r10.2).bind fun r11 =>
 (fa P 66 r9.1 0 r11.2).bind fun r12 =>
 (ld P 3 r12.1 r12.2).bind fun r13 =>
 (ia P 62 r11.1 r13.1 r13.2).bind fun r14 =>
 (ld P 32 r14.1 r14.2).bind fun r15 =>
 (al P 32 r15.2).bind fun r16 =>
 (st P 32 r16.1 r15.1 r16.2).bind fun r17 =>
 (fa P 66 r9.1 1 r17.2).bind fun r18 =>
 (ld P 3 r18.1 r18.2).bind fun r19 =>
 (bo P .eql 3 (.tmp 40) (.const (.int .i64 1)) r19.1 (.int .i64 1) r19.2).bind fun r20 =>
 cnd r20.1 (
 spec_l6Walk_a1 (ups e [(24, r1.1), (25, r2.1), (26, r3.1), (27, r4.1), (30, r5.1), (31, r6.1), (32, r7.1), (33, r8.1), (8, r9.1), (34, r11.1), (35, r12.1), (36, r13.1), (37, r14.1), (38, r15.1), (9, r16.1), (39, r18.1), (40, r19.1), (41, r20.1)]) r20.2) (
 (fa P 66 r9.1 3 (dw r20.2)).bind fun r22 =>
 ifP (r22.2 = (dw r20.2)) <|
 (ld P 42 r22.1 (dw r20.2)).bind fun r23 =>
 ifP (r23.2 = (dw r20.2)) <|
 (fa P 32 r16.1 0 (dw r20.2)).bind fun r24 =>
 ifP (r24.2 = (dw r20.2)) <|
 (ld P 30 r24.1 (dw r20.2)).bind fun r25 =>
 ifP (r25.2 = (dw r20.2)) <|
 (fa P 66 r9.1 2 (dw r20.2)).bind fun r26 =>
 ifP (r26.2 = (dw r20.2)) <|
 (ld P 3 r26.1 (dw r20.2)).bind fun r27 =>
 ifP (r27.2 = (dw r20.2)) <|
 (ia P 30 r25.1 r27.1 (dw r20.2)).bind fun r28 =>
 ifP (r28.2 = (dw r20.2)) <|
 (ld P 42 r28.1 (dw r20.2)).bind fun r29 =>
 ifP (r29.2 = (dw r20.2)) <|
 (EV P 60 #[r23.1, r29.1] (dw r20.2)).bind fun r30 =>
 ifP (True ∧ True ∧ True ∧ True ∧ True ∧ True ∧ True ∧ True ∧ True) <|
 cnd r30.1 (
 (vl (e 6) r30.2).bind fun r31 =>
 (vl (e 7) r31.2).bind fun r32 =>
 (vl r31.1 r32.2).bind fun r33 =>
 (vl r32.1 r33.2).bind fun r34 =>
 some (.tuple #[r33.1, r34.1], r34.2)) (
 (fa P 66 r9.1 3 r30.2).bind fun r35 =>
 (fa P 42 r35.1 0 r35.2).bind fun r36 =>
 (ld P 3 r36.1 r36.2).bind fun r37 =>
 (bo P .gtr 3 (.tmp 79) (.const (.int .i64 0)) r37.1 (.int .i64 0) r37.2).bind fun r38 =>
 cnd r38.1 (
 spec_l6Walk_a2 (ups e [(24, r1.1), (25, r2.1), (26, r3.1), (27, r4.1), (30, r5.1), (31, r6.1), (32, r7.1), (33, r8.1), (8, r9.1), (34, r11.1), (35, r12.1), (36, r13.1), (37, r14.1), (38, r15.1), (9, r16.1), (39, r18.1), (40, r19.1), (41, r20.1), (66, r22.1), (67, r23.1), (68, r24.1), (69, r25.1), (70, r26.1), (71, r27.1), (72, r28.1), (73, r29.1), (74, r30.1), (77, r35.1), (78, r36.1), (79, r37.1), (80, r38.1)]) r38.2) (
 spec_l6Walk_j1 (ups e [(24, r1.1), (25, r2.1), (26, r3.1), (27, r4.1), (30, r5.1), (31, r6.1), (32, r7.1), (33, r8.1), (8, r9.1), (34, r11.1), (35, r12.1), (36, r13.1), (37, r14.1), (38, r15.1), (9, r16.1), (39, r18.1), (40, r19.1), (41, r20.1), (66, r22.1), (67, r23.1), (68, r24.1), (69, r25.1), (70, r26.1), (71, r27.1), (72, r28.1), (73, r29.1), (74, r30.1), (77, r35.1), (78, r36.1), (79, r37.1), (80, r38.1)]) r38.2)))) (
 (vl (e 6) r4.2).bind fun r39 =>
 (vl (e 0) r39.2).bind fun r40 =>
 (b_len P #[25] 3 #[r40.1] r40.2).bind fun r41 =>
 (vl r39.1 r41.2).bind fun r42 =>
 (vl r41.1 r42.2).bind fun r43 =>
 some (.tuple #[r42.1, r43.1], r43.2)) := (exC_loop P (EV P) 47 136 (cA (cA (cB (cA (cB (cB (cB (cB (bodyOf P 47))))))))) e w (kBlock 2 (kSeq P (EV P) 47 136 (cB (cB (cB (cB (cB (bodyOf P 47)))))) (kFn P (fnOf P 47))))).trans (by kernel_rfl)
theorem spec_l6Walk_a1_any (e : Env) (w : World) {Q : Value × World → Prop} (h :
 (Ret (vl (e 0) (dw w)) fun r1 => r1.2 = (dw w) ∧
 (Ret (vl (e 7) (dw w)) fun r2 => r2.2 = (dw w) ∧
 (Ret (sl P 25 r1.1 none (some r2.1) none (dw w)) fun r3 => r3.2 = (dw w) ∧
 (Ret (vl (e 6) (dw w)) fun r4 => r4.2 = (dw w) ∧
 (Ret (fa P 66 (e 8) 3 (dw w)) fun r5 => r5.2 = (dw w) ∧
 (Ret (ld P 42 r5.1 (dw w)) fun r6 => r6.2 = (dw w) ∧
 ((Ret (EV P 84 #[r3.1, r4.1, r6.1] (dw w)) fun r7 => (True ∧ True ∧ True ∧ True) ∧
 (Ret (vl r7.1 r7.2) fun r8 => r8.2 = r7.2 ∧
 (Ret (xt P r8.1 0 r7.2) fun r9 => r9.2 = r7.2 ∧
 (Ret (xt P r8.1 1 r7.2) fun r10 => r10.2 = r7.2 ∧
 ((Ret (al P 32 r7.2) fun r11 => (xt P r8.1 1 r11.2 = some (r10.1, r11.2) ∧ xt P r8.1 0 r11.2 = some (r9.1, r11.2) ∧ ld P 42 r5.1 r11.2 = some (r6.1, r11.2) ∧ fa P 66 (e 8) 3 r11.2 = some (r5.1, r11.2) ∧ sl P 25 r1.1 none (some r2.1) none r11.2 = some (r3.1, r11.2) ∧ True) ∧
 ((Ret (st P 32 r11.1 r9.1 r11.2) fun r12 => (xt P r8.1 1 r12.2 = some (r10.1, r12.2) ∧ True ∧ True ∧ True ∧ True ∧ True) ∧
 (Ret (vl r10.1 r12.2) fun r13 => r13.2 = r12.2 ∧
 Ret (spec_l6Walk_j2 (ups e [(43, r1.1), (44, r2.1), (45, r3.1), (46, r4.1), (47, r5.1), (48, r6.1), (49, r7.1), (42, r8.1), (50, r9.1), (51, r10.1), (10, r11.1), (11, r13.1)]) r12.2) Q))))))))) ∧
 (Ret (al P 32 (dw w)) fun r14 => (ld P 42 r5.1 r14.2 = some (r6.1, r14.2) ∧ fa P 66 (e 8) 3 r14.2 = some (r5.1, r14.2) ∧ sl P 25 r1.1 none (some r2.1) none r14.2 = some (r3.1, r14.2) ∧ True) ∧
 ((Ret (EV P 84 #[r3.1, r4.1, r6.1] r14.2) fun r15 => (True ∧ True ∧ True ∧ True) ∧
 (Ret (vl r15.1 r15.2) fun r16 => r16.2 = r15.2 ∧
 (Ret (xt P r16.1 0 r15.2) fun r17 => r17.2 = r15.2 ∧
 (Ret (xt P r16.1 1 r15.2) fun r18 => r18.2 = r15.2 ∧
 ((Ret (st P 32 r14.1 r17.1 r15.2) fun r19 => (xt P r16.1 1 r19.2 = some (r18.1, r19.2) ∧ True ∧ True ∧ True ∧ True ∧ True) ∧
 (Ret (vl r18.1 r19.2) fun r20 => r20.2 = r19.2 ∧
 Ret (spec_l6Walk_j2 (ups e [(43, r1.1), (44, r2.1), (45, r3.1), (46, r4.1), (47, r5.1), (48, r6.1), (10, r14.1), (49, r15.1), (42, r16.1), (50, r17.1), (51, r18.1), (11, r20.1)]) r19.2) Q))))))))))))))))) : Ret (spec_l6Walk_a1 e w) Q := exC_any (id := 13) (ops := opsOf (cA (cA (cB (cA (cB (cB (cA (cA (cB (cA (cA (cB (cA (cB (cB (cB (cB (bodyOf P 47))))))))))))))))))) (by kernel_rfl) (by kernel_rfl) (Eq.mpr (by kernel_rfl) h)
theorem spec_l6Walk_a2_any (e : Env) (w : World) {Q : Value × World → Prop} (h :
 (Ret (vl (e 0) (dw w)) fun r1 => r1.2 = (dw w) ∧
 (Ret (vl (e 7) (dw w)) fun r2 => r2.2 = (dw w) ∧
 (Ret (sl P 25 r1.1 none (some r2.1) none (dw w)) fun r3 => r3.2 = (dw w) ∧
 (Ret (vl (e 6) (dw w)) fun r4 => r4.2 = (dw w) ∧
 (Ret (fa P 66 (e 8) 3 (dw w)) fun r5 => r5.2 = (dw w) ∧
 (Ret (ld P 42 r5.1 (dw w)) fun r6 => r6.2 = (dw w) ∧
 ((Ret (EV P 84 #[r3.1, r4.1, r6.1] (dw w)) fun r7 => (True ∧ True ∧ True ∧ True) ∧
 (Ret (vl r7.1 r7.2) fun r8 => r8.2 = r7.2 ∧
 (Ret (xt P r8.1 0 r7.2) fun r9 => r9.2 = r7.2 ∧
 (Ret (xt P r8.1 1 r7.2) fun r10 => r10.2 = r7.2 ∧
 ((Ret (al P 32 r7.2) fun r11 => (xt P r8.1 1 r11.2 = some (r10.1, r11.2) ∧ xt P r8.1 0 r11.2 = some (r9.1, r11.2) ∧ ld P 42 r5.1 r11.2 = some (r6.1, r11.2) ∧ fa P 66 (e 8) 3 r11.2 = some (r5.1, r11.2) ∧ sl P 25 r1.1 none (some r2.1) none r11.2 = some (r3.1, r11.2) ∧ True) ∧
 ((Ret (st P 32 r11.1 r9.1 r11.2) fun r12 => (xt P r8.1 1 r12.2 = some (r10.1, r12.2) ∧ True ∧ True ∧ True ∧ True ∧ True) ∧
 (Ret (vl r10.1 r12.2) fun r13 => r13.2 = r12.2 ∧
 Ret (spec_l6Walk_j3 (ups e [(82, r1.1), (83, r2.1), (84, r3.1), (85, r4.1), (86, r5.1), (87, r6.1), (88, r7.1), (81, r8.1), (89, r9.1), (90, r10.1), (12, r11.1), (13, r13.1)]) r12.2) Q))))))))) ∧
 (Ret (al P 32 (dw w)) fun r14 => (ld P 42 r5.1 r14.2 = some (r6.1, r14.2) ∧ fa P 66 (e 8) 3 r14.2 = some (r5.1, r14.2) ∧ sl P 25 r1.1 none (some r2.1) none r14.2 = some (r3.1, r14.2) ∧ True) ∧
 ((Ret (EV P 84 #[r3.1, r4.1, r6.1] r14.2) fun r15 => (True ∧ True ∧ True ∧ True) ∧
 (Ret (vl r15.1 r15.2) fun r16 => r16.2 = r15.2 ∧
 (Ret (xt P r16.1 0 r15.2) fun r17 => r17.2 = r15.2 ∧
 (Ret (xt P r16.1 1 r15.2) fun r18 => r18.2 = r15.2 ∧
 ((Ret (st P 32 r14.1 r17.1 r15.2) fun r19 => (xt P r16.1 1 r19.2 = some (r18.1, r19.2) ∧ True ∧ True ∧ True ∧ True ∧ True) ∧
 (Ret (vl r18.1 r19.2) fun r20 => r20.2 = r19.2 ∧
 Ret (spec_l6Walk_j3 (ups e [(82, r1.1), (83, r2.1), (84, r3.1), (85, r4.1), (86, r5.1), (87, r6.1), (12, r14.1), (88, r15.1), (81, r16.1), (89, r17.1), (90, r18.1), (13, r20.1)]) r19.2) Q))))))))))))))))) : Ret (spec_l6Walk_a2 e w) Q := exC_any (id := 20) (ops := opsOf (cA (cA (cB (cA (cB (cB (cB (cB (cA (cA (cB (cA (cA (cB (cA (cB (cB (cB (cB (bodyOf P 47))))))))))))))))))))) (by kernel_rfl) (by kernel_rfl) (Eq.mpr (by kernel_rfl) h)
theorem spec_l6Walk_j1_eq (e : Env) (w : World) : spec_l6Walk_j1 e w =
 (vl (e 4) w).bind fun r1 =>
 (fa P 66 (e 8) 0 r1.2).bind fun r2 =>
 (ld P 3 r2.1 r2.2).bind fun r3 =>
 (ld P 32 (e 9) r3.2).bind fun r4 =>
 (ia P 62 r1.1 r3.1 r4.2).bind fun r5 =>
 (st P 32 r5.1 r4.1 r5.2).bind fun r6 =>
 (vl (e 6) r6.2).bind fun r7 =>
 (ld P 32 (e 9) r7.2).bind fun r8 =>
 (bs P 62 1 #[(0, r8.1)] r8.2).bind fun r9 =>
 (b_append P #[62, 62] 62 #[r7.1, r9.1] r9.2).bind fun r10 =>
 (vl r10.1 r10.2).bind fun r11 =>
 spec_l6Walk_j4 (ups e [(124, r1.1), (125, r2.1), (126, r3.1), (127, r4.1), (128, r5.1), (129, r7.1), (130, r8.1), (131, r9.1), (132, r10.1), (6, r11.1)]) r11.2 := by kernel_rfl
theorem spec_l6Walk_j2_eq (e : Env) (w : World) : spec_l6Walk_j2 e w =
 (vl (e 11) w).bind fun r1 =>
 (vl r1.1 r1.2).bind fun r2 =>
 (gif r2.1 false (ld P 32 (e 9) r2.2) r2.2).bind fun r3 =>
 (gif r2.1 false (fa P 66 (e 8) 3 r3.2) r3.2).bind fun r4 =>
 (gif r2.1 false (ld P 42 r4.1 r4.2) r4.2).bind fun r5 =>
 (gif r2.1 false (EV P 85 #[r3.1, r5.1] r5.2) r5.2).bind fun r6 =>
 (gif r2.1 false (uo P .not r6.1 r6.2) r6.2).bind fun r7 =>
 (pickV r2.1 (.bool true) r7.1 r7.2).bind fun r8 =>
 cnd r8.1 (
 (vl (e 6) r8.2).bind fun r9 =>
 (vl (e 7) r9.2).bind fun r10 =>
 (vl r9.1 r10.2).bind fun r11 =>
 (vl r10.1 r11.2).bind fun r12 =>
 some (.tuple #[r11.1, r12.1], r12.2)) (
 (vl (e 6) r8.2).bind fun r13 =>
 (ld P 32 (e 9) r13.2).bind fun r14 =>
 (bs P 62 1 #[(0, r14.1)] r14.2).bind fun r15 =>
 (b_append P #[62, 62] 62 #[r13.1, r15.1] r15.2).bind fun r16 =>
 (vl r16.1 r16.2).bind fun r17 =>
 spec_l6Walk_j4 (ups e [(52, r1.1), (53, r2.1), (54, r3.1), (55, r4.1), (56, r5.1), (57, r6.1), (58, r7.1), (59, r8.1), (62, r13.1), (63, r14.1), (64, r15.1), (65, r16.1), (6, r17.1)]) r17.2) := by kernel_rfl
theorem spec_l6Walk_j3_eq (e : Env) (w : World) : spec_l6Walk_j3 e w =
 (vl (e 13) (dw w)).bind fun r2 =>
 ifP (r2.2 = (dw w)) <|
 (uo P .not r2.1 (dw w)).bind fun r3 =>
 ifP (r3.2 = (dw w)) <|
 (vl r3.1 (dw w)).bind fun r4 =>
 ifP (r4.2 = (dw w)) <|
 (gif r4.1 false (vl (e 0) (dw w)) (dw w)).bind fun r5 =>
 ifP (r5.2 = (dw w)) <|
 (gif r4.1 false (vl (e 7) (dw w)) (dw w)).bind fun r6 =>
 ifP (r6.2 = (dw w)) <|
 (gif r4.1 false (sl P 25 r5.1 none (some r6.1) none (dw w)) (dw w)).bind fun r7 =>
 ifP (r7.2 = (dw w)) <|
 (gif r4.1 false (ld P 66 (e 8) (dw w)) (dw w)).bind fun r8 =>
 ifP (r8.2 = (dw w)) <|
 (gif r4.1 false (EV P 86 #[r7.1, r8.1] (dw w)) (dw w)).bind fun r9 =>
 ifP (True ∧ True ∧ True ∧ True) <|
 (gif r4.1 false (uo P .not r9.1 r9.2) r9.2).bind fun r10 =>
 ifP (r10.2 = r9.2) <|
 (pickV r4.1 (.bool true) r10.1 r9.2).bind fun r11 =>
 ifP (r11.2 = r9.2) <|
 (vl r11.1 r9.2).bind fun r12 =>
 ifP (r12.2 = r9.2) <|
 (gif r12.1 false (fa P 66 (e 8) 1 r9.2) r9.2).bind fun r13 =>
 ifP (r13.2 = r9.2) <|
 (gif r12.1 false (ld P 3 r13.1 r9.2) r9.2).bind fun r14 =>
 ifP (r14.2 = r9.2) <|
 (gif r12.1 false (bo P .eql 3 (.tmp 103) (.const (.int .i64 3)) r14.1 (.int .i64 3) r9.2) r9.2).bind fun r15 =>
 ifP (r15.2 = r9.2) <|
 (gif r12.1 false (vl r15.1 r9.2) r9.2).bind fun r16 =>
 ifP (r16.2 = r9.2) <|
 (gif r16.1 true (vl (e 0) r9.2) r9.2).bind fun r17 =>
 ifP (r17.2 = r9.2) <|
 (gif r16.1 true (vl (e 7) r9.2) r9.2).bind fun r18 =>
 ifP (r18.2 = r9.2) <|
 (gif r16.1 true (sl P 25 r17.1 none (some r18.1) none r9.2) r9.2).bind fun r19 =>
 ifP (r19.2 = r9.2) <|
 (gif r16.1 true (ld P 66 (e 8) r9.2) r9.2).bind fun r20 =>
 ifP (r20.2 = r9.2) <|
 (gif r16.1 true (EV P 87 #[r19.1, r20.1] r9.2) r9.2).bind fun r21 =>
 ifP (True ∧ True ∧ True ∧ True ∧ True ∧ True ∧ True ∧ True ∧ True ∧ True) <|
 (gif r16.1 true (uo P .not r21.1 r21.2) r21.2).bind fun r22 =>
 ifP (r22.2 = r21.2) <|
 (gif r12.1 false (pickV r16.1 r22.1 (.bool false) r21.2) r21.2).bind fun r23 =>
 ifP (r23.2 = r21.2) <|
 (pickV r12.1 (.bool true) r23.1 r21.2).bind fun r24 =>
 ifP (r24.2 = r21.2) <|
 cnd r24.1 (
 (vl (e 6) r21.2).bind fun r25 =>
 (vl (e 7) r25.2).bind fun r26 =>
 (vl r25.1 r26.2).bind fun r27 =>
 (vl r26.1 r27.2).bind fun r28 =>
 some (.tuple #[r27.1, r28.1], r28.2)) (
 (ld P 32 (e 9) (dw r21.2)).bind fun r30 =>
 ifP (r30.2 = (dw r21.2)) <|
 (ld P 32 (e 12) (dw r21.2)).bind fun r31 =>
 ifP (r31.2 = (dw r21.2)) <|
 (fa P 66 (e 8) 2 (dw r21.2)).bind fun r32 =>
 ifP (r32.2 = (dw r21.2)) <|
 (ld P 3 r32.1 (dw r21.2)).bind fun r33 =>
 ifP (r33.2 = (dw r21.2)) <|
 (fa P 66 (e 8) 3 (dw r21.2)).bind fun r34 =>
 ifP (r34.2 = (dw r21.2)) <|
 (ld P 42 r34.1 (dw r21.2)).bind fun r35 =>
 ifP (r35.2 = (dw r21.2)) <|
 (EV P 89 #[r30.1, r31.1] (dw r21.2)).bind fun r36 =>
 ifP (ld P 42 r34.1 r36.2 = some (r35.1, r36.2) ∧ fa P 66 (e 8) 3 r36.2 = some (r34.1, r36.2) ∧ ld P 3 r32.1 r36.2 = some (r33.1, r36.2) ∧ fa P 66 (e 8) 2 r36.2 = some (r32.1, r36.2) ∧ True ∧ True ∧ True) <|
 (EV P 88 #[r36.1, r33.1, r35.1] r36.2).bind fun r37 =>
 ifP (True ∧ True ∧ True ∧ True ∧ True ∧ True ∧ True) <|
 (st P 32 (e 9) r37.1 r37.2).bind fun r38 =>
 ifP (True ∧ True ∧ True ∧ True ∧ True ∧ True ∧ True) <|
 spec_l6Walk_j1 (ups e [(91, r2.1), (92, r3.1), (93, r4.1), (94, r5.1), (95, r6.1), (96, r7.1), (97, r8.1), (98, r9.1), (99, r10.1), (100, r11.1), (101, r12.1), (102, r13.1), (103, r14.1), (104, r15.1), (105, r16.1), (106, r17.1), (107, r18.1), (108, r19.1), (109, r20.1), (110, r21.1), (111, r22.1), (112, r23.1), (113, r24.1), (116, r30.1), (117, r31.1), (119, r32.1), (120, r33.1), (121, r34.1), (122, r35.1), (118, r36.1), (123, r37.1)]) r38.2) := by kernel_rfl
theorem spec_l6Walk_j4_eq (e : Env) (w : World) : spec_l6Walk_j4 e w =
 (vl (e 7) w).bind fun r1 =>
 (bo P .add 3 (.tmp 28) (.const (.int .i64 1)) r1.1 (.int .i64 1) r1.2).bind fun r2 =>
 (vl r2.1 r2.2).bind fun r3 =>
 spec_l6Walk_l2 (ups e [(28, r1.1), (29, r2.1), (7, r3.1)]) r3.2 := by kernel_rfl
theorem spec_l6Walk_fn (x0 : Value) (w : World) : fnC P (EV P) 47 #[x0] w =
 (vl (Go.Value.slice none 0 0) w).bind fun r1 =>
 (vl (.int .i64 0) r1.2).bind fun r2 =>
 (bs P 62 0 #[] r2.2).bind fun r3 =>
 (vl r3.1 r3.2).bind fun r4 =>
 (vl (.int .i64 0) r4.2).bind fun r5 =>
 spec_l6Walk_l1 (ups (env0 #[x0]) [(2, r1.1), (3, r2.1), (14, r3.1), (4, r4.1), (5, r5.1)]) r5.2 := by kernel_rfl
theorem laws_toDone_fn (x0 : Value) (w : World) : fnC P (EV P) 48 #[x0] w =
 (bx P 69 x0 w).bind fun r1 =>
 (al P 66 r1.2).bind fun r2 =>
 (al P 66 r2.2).bind fun r3 =>
 (fa P 69 r1.1 0 r3.2).bind fun r4 =>
 (ld P 3 r4.1 r4.2).bind fun r5 =>
 (fa P 66 r3.1 0 r5.2).bind fun r6 =>
 (st P 3 r6.1 r5.1 r6.2).bind fun r7 =>
 (fa P 69 r1.1 1 r7.2).bind fun r8 =>
 (ld P 3 r8.1 r8.2).bind fun r9 =>
 (fa P 66 r3.1 1 r9.2).bind fun r10 =>
 (st P 3 r10.1 r9.1 r10.2).bind fun r11 =>
 (fa P 69 r1.1 2 r11.2).bind fun r12 =>
 (ld P 3 r12.1 r12.2).bind fun r13 =>
 (fa P 66 r3.1 2 r13.2).bind fun r14 =>
 (st P 3 r14.1 r13.1 r14.2).bind fun r15 =>
 (fa P 69 r1.1 3 r15.2).bind fun r16 =>
 (ld P 39 r16.1 r16.2).bind fun r17 =>
 (EV P 26 #[r17.1] r17.2).bind fun r18 =>
 (fa P 66 r3.1 3 r18.2).bind fun r19 =>
 (st P 42 r19.1 r18.1 r19.2).bind fun r20 =>
 (ld P 66 r3.1 r20.2).bind fun r21 =>
 (st P 66 r2.1 r21.1 r21.2).bind fun r22 =>
 ((ld P 66 r2.1 r22.2).bind fun r23 => ifP (r23.2 = r22.2) (some r23.1)).bind fun v24 =>
 some (v24, r22.2) := by kernel_rfl
theorem impl_formed_fn (x0 : Value) (w : World) : fnC P (EV P) 49 #[x0] w =
 (vl (.bool false) w).bind fun r1 =>
 (vl x0 r1.2).bind fun r2 =>
 (b_len P #[25] 3 #[r2.1] r2.2).bind fun r3 =>
 (bo P .leq 3 (.tmp 4) (.const (.int .i64 80)) r3.1 (.int .i64 80) r3.2).bind fun r4 =>
 (vl r4.1 r4.2).bind fun r5 =>
 (gif r5.1 true (vl x0 r5.2) r5.2).bind fun r6 =>
 (gif r5.1 true (EV P 90 #[r6.1, (.func (.func 91) #[] #[])] r6.2) r6.2).bind fun r7 =>
 (gif r5.1 true (uo P .not r7.1 r7.2) r7.2).bind fun r8 =>
 (pickV r5.1 r8.1 (.bool false) r8.2).bind fun r9 =>
 (vl r9.1 r9.2).bind fun r10 =>
 some (r10.1, r10.2) := by kernel_rfl
noncomputable def impl_bookOf_l1 (e : Env) (w : World) : Option (Value × World) := exC P (EV P) 50 25 (.loop (cA (cA (cB (cA (cB (cB (bodyOf P 50)))))))) e w (kBlock 0 (kSeq P (EV P) 50 25 (cB (cB (cB (bodyOf P 50)))) (kFn P (fnOf P 50))))
theorem impl_bookOf_l1_eq (e : Env) (w : World) : impl_bookOf_l1 e w =
 (bo P .lss 3 (.tmp 10) (.tmp 9) (e 10) (e 9) w).bind fun r1 =>
 cnd r1.1 (
 (vl (e 10) r1.2).bind fun r2 =>
 (ia P 25 (e 8) (e 10) r2.2).bind fun r3 =>
 (ld P 66 r3.1 r3.2).bind fun r4 =>
 (al P 66 r4.2).bind fun r5 =>
 (vl r2.1 r5.2).bind fun r6 =>
 (st P 66 r5.1 r4.1 r6.2).bind fun r7 =>
 (vl (e 4) r7.2).bind fun r8 =>
 (ld P 66 r5.1 r8.2).bind fun r9 =>
 (EV P 95 #[r8.1, r9.1] r9.2).bind fun r10 =>
 (uo P .not r10.1 r10.2).bind fun r11 =>
 cnd r11.1 (
 (vl (e 4) r11.2).bind fun r12 =>
 (vl r6.1 r12.2).bind fun r13 =>
 (vl r12.1 r13.2).bind fun r14 =>
 (vl r13.1 r14.2).bind fun r15 =>
 some (.tuple #[r14.1, r15.1], r15.2)) (
 (bo P .add 3 (.tmp 10) (.const (.int .i64 1)) (e 10) (.int .i64 1) r11.2).bind fun r16 =>
 (vl r16.1 r16.2).bind fun r17 =>
 impl_bookOf_l1 (ups e [(11, r1.1), (12, r2.1), (13, r3.1), (14, r4.1), (6, r5.1), (5, r6.1), (15, r8.1), (16, r9.1), (17, r10.1), (18, r11.1), (21, r16.1), (10, r17.1)]) r17.2)) (
 (vl (e 4) r1.2).bind fun r18 =>
 (vl (e 0) r18.2).bind fun r19 =>
 (b_len P #[25] 3 #[r19.1] r19.2).bind fun r20 =>
 (vl r18.1 r20.2).bind fun r21 =>
 (vl r20.1 r21.2).bind fun r22 =>
 some (.tuple #[r21.1, r22.1], r22.2)) := (exC_loop P (EV P) 50 25 (cA (cA (cB (cA (cB (cB (bodyOf P 50))))))) e w (kBlock 0 (kSeq P (EV P) 50 25 (cB (cB (cB (bodyOf P 50)))) (kFn P (fnOf P 50))))).trans (by kernel_rfl)
theorem impl_bookOf_fn (x0 : Value) (w : World) : fnC P (EV P) 50 #[x0] w =
 (vl (Go.Value.pointer none) w).bind fun r1 =>
 (vl (.int .i64 0) r1.2).bind fun r2 =>
 (EV P 94 #[] r2.2).bind fun r3 =>
 (vl r3.1 r3.2).bind fun r4 =>
 (vl x0 r4.2).bind fun r5 =>
 (b_len P #[25] 3 #[r5.1] r5.2).bind fun r6 =>
 (vl (.int .i64 0) r6.2).bind fun r7 =>
 impl_bookOf_l1 (ups (env0 #[x0]) [(2, r1.1), (3, r2.1), (7, r3.1), (4, r4.1), (8, r5.1), (9, r6.1), (10, r7.1)]) r7.2 := by kernel_rfl
theorem laws_eqDone_fn (x0 x1 : Value) (w : World) : fnC P (EV P) 51 #[x0, x1] w =
 (bx P 66 x0 w).bind fun r1 =>
 (bx P 66 x1 r1.2).bind fun r2 =>
 (vl (.bool false) r2.2).bind fun r3 =>
 (fa P 66 r1.1 0 r3.2).bind fun r4 =>
 (ld P 3 r4.1 r4.2).bind fun r5 =>
 (fa P 66 r2.1 0 r5.2).bind fun r6 =>
 (ld P 3 r6.1 r6.2).bind fun r7 =>
 (bo P .neq 3 (.tmp 6) (.tmp 8) r5.1 r7.1 r7.2).bind fun r8 =>
 cnd r8.1 (
 (vl (.bool false) r8.2).bind fun r9 =>
 some (r9.1, r9.2)) (
 (fa P 66 r1.1 1 r8.2).bind fun r10 =>
 (ld P 3 r10.1 r10.2).bind fun r11 =>
 (fa P 66 r2.1 1 r11.2).bind fun r12 =>
 (ld P 3 r12.1 r12.2).bind fun r13 =>
 (bo P .neq 3 (.tmp 11) (.tmp 13) r11.1 r13.1 r13.2).bind fun r14 =>
 cnd r14.1 (
 (vl (.bool false) r14.2).bind fun r15 =>
 some (r15.1, r15.2)) (
 (fa P 66 r1.1 2 r14.2).bind fun r16 =>
 (ld P 3 r16.1 r16.2).bind fun r17 =>
 (fa P 66 r2.1 2 r17.2).bind fun r18 =>
 (ld P 3 r18.1 r18.2).bind fun r19 =>
 (bo P .neq 3 (.tmp 16) (.tmp 18) r17.1 r19.1 r19.2).bind fun r20 =>
 cnd r20.1 (
 (vl (.bool false) r20.2).bind fun r21 =>
 some (r21.1, r21.2)) (
 (fa P 66 r1.1 3 r20.2).bind fun r22 =>
 (ld P 42 r22.1 r22.2).bind fun r23 =>
 (fa P 66 r2.1 3 r23.2).bind fun r24 =>
 (ld P 42 r24.1 r24.2).bind fun r25 =>
 (EV P 63 #[r23.1, r25.1] r25.2).bind fun r26 =>
 (uo P .not r26.1 r26.2).bind fun r27 =>
 cnd r27.1 (
 (vl (.bool false) r27.2).bind fun r28 =>
 some (r28.1, r28.2)) (
 (vl (.bool true) r27.2).bind fun r29 =>
 some (r29.1, r29.2))))) := by kernel_rfl
theorem spec_l6Ok_fn (x0 : Value) (w : World) : fnC P (EV P) 52 #[x0] w =
 (vl (.bool false) w).bind fun r1 =>
 (vl x0 r1.2).bind fun r2 =>
 (EV P 46 #[r2.1] r2.2).bind fun r3 =>
 (uo P .not r3.1 r3.2).bind fun r4 =>
 cnd r4.1 (
 (vl (.bool false) r4.2).bind fun r5 =>
 some (r5.1, r5.2)) (
 (vl x0 r4.2).bind fun r6 =>
 (EV P 47 #[r6.1] r6.2).bind fun r7 =>
 (vl r7.1 r7.2).bind fun r8 =>
 (xt P r8.1 0 r8.2).bind fun r9 =>
 (xt P r8.1 1 r9.2).bind fun r10 =>
 (vl r9.1 r10.2).bind fun r11 =>
 (vl r10.1 r11.2).bind fun r12 =>
 (vl r12.1 r12.2).bind fun r13 =>
 (vl x0 r13.2).bind fun r14 =>
 (b_len P #[25] 3 #[r14.1] r14.2).bind fun r15 =>
 (bo P .eql 3 (.tmp 13) (.tmp 15) r13.1 r15.1 r15.2).bind fun r16 =>
 (vl r16.1 r16.2).bind fun r17 =>
 some (r17.1, r17.2)) := by kernel_rfl
theorem impl_checked_fn (x0 : Value) (w : World) : fnC P (EV P) 53 #[x0] w =
 (vl (Go.Value.pointer none) w).bind fun r1 =>
 (vl (.bool false) r1.2).bind fun r2 =>
 (vl x0 r2.2).bind fun r3 =>
 (EV P 49 #[r3.1] r3.2).bind fun r4 =>
 (uo P .not r4.1 r4.2).bind fun r5 =>
 cnd r5.1 (
 (vl (Go.Value.pointer none) r5.2).bind fun r6 =>
 (vl (.bool false) r6.2).bind fun r7 =>
 some (.tuple #[r6.1, r7.1], r7.2)) (
 (vl x0 r5.2).bind fun r8 =>
 (EV P 50 #[r8.1] r8.2).bind fun r9 =>
 (vl r9.1 r9.2).bind fun r10 =>
 (xt P r10.1 0 r10.2).bind fun r11 =>
 (xt P r10.1 1 r11.2).bind fun r12 =>
 (vl r11.1 r12.2).bind fun r13 =>
 (vl r12.1 r13.2).bind fun r14 =>
 (vl r13.1 r14.2).bind fun r15 =>
 (vl r14.1 r15.2).bind fun r16 =>
 (vl x0 r16.2).bind fun r17 =>
 (b_len P #[25] 3 #[r17.1] r17.2).bind fun r18 =>
 (bo P .eql 3 (.tmp 15) (.tmp 17) r16.1 r18.1 r18.2).bind fun r19 =>
 (vl r15.1 r19.2).bind fun r20 =>
 (vl r19.1 r20.2).bind fun r21 =>
 some (.tuple #[r20.1, r21.1], r21.2)) := by kernel_rfl
theorem spec_l1In_fn (x0 x1 x2 : Value) (w : World) : fnC P (EV P) 54 #[x0, x1, x2] w =
 (vl (.bool false) w).bind fun r1 =>
 (vl x0 r1.2).bind fun r2 =>
 (vl x1 r2.2).bind fun r3 =>
 (bo P .geq 3 (.tmp 7) (.tmp 8) r2.1 r3.1 r3.2).bind fun r4 =>
 (vl r4.1 r4.2).bind fun r5 =>
 (gif r5.1 true (vl x0 r5.2) r5.2).bind fun r6 =>
 (gif r5.1 true (vl x2 r6.2) r6.2).bind fun r7 =>
 (gif r5.1 true (bo P .leq 3 (.tmp 11) (.tmp 12) r6.1 r7.1 r7.2) r7.2).bind fun r8 =>
 (pickV r5.1 r8.1 (.bool false) r8.2).bind fun r9 =>
 (vl r9.1 r9.2).bind fun r10 =>
 some (r10.1, r10.2) := by kernel_rfl
theorem spec_l1None_fn (w : World) : fnC P (EV P) 55 #[] w =
 (al P 32 w).bind fun r1 =>
 (ms P 30 (.int .i64 4) (.int .i64 4) r1.2).bind fun r2 =>
 (bd P 32 #[(0, r2.1)] r2.2).bind fun r3 =>
 (st P 32 r1.1 r3.1 r3.2).bind fun r4 =>
 ((ld P 32 r1.1 r4.2).bind fun r5 => ifP (r5.2 = r4.2) (some r5.1)).bind fun v6 =>
 some (v6, r4.2) := by kernel_rfl
theorem impl_within_fn (x0 x1 x2 : Value) (w : World) : fnC P (EV P) 56 #[x0, x1, x2] w =
 (vl (.bool false) w).bind fun r1 =>
 (vl x0 r1.2).bind fun r2 =>
 (vl x1 r2.2).bind fun r3 =>
 (bo P .geq 3 (.tmp 7) (.tmp 8) r2.1 r3.1 r3.2).bind fun r4 =>
 (vl r4.1 r4.2).bind fun r5 =>
 (gif r5.1 true (vl x0 r5.2) r5.2).bind fun r6 =>
 (gif r5.1 true (vl x2 r6.2) r6.2).bind fun r7 =>
 (gif r5.1 true (bo P .leq 3 (.tmp 11) (.tmp 12) r6.1 r7.1 r7.2) r7.2).bind fun r8 =>
 (pickV r5.1 r8.1 (.bool false) r8.2).bind fun r9 =>
 (vl r9.1 r9.2).bind fun r10 =>
 some (r10.1, r10.2) := by kernel_rfl
theorem impl_Past_copied_fn (x0 : Value) (w : World) : fnC P (EV P) 57 #[x0] w =
 (bx P 32 x0 w).bind fun r1 =>
 (al P 32 r1.2).bind fun r2 =>
 (fa P 32 r1.1 0 r2.2).bind fun r3 =>
 (ld P 30 r3.1 r3.2).bind fun r4 =>
 (EV P 97 #[r4.1] r4.2).bind fun r5 =>
 (EV P 96 #[r5.1] r5.2).bind fun r6 =>
 (bd P 32 #[(0, r6.1)] r6.2).bind fun r7 =>
 (st P 32 r2.1 r7.1 r7.2).bind fun r8 =>
 ((ld P 32 r2.1 r8.2).bind fun r9 => ifP (r9.2 = r8.2) (some r9.1)).bind fun v10 =>
 some (v10, r8.2) := by kernel_rfl
noncomputable def spec_l8Tags_l1 (e : Env) (w : World) : Option (Value × World) := exC P (EV P) 59 27 (.loop (cA (cA (cB (cA (cB (cB (bodyOf P 59)))))))) e w (kBlock 0 (kSeq P (EV P) 59 27 (cB (cB (cB (bodyOf P 59)))) (kFn P (fnOf P 59))))
noncomputable def spec_l8Tags_j1 (e : Env) (w : World) : Option (Value × World) := exC P (EV P) 59 27 (cB (cB (cA (cA (cB (cA (cB (cB (bodyOf P 59))))))))) e w (kLoop P (EV P) 59 27 (cA (cA (cB (cA (cB (cB (bodyOf P 59))))))) (kBlock 0 (kSeq P (EV P) 59 27 (cB (cB (cB (bodyOf P 59)))) (kFn P (fnOf P 59)))))
theorem spec_l8Tags_l1_eq (e : Env) (w : World) : spec_l8Tags_l1 e w =
 (vl (e 4) w).bind fun r1 =>
 (vl (e 0) r1.2).bind fun r2 =>
 (b_len P #[25] 3 #[r2.1] r2.2).bind fun r3 =>
 (bo P .lss 3 (.tmp 6) (.tmp 8) r1.1 r3.1 r3.2).bind fun r4 =>
 cnd r4.1 (
 (vl (e 0) r4.2).bind fun r5 =>
 (vl (e 4) r5.2).bind fun r6 =>
 (ia P 25 r5.1 r6.1 r6.2).bind fun r7 =>
 (fa P 66 r7.1 1 r7.2).bind fun r8 =>
 (ld P 3 r8.1 r8.2).bind fun r9 =>
 (bo P .eql 3 (.tmp 16) (.const (.int .i64 1)) r9.1 (.int .i64 1) r9.2).bind fun r10 =>
 cnd r10.1 (
 (vl (e 3) r10.2).bind fun r11 =>
 (vl (e 0) r11.2).bind fun r12 =>
 (vl (e 4) r12.2).bind fun r13 =>
 (ia P 25 r12.1 r13.1 r13.2).bind fun r14 =>
 (fa P 66 r14.1 3 r14.2).bind fun r15 =>
 (ld P 42 r15.1 r15.2).bind fun r16 =>
 (bs P 30 1 #[(0, r16.1)] r16.2).bind fun r17 =>
 (b_append P #[30, 30] 30 #[r11.1, r17.1] r17.2).bind fun r18 =>
 (vl r18.1 r18.2).bind fun r19 =>
 spec_l8Tags_j1 (ups e [(6, r1.1), (7, r2.1), (8, r3.1), (9, r4.1), (12, r5.1), (13, r6.1), (14, r7.1), (15, r8.1), (16, r9.1), (17, r10.1), (18, r11.1), (19, r12.1), (20, r13.1), (21, r14.1), (22, r15.1), (23, r16.1), (24, r17.1), (25, r18.1), (3, r19.1)]) r19.2) (
 spec_l8Tags_j1 (ups e [(6, r1.1), (7, r2.1), (8, r3.1), (9, r4.1), (12, r5.1), (13, r6.1), (14, r7.1), (15, r8.1), (16, r9.1), (17, r10.1)]) r10.2)) (
 (vl (e 3) r4.2).bind fun r20 =>
 (vl r20.1 r20.2).bind fun r21 =>
 some (r21.1, r21.2)) := (exC_loop P (EV P) 59 27 (cA (cA (cB (cA (cB (cB (bodyOf P 59))))))) e w (kBlock 0 (kSeq P (EV P) 59 27 (cB (cB (cB (bodyOf P 59)))) (kFn P (fnOf P 59))))).trans (by kernel_rfl)
theorem spec_l8Tags_j1_eq (e : Env) (w : World) : spec_l8Tags_j1 e w =
 (vl (e 4) w).bind fun r1 =>
 (bo P .add 3 (.tmp 10) (.const (.int .i64 1)) r1.1 (.int .i64 1) r1.2).bind fun r2 =>
 (vl r2.1 r2.2).bind fun r3 =>
 spec_l8Tags_l1 (ups e [(10, r1.1), (11, r2.1), (4, r3.1)]) r3.2 := by kernel_rfl
theorem spec_l8Tags_fn (x0 : Value) (w : World) : fnC P (EV P) 59 #[x0] w =
 (vl (Go.Value.slice none 0 0) w).bind fun r1 =>
 (bs P 30 0 #[] r1.2).bind fun r2 =>
 (vl r2.1 r2.2).bind fun r3 =>
 (vl (.int .i64 0) r3.2).bind fun r4 =>
 spec_l8Tags_l1 (ups (env0 #[x0]) [(2, r1.1), (5, r2.1), (3, r3.1), (4, r4.1)]) r4.2 := by kernel_rfl
theorem spec_l1Less_fn (x0 x1 : Value) (w : World) : fnC P (EV P) 60 #[x0, x1] w =
 (bx P 42 x0 w).bind fun r1 =>
 (bx P 42 x1 r1.2).bind fun r2 =>
 (vl (.bool false) r2.2).bind fun r3 =>
 (fa P 42 r1.1 0 r3.2).bind fun r4 =>
 (ld P 3 r4.1 r4.2).bind fun r5 =>
 (fa P 42 r2.1 0 r5.2).bind fun r6 =>
 (ld P 3 r6.1 r6.2).bind fun r7 =>
 (bo P .lss 3 (.tmp 6) (.tmp 8) r5.1 r7.1 r7.2).bind fun r8 =>
 (vl r8.1 r8.2).bind fun r9 =>
 (gif r9.1 false (fa P 42 r1.1 0 r9.2) r9.2).bind fun r10 =>
 (gif r9.1 false (ld P 3 r10.1 r10.2) r10.2).bind fun r11 =>
 (gif r9.1 false (fa P 42 r2.1 0 r11.2) r11.2).bind fun r12 =>
 (gif r9.1 false (ld P 3 r12.1 r12.2) r12.2).bind fun r13 =>
 (gif r9.1 false (bo P .eql 3 (.tmp 12) (.tmp 14) r11.1 r13.1 r13.2) r13.2).bind fun r14 =>
 (gif r9.1 false (vl r14.1 r14.2) r14.2).bind fun r15 =>
 (gif r15.1 true (fa P 42 r1.1 1 r15.2) r15.2).bind fun r16 =>
 (gif r15.1 true (ld P 3 r16.1 r16.2) r16.2).bind fun r17 =>
 (gif r15.1 true (fa P 42 r2.1 1 r17.2) r17.2).bind fun r18 =>
 (gif r15.1 true (ld P 3 r18.1 r18.2) r18.2).bind fun r19 =>
 (gif r15.1 true (bo P .lss 3 (.tmp 18) (.tmp 20) r17.1 r19.1 r19.2) r19.2).bind fun r20 =>
 (gif r9.1 false (pickV r15.1 r20.1 (.bool false) r20.2) r20.2).bind fun r21 =>
 (pickV r9.1 (.bool true) r21.1 r21.2).bind fun r22 =>
 (vl r22.1 r22.2).bind fun r23 =>
 some (r23.1, r23.2) := by kernel_rfl
theorem impl_Tag_compare_fn (x0 x1 : Value) (w : World) : fnC P (EV P) 62 #[x0, x1] w =
 (bx P 42 x0 w).bind fun r1 =>
 (bx P 42 x1 r1.2).bind fun r2 =>
 (vl (.int .i64 0) r2.2).bind fun r3 =>
 (fa P 42 r1.1 0 (dw r3.2)).bind fun r5 =>
 ifP (r5.2 = (dw r3.2)) <|
 (ld P 3 r5.1 (dw r3.2)).bind fun r6 =>
 ifP (r6.2 = (dw r3.2)) <|
 (fa P 42 r2.1 0 (dw r3.2)).bind fun r7 =>
 ifP (r7.2 = (dw r3.2)) <|
 (ld P 3 r7.1 (dw r3.2)).bind fun r8 =>
 ifP (r8.2 = (dw r3.2)) <|
 (fa P 42 r1.1 1 (dw r3.2)).bind fun r9 =>
 ifP (r9.2 = (dw r3.2)) <|
 (ld P 3 r9.1 (dw r3.2)).bind fun r10 =>
 ifP (r10.2 = (dw r3.2)) <|
 (fa P 42 r2.1 1 (dw r3.2)).bind fun r11 =>
 ifP (r11.2 = (dw r3.2)) <|
 (ld P 3 r11.1 (dw r3.2)).bind fun r12 =>
 ifP (r12.2 = (dw r3.2)) <|
 (EV P 101 #[r6.1, r8.1] (dw r3.2)).bind fun r13 =>
 ifP (ld P 3 r11.1 r13.2 = some (r12.1, r13.2) ∧ fa P 42 r2.1 1 r13.2 = some (r11.1, r13.2) ∧ ld P 3 r9.1 r13.2 = some (r10.1, r13.2) ∧ fa P 42 r1.1 1 r13.2 = some (r9.1, r13.2) ∧ True ∧ True ∧ True ∧ True ∧ True) <|
 (EV P 101 #[r10.1, r12.1] r13.2).bind fun r14 =>
 ifP (True ∧ True ∧ True ∧ True ∧ True ∧ True ∧ True ∧ True ∧ True) <|
 (bs P 139 2 #[(0, r13.1), (1, r14.1)] r14.2).bind fun r15 =>
 ifP (True ∧ True ∧ True ∧ True ∧ True ∧ True ∧ True ∧ True ∧ True) <|
 (EV P 100 #[r15.1] r15.2).bind fun r16 =>
 ifP (True ∧ True ∧ True ∧ True ∧ True ∧ True ∧ True ∧ True ∧ True) <|
 (vl r16.1 r16.2).bind fun r17 =>
 ifP (r17.2 = r16.2) <|
 some (r17.1, r16.2) := by kernel_rfl
theorem laws_eqTag_fn (x0 x1 : Value) (w : World) : fnC P (EV P) 63 #[x0, x1] w =
 (bx P 42 x0 w).bind fun r1 =>
 (bx P 42 x1 r1.2).bind fun r2 =>
 (vl (.bool false) r2.2).bind fun r3 =>
 (fa P 42 r1.1 0 r3.2).bind fun r4 =>
 (ld P 3 r4.1 r4.2).bind fun r5 =>
 (fa P 42 r2.1 0 r5.2).bind fun r6 =>
 (ld P 3 r6.1 r6.2).bind fun r7 =>
 (bo P .neq 3 (.tmp 6) (.tmp 8) r5.1 r7.1 r7.2).bind fun r8 =>
 cnd r8.1 (
 (vl (.bool false) r8.2).bind fun r9 =>
 some (r9.1, r9.2)) (
 (fa P 42 r1.1 1 r8.2).bind fun r10 =>
 (ld P 3 r10.1 r10.2).bind fun r11 =>
 (fa P 42 r2.1 1 r11.2).bind fun r12 =>
 (ld P 3 r12.1 r12.2).bind fun r13 =>
 (bo P .neq 3 (.tmp 11) (.tmp 13) r11.1 r13.1 r13.2).bind fun r14 =>
 cnd r14.1 (
 (vl (.bool false) r14.2).bind fun r15 =>
 some (r15.1, r15.2)) (
 (vl (.bool true) r14.2).bind fun r16 =>
 some (r16.1, r16.2))) := by kernel_rfl
noncomputable def spec_l8In_l1 (e : Env) (w : World) : Option (Value × World) := exC P (EV P) 64 18 (.loop (cA (cA (cB (cA (cB (bodyOf P 64))))))) e w (kBlock 0 (kSeq P (EV P) 64 18 (cB (cB (bodyOf P 64))) (kFn P (fnOf P 64))))
theorem spec_l8In_l1_eq (e : Env) (w : World) : spec_l8In_l1 e w =
 (vl (e 5) w).bind fun r1 =>
 (vl (e 0) r1.2).bind fun r2 =>
 (b_len P #[30] 3 #[r2.1] r2.2).bind fun r3 =>
 (bo P .lss 3 (.tmp 6) (.tmp 8) r1.1 r3.1 r3.2).bind fun r4 =>
 cnd r4.1 (
 (vl (e 0) (dw r4.2)).bind fun r6 =>
 ifP (r6.2 = (dw r4.2)) <|
 (vl (e 5) (dw r4.2)).bind fun r7 =>
 ifP (r7.2 = (dw r4.2)) <|
 (ia P 30 r6.1 r7.1 (dw r4.2)).bind fun r8 =>
 ifP (r8.2 = (dw r4.2)) <|
 (ld P 42 r8.1 (dw r4.2)).bind fun r9 =>
 ifP (r9.2 = (dw r4.2)) <|
 (ld P 42 (e 3) (dw r4.2)).bind fun r10 =>
 ifP (r10.2 = (dw r4.2)) <|
 (bo P .eql 42 (.tmp 15) (.tmp 16) r9.1 r10.1 (dw r4.2)).bind fun r11 =>
 ifP (r11.2 = (dw r4.2)) <|
 cnd r11.1 (
 (vl (.bool true) (dw r4.2)).bind fun r12 =>
 some (r12.1, r12.2)) (
 (vl (e 5) (dw r4.2)).bind fun r13 =>
 (bo P .add 3 (.tmp 10) (.const (.int .i64 1)) r13.1 (.int .i64 1) r13.2).bind fun r14 =>
 (vl r14.1 r14.2).bind fun r15 =>
 spec_l8In_l1 (ups e [(6, r1.1), (7, r2.1), (8, r3.1), (9, r4.1), (12, r6.1), (13, r7.1), (14, r8.1), (15, r9.1), (16, r10.1), (17, r11.1), (10, r13.1), (11, r14.1), (5, r15.1)]) r15.2)) (
 (vl (.bool false) r4.2).bind fun r16 =>
 some (r16.1, r16.2)) := (exC_loop P (EV P) 64 18 (cA (cA (cB (cA (cB (bodyOf P 64)))))) e w (kBlock 0 (kSeq P (EV P) 64 18 (cB (cB (bodyOf P 64))) (kFn P (fnOf P 64))))).trans (by kernel_rfl)
theorem spec_l8In_fn (x0 x1 : Value) (w : World) : fnC P (EV P) 64 #[x0, x1] w =
 (bx P 42 x1 w).bind fun r1 =>
 (vl (.bool false) r1.2).bind fun r2 =>
 (vl (.int .i64 0) r2.2).bind fun r3 =>
 spec_l8In_l1 (ups (env0 #[x0, x1]) [(3, r1.1), (4, r2.1), (5, r3.1)]) r3.2 := by kernel_rfl
noncomputable def spec_l8Ahead_l1 (e : Env) (w : World) : Option (Value × World) := exC P (EV P) 65 66 (.loop (cA (cA (cB (cA (cB (cB (cB (bodyOf P 65))))))))) e w (kBlock 0 (kSeq P (EV P) 65 66 (cB (cB (cB (cB (bodyOf P 65))))) (kFn P (fnOf P 65))))
noncomputable def spec_l8Ahead_l2 (e : Env) (w : World) : Option (Value × World) := exC P (EV P) 65 66 (.loop (cA (cA (cB (cB (cA (cA (cB (cA (cA (cB (cA (cB (cB (cB (bodyOf P 65)))))))))))))))) e w (kBlock 2 (kBlock 1 (kSeq P (EV P) 65 66 (cB (cB (cA (cA (cB (cA (cB (cB (cB (bodyOf P 65)))))))))) (kLoop P (EV P) 65 66 (cA (cA (cB (cA (cB (cB (cB (bodyOf P 65)))))))) (kBlock 0 (kSeq P (EV P) 65 66 (cB (cB (cB (cB (bodyOf P 65))))) (kFn P (fnOf P 65))))))))
noncomputable def spec_l8Ahead_j1 (e : Env) (w : World) : Option (Value × World) := exC P (EV P) 65 66 (cB (cB (cA (cA (cB (cB (cA (cA (cB (cA (cA (cB (cA (cB (cB (cB (bodyOf P 65))))))))))))))))) e w (kLoop P (EV P) 65 66 (cA (cA (cB (cB (cA (cA (cB (cA (cA (cB (cA (cB (cB (cB (bodyOf P 65))))))))))))))) (kBlock 2 (kBlock 1 (kSeq P (EV P) 65 66 (cB (cB (cA (cA (cB (cA (cB (cB (cB (bodyOf P 65)))))))))) (kLoop P (EV P) 65 66 (cA (cA (cB (cA (cB (cB (cB (bodyOf P 65)))))))) (kBlock 0 (kSeq P (EV P) 65 66 (cB (cB (cB (cB (bodyOf P 65))))) (kFn P (fnOf P 65)))))))))
theorem spec_l8Ahead_l1_eq (e : Env) (w : World) : spec_l8Ahead_l1 e w =
 (vl (e 10) w).bind fun r1 =>
 (vl (e 9) r1.2).bind fun r2 =>
 (b_len P #[30] 3 #[r2.1] r2.2).bind fun r3 =>
 (bo P .lss 3 (.tmp 22) (.tmp 24) r1.1 r3.1 r3.2).bind fun r4 =>
 cnd r4.1 (
 (vl (e 0) r4.2).bind fun r5 =>
 (vl (e 7) r5.2).bind fun r6 =>
 (vl (e 9) r6.2).bind fun r7 =>
 (vl (e 10) r7.2).bind fun r8 =>
 (ia P 30 r7.1 r8.1 r8.2).bind fun r9 =>
 (ld P 42 r9.1 r9.2).bind fun r10 =>
 (EV P 84 #[r5.1, r6.1, r10.1] r10.2).bind fun r11 =>
 (vl r11.1 r11.2).bind fun r12 =>
 (xt P r12.1 0 r12.2).bind fun r13 =>
 (xt P r12.1 1 r13.2).bind fun r14 =>
 (al P 32 r14.2).bind fun r15 =>
 (st P 32 r15.1 r13.1 r15.2).bind fun r16 =>
 (vl r14.1 r16.2).bind fun r17 =>
 (vl (.int .i64 0) r17.2).bind fun r18 =>
 spec_l8Ahead_l2 (ups e [(22, r1.1), (23, r2.1), (24, r3.1), (25, r4.1), (29, r5.1), (30, r6.1), (31, r7.1), (32, r8.1), (33, r9.1), (34, r10.1), (35, r11.1), (28, r12.1), (36, r13.1), (37, r14.1), (11, r15.1), (12, r17.1), (13, r18.1)]) r18.2) (
 (vl (.bool false) r4.2).bind fun r19 =>
 some (r19.1, r19.2)) := (exC_loop P (EV P) 65 66 (cA (cA (cB (cA (cB (cB (cB (bodyOf P 65)))))))) e w (kBlock 0 (kSeq P (EV P) 65 66 (cB (cB (cB (cB (bodyOf P 65))))) (kFn P (fnOf P 65))))).trans (by kernel_rfl)
theorem spec_l8Ahead_l2_eq (e : Env) (w : World) : spec_l8Ahead_l2 e w =
 (vl (e 12) w).bind fun r1 =>
 (vl r1.1 r1.2).bind fun r2 =>
 (gif r2.1 true (vl (e 13) r2.2) r2.2).bind fun r3 =>
 (gif r2.1 true (bo P .lss 3 (.tmp 40) (.const (.int .i64 4)) r3.1 (.int .i64 4) r3.2) r3.2).bind fun r4 =>
 (pickV r2.1 r4.1 (.bool false) r4.2).bind fun r5 =>
 cnd r5.1 (
 (fa P 32 (e 11) 0 r5.2).bind fun r6 =>
 (ld P 30 r6.1 r6.2).bind fun r7 =>
 (vl (e 13) r7.2).bind fun r8 =>
 (ia P 30 r7.1 r8.1 r8.2).bind fun r9 =>
 (ld P 42 r9.1 r9.2).bind fun r10 =>
 (al P 42 r10.2).bind fun r11 =>
 (st P 42 r11.1 r10.1 r11.2).bind fun r12 =>
 (ld P 42 r11.1 r12.2).bind fun r13 =>
 (ld P 42 (e 4) r13.2).bind fun r14 =>
 (bo P .eql 42 (.tmp 50) (.tmp 51) r13.1 r14.1 r14.2).bind fun r15 =>
 cnd r15.1 (
 (vl (.bool true) r15.2).bind fun r16 =>
 some (r16.1, r16.2)) (
 (fa P 42 r11.1 0 r15.2).bind fun r17 =>
 (ld P 3 r17.1 r17.2).bind fun r18 =>
 (bo P .gtr 3 (.tmp 54) (.const (.int .i64 0)) r18.1 (.int .i64 0) r18.2).bind fun r19 =>
 (vl r19.1 r19.2).bind fun r20 =>
 (gif r20.1 true (vl (e 9) r20.2) r20.2).bind fun r21 =>
 (gif r20.1 true (ld P 42 r11.1 r21.2) r21.2).bind fun r22 =>
 (gif r20.1 true (EV P 64 #[r21.1, r22.1] r22.2) r22.2).bind fun r23 =>
 (gif r20.1 true (uo P .not r23.1 r23.2) r23.2).bind fun r24 =>
 (pickV r20.1 r24.1 (.bool false) r24.2).bind fun r25 =>
 cnd r25.1 (
 (vl (e 9) r25.2).bind fun r26 =>
 (ld P 42 r11.1 r26.2).bind fun r27 =>
 (bs P 30 1 #[(0, r27.1)] r27.2).bind fun r28 =>
 (b_append P #[30, 30] 30 #[r26.1, r28.1] r28.2).bind fun r29 =>
 (vl r29.1 r29.2).bind fun r30 =>
 spec_l8Ahead_j1 (ups e [(38, r1.1), (39, r2.1), (40, r3.1), (41, r4.1), (42, r5.1), (45, r6.1), (46, r7.1), (47, r8.1), (48, r9.1), (49, r10.1), (14, r11.1), (50, r13.1), (51, r14.1), (52, r15.1), (53, r17.1), (54, r18.1), (55, r19.1), (56, r20.1), (57, r21.1), (58, r22.1), (59, r23.1), (60, r24.1), (61, r25.1), (62, r26.1), (63, r27.1), (64, r28.1), (65, r29.1), (9, r30.1)]) r30.2) (
 spec_l8Ahead_j1 (ups e [(38, r1.1), (39, r2.1), (40, r3.1), (41, r4.1), (42, r5.1), (45, r6.1), (46, r7.1), (47, r8.1), (48, r9.1), (49, r10.1), (14, r11.1), (50, r13.1), (51, r14.1), (52, r15.1), (53, r17.1), (54, r18.1), (55, r19.1), (56, r20.1), (57, r21.1), (58, r22.1), (59, r23.1), (60, r24.1), (61, r25.1)]) r25.2))) (
 (vl (e 10) r5.2).bind fun r31 =>
 (bo P .add 3 (.tmp 26) (.const (.int .i64 1)) r31.1 (.int .i64 1) r31.2).bind fun r32 =>
 (vl r32.1 r32.2).bind fun r33 =>
 spec_l8Ahead_l1 (ups e [(38, r1.1), (39, r2.1), (40, r3.1), (41, r4.1), (42, r5.1), (26, r31.1), (27, r32.1), (10, r33.1)]) r33.2) := (exC_loop P (EV P) 65 66 (cA (cA (cB (cB (cA (cA (cB (cA (cA (cB (cA (cB (cB (cB (bodyOf P 65))))))))))))))) e w (kBlock 2 (kBlock 1 (kSeq P (EV P) 65 66 (cB (cB (cA (cA (cB (cA (cB (cB (cB (bodyOf P 65)))))))))) (kLoop P (EV P) 65 66 (cA (cA (cB (cA (cB (cB (cB (bodyOf P 65)))))))) (kBlock 0 (kSeq P (EV P) 65 66 (cB (cB (cB (cB (bodyOf P 65))))) (kFn P (fnOf P 65))))))))).trans (by kernel_rfl)
theorem spec_l8Ahead_j1_eq (e : Env) (w : World) : spec_l8Ahead_j1 e w =
 (vl (e 13) w).bind fun r1 =>
 (bo P .add 3 (.tmp 43) (.const (.int .i64 1)) r1.1 (.int .i64 1) r1.2).bind fun r2 =>
 (vl r2.1 r2.2).bind fun r3 =>
 spec_l8Ahead_l2 (ups e [(43, r1.1), (44, r2.1), (13, r3.1)]) r3.2 := by kernel_rfl
theorem spec_l8Ahead_fn (x0 x1 x2 : Value) (w : World) : fnC P (EV P) 65 #[x0, x1, x2] w =
 (bx P 42 x1 w).bind fun r1 =>
 (bx P 42 x2 r1.2).bind fun r2 =>
 (vl (.bool false) r2.2).bind fun r3 =>
 (vl x0 r3.2).bind fun r4 =>
 (EV P 47 #[r4.1] r4.2).bind fun r5 =>
 (vl r5.1 r5.2).bind fun r6 =>
 (xt P r6.1 0 r6.2).bind fun r7 =>
 (xt P r6.1 1 r7.2).bind fun r8 =>
 (vl r7.1 r8.2).bind fun r9 =>
 (vl r8.1 r9.2).bind fun r10 =>
 (ld P 42 r2.1 r10.2).bind fun r11 =>
 (bs P 30 1 #[(0, r11.1)] r11.2).bind fun r12 =>
 (vl r12.1 r12.2).bind fun r13 =>
 (vl (.int .i64 0) r13.2).bind fun r14 =>
 spec_l8Ahead_l1 (ups (env0 #[x0, x1, x2]) [(4, r1.1), (5, r2.1), (6, r3.1), (16, r4.1), (17, r5.1), (15, r6.1), (18, r7.1), (19, r8.1), (7, r9.1), (8, r10.1), (20, r11.1), (21, r12.1), (9, r13.1), (10, r14.1)]) r14.2 := by kernel_rfl
theorem impl_book_before_fn (x0 x1 : Value) (w : World) : fnC P (EV P) 66 #[x0, x1] w =
 (bx P 70 x0 w).bind fun r1 =>
 (bx P 42 x1 r1.2).bind fun r2 =>
 (vl (Go.Value.map none) r2.2).bind fun r3 =>
 (mm P 90 none r3.2).bind fun r4 =>
 (al P 90 r4.2).bind fun r5 =>
 (st P 90 r5.1 r4.1 r5.2).bind fun r6 =>
 (al P 119 r6.2).bind fun r7 =>
 (vl (.func (Go.Fn.func 102) #[] #[r1.1, r5.1, r7.1]) r7.2).bind fun r8 =>
 (st P 119 r7.1 r8.1 r8.2).bind fun r9 =>
 (ld P 119 r7.1 r9.2).bind fun r10 =>
 (ld P 42 r2.1 r10.2).bind fun r11 =>
 (clo P r10.1 #[r11.1] r11.2).bind fun r12 =>
 (ld P 90 r5.1 r12.2).bind fun r13 =>
 (vl r13.1 r13.2).bind fun r14 =>
 some (r14.1, r14.2) := by kernel_rfl
end Go.Proofs.Ytcafhepclddcaaa.X
