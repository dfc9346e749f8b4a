/- A part of the proof: an evaluator of the model, its laws, and contracts of functions; no condition. -/
import Derived.Test.YtcafhepclddcaaaEvT
set_option linter.unusedVariables false
set_option maxRecDepth 100000
namespace Go.Proofs.Ytcafhepclddcaaa.X
open Go Go.Ev
noncomputable def impl_Past_join_l1 (e : Env) (w : World) : Option (Value × World) := exC P (EV P) 115 31 (.loop (cA (cA (cB (cA (cB (cB (bodyOf P 115)))))))) e w (kBlock 0 (kSeq P (EV P) 115 31 (cB (cB (cB (bodyOf P 115)))) (kFn P (fnOf P 115))))
theorem impl_Past_join_l1_eq (e : Env) (w : World) : impl_Past_join_l1 e w =
 (bo P .lss 3 (.tmp 13) (.tmp 12) (e 13) (e 12) w).bind fun r1 =>
 cnd r1.1 (
 (vl (e 13) r1.2).bind fun r2 =>
 (ia P 30 (e 11) (e 13) r2.2).bind fun r3 =>
 (ld P 42 r3.1 r3.2).bind fun r4 =>
 (al P 42 r4.2).bind fun r5 =>
 (vl r2.1 r5.2).bind fun r6 =>
 (st P 42 r5.1 r4.1 r6.2).bind fun r7 =>
 (fa P 32 (e 5) 0 (dw r7.2)).bind fun r9 =>
 ifP (r9.2 = (dw r7.2)) <|
 (ld P 30 r9.1 (dw r7.2)).bind fun r10 =>
 ifP (r10.2 = (dw r7.2)) <|
 (vl r6.1 (dw r7.2)).bind fun r11 =>
 ifP (r11.2 = (dw r7.2)) <|
 (fa P 32 (e 5) 0 (dw r7.2)).bind fun r12 =>
 ifP (r12.2 = (dw r7.2)) <|
 (ld P 30 r12.1 (dw r7.2)).bind fun r13 =>
 ifP (r13.2 = (dw r7.2)) <|
 (vl r6.1 (dw r7.2)).bind fun r14 =>
 ifP (r14.2 = (dw r7.2)) <|
 (ia P 30 r13.1 r14.1 (dw r7.2)).bind fun r15 =>
 ifP (r15.2 = (dw r7.2)) <|
 (ld P 42 r15.1 (dw r7.2)).bind fun r16 =>
 ifP (r16.2 = (dw r7.2)) <|
 (ld P 42 r5.1 (dw r7.2)).bind fun r17 =>
 ifP (r17.2 = (dw r7.2)) <|
 (EV P 130 #[r16.1, r17.1] (dw r7.2)).bind fun r18 =>
 ifP (True ∧ True ∧ True ∧ True ∧ True ∧ ld P 30 r9.1 r18.2 = some (r10.1, r18.2) ∧ fa P 32 (e 5) 0 r18.2 = some (r9.1, r18.2) ∧ True) <|
 (ia P 30 r10.1 r11.1 r18.2).bind fun r19 =>
 ifP (r19.2 = r18.2) <|
 (st P 42 r19.1 r18.1 r18.2).bind fun r20 =>
 ifP (True ∧ True ∧ True ∧ True ∧ True ∧ True ∧ True ∧ True ∧ True) <|
 (bo P .add 3 (.tmp 13) (.const (.int .i64 1)) (e 13) (.int .i64 1) r20.2).bind fun r21 =>
 (vl r21.1 r21.2).bind fun r22 =>
 impl_Past_join_l1 (ups e [(14, r1.1), (15, r2.1), (16, r3.1), (17, r4.1), (7, r5.1), (6, r6.1), (18, r9.1), (19, r10.1), (20, r11.1), (21, r12.1), (22, r13.1), (23, r14.1), (24, r15.1), (25, r16.1), (26, r17.1), (27, r18.1), (28, r19.1), (29, r21.1), (13, r22.1)]) r22.2) (
 (ld P 32 (e 5) r1.2).bind fun r23 =>
 (st P 32 (e 4) r23.1 r23.2).bind fun r24 =>
 ((ld P 32 (e 4) r24.2).bind fun r25 => ifP (r25.2 = r24.2) (some r25.1)).bind fun v26 =>
 some (v26, r24.2)) := (exC_loop P (EV P) 115 31 (cA (cA (cB (cA (cB (cB (bodyOf P 115))))))) e w (kBlock 0 (kSeq P (EV P) 115 31 (cB (cB (cB (bodyOf P 115)))) (kFn P (fnOf P 115))))).trans (by kernel_rfl)
theorem impl_Past_join_fn (x0 x1 : Value) (w : World) : fnC P (EV P) 115 #[x0, x1] w =
 (bx P 32 x0 w).bind fun r1 =>
 (bx P 32 x1 r1.2).bind fun r2 =>
 (al P 32 r2.2).bind fun r3 =>
 (ld P 32 r1.1 r3.2).bind fun r4 =>
 (EV P 57 #[r4.1] r4.2).bind fun r5 =>
 (al P 32 r5.2).bind fun r6 =>
 (st P 32 r6.1 r5.1 r6.2).bind fun r7 =>
 (fa P 32 r2.1 0 r7.2).bind fun r8 =>
 (ld P 30 r8.1 r8.2).bind fun r9 =>
 (b_len P #[30] 3 #[r9.1] r9.2).bind fun r10 =>
 (vl (.int .i64 0) r10.2).bind fun r11 =>
 impl_Past_join_l1 (ups (env0 #[x0, x1]) [(2, r1.1), (3, r2.1), (4, r3.1), (8, r4.1), (9, r5.1), (5, r6.1), (10, r8.1), (11, r9.1), (12, r10.1), (13, r11.1)]) r11.2 := by kernel_rfl
theorem impl_Past_with_fn (x0 x1 x2 : Value) (w : World) : fnC P (EV P) 116 #[x0, x1, x2] w =
 (bx P 32 x0 w).bind fun r1 =>
 (bx P 42 x2 r1.2).bind fun r2 =>
 (al P 32 r2.2).bind fun r3 =>
 (ld P 32 r1.1 r3.2).bind fun r4 =>
 (EV P 57 #[r4.1] r4.2).bind fun r5 =>
 (al P 32 r5.2).bind fun r6 =>
 (st P 32 r6.1 r5.1 r6.2).bind fun r7 =>
 (fa P 32 r6.1 0 (dw r7.2)).bind fun r9 =>
 ifP (r9.2 = (dw r7.2)) <|
 (ld P 30 r9.1 (dw r7.2)).bind fun r10 =>
 ifP (r10.2 = (dw r7.2)) <|
 (vl x1 (dw r7.2)).bind fun r11 =>
 ifP (r11.2 = (dw r7.2)) <|
 (fa P 32 r6.1 0 (dw r7.2)).bind fun r12 =>
 ifP (r12.2 = (dw r7.2)) <|
 (ld P 30 r12.1 (dw r7.2)).bind fun r13 =>
 ifP (r13.2 = (dw r7.2)) <|
 (vl x1 (dw r7.2)).bind fun r14 =>
 ifP (r14.2 = (dw r7.2)) <|
 (ia P 30 r13.1 r14.1 (dw r7.2)).bind fun r15 =>
 ifP (r15.2 = (dw r7.2)) <|
 (ld P 42 r15.1 (dw r7.2)).bind fun r16 =>
 ifP (r16.2 = (dw r7.2)) <|
 (ld P 42 r2.1 (dw r7.2)).bind fun r17 =>
 ifP (r17.2 = (dw r7.2)) <|
 (EV P 130 #[r16.1, r17.1] (dw r7.2)).bind fun r18 =>
 ifP (True ∧ True ∧ True ∧ True ∧ True ∧ ld P 30 r9.1 r18.2 = some (r10.1, r18.2) ∧ fa P 32 r6.1 0 r18.2 = some (r9.1, r18.2) ∧ True) <|
 (ia P 30 r10.1 r11.1 r18.2).bind fun r19 =>
 ifP (r19.2 = r18.2) <|
 (st P 42 r19.1 r18.1 r18.2).bind fun r20 =>
 ifP (True ∧ True ∧ True ∧ True ∧ True ∧ True ∧ True ∧ True ∧ True) <|
 (ld P 32 r6.1 r20.2).bind fun r21 =>
 (st P 32 r3.1 r21.1 r21.2).bind fun r22 =>
 ((ld P 32 r3.1 r22.2).bind fun r23 => ifP (r23.2 = r22.2) (some r23.1)).bind fun v24 =>
 some (v24, r22.2) := by kernel_rfl
end Go.Proofs.Ytcafhepclddcaaa.X
