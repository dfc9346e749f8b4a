/- A part of the proof: an evaluator of the model, its laws, and contracts of functions; no condition. -/
import Derived.Test.YthicfemhpnnaaaaEvT
set_option linter.unusedVariables false
set_option maxRecDepth 100000
namespace Go.Proofs.Ythicfemhpnnaaaa.X
open Go Go.Ev
noncomputable def laws_eqTagS_l1 (e : Env) (w : World) : Option (Value × World) := exC P (EV P) 86 27 (.loop (cA (cA (cB (cA (cB (cB (bodyOf P 86)))))))) e w (kBlock 0 (kSeq P (EV P) 86 27 (cB (cB (cB (bodyOf P 86)))) (kFn P (fnOf P 86))))
theorem laws_eqTagS_l1_eq (e : Env) (w : World) : laws_eqTagS_l1 e w =
 (vl (e 5) w).bind fun r1 =>
 (vl (e 0) r1.2).bind fun r2 =>
 (b_len P #[33] 3 #[r2.1] r2.2).bind fun r3 =>
 (bo P .lss 3 (.tmp 11) (.tmp 13) r1.1 r3.1 r3.2).bind fun r4 =>
 cnd r4.1 (
 (vl (e 0) (dw r4.2)).bind fun r6 =>
 ifP (r6.2 = (dw r4.2)) <|
 (vl (e 5) (dw r4.2)).bind fun r7 =>
 ifP (r7.2 = (dw r4.2)) <|
 (ia P 33 r6.1 r7.1 (dw r4.2)).bind fun r8 =>
 ifP (r8.2 = (dw r4.2)) <|
 (ld P 46 r8.1 (dw r4.2)).bind fun r9 =>
 ifP (r9.2 = (dw r4.2)) <|
 (vl (e 1) (dw r4.2)).bind fun r10 =>
 ifP (r10.2 = (dw r4.2)) <|
 (vl (e 5) (dw r4.2)).bind fun r11 =>
 ifP (r11.2 = (dw r4.2)) <|
 (ia P 33 r10.1 r11.1 (dw r4.2)).bind fun r12 =>
 ifP (r12.2 = (dw r4.2)) <|
 (ld P 46 r12.1 (dw r4.2)).bind fun r13 =>
 ifP (r13.2 = (dw r4.2)) <|
 (EV P 91 #[r9.1, r13.1] (dw r4.2)).bind fun r14 =>
 ifP (True ∧ True ∧ True ∧ True ∧ True) <|
 (uo P .not r14.1 r14.2).bind fun r15 =>
 ifP (r15.2 = r14.2) <|
 cnd r15.1 (
 (vl (.bool false) r14.2).bind fun r16 =>
 some (r16.1, r16.2)) (
 (vl (e 5) r14.2).bind fun r17 =>
 (bo P .add 3 (.tmp 15) (.const (.int .i64 1)) r17.1 (.int .i64 1) r17.2).bind fun r18 =>
 (vl r18.1 r18.2).bind fun r19 =>
 laws_eqTagS_l1 (ups e [(11, r1.1), (12, r2.1), (13, r3.1), (14, r4.1), (17, r6.1), (18, r7.1), (19, r8.1), (20, r9.1), (21, r10.1), (22, r11.1), (23, r12.1), (24, r13.1), (25, r14.1), (26, r15.1), (15, r17.1), (16, r18.1), (5, r19.1)]) r19.2)) (
 (vl (.bool true) r4.2).bind fun r20 =>
 some (r20.1, r20.2)) := (exC_loop P (EV P) 86 27 (cA (cA (cB (cA (cB (cB (bodyOf P 86))))))) e w (kBlock 0 (kSeq P (EV P) 86 27 (cB (cB (cB (bodyOf P 86)))) (kFn P (fnOf P 86))))).trans (by kernel_rfl)
theorem laws_eqTagS_fn (x0 x1 : Value) (w : World) : fnC P (EV P) 86 #[x0, x1] w =
 (vl (.bool false) w).bind fun r1 =>
 (vl x0 r1.2).bind fun r2 =>
 (b_len P #[33] 3 #[r2.1] r2.2).bind fun r3 =>
 (vl x1 r3.2).bind fun r4 =>
 (b_len P #[33] 3 #[r4.1] r4.2).bind fun r5 =>
 (bo P .neq 3 (.tmp 7) (.tmp 9) r3.1 r5.1 r5.2).bind fun r6 =>
 cnd r6.1 (
 (vl (.bool false) r6.2).bind fun r7 =>
 some (r7.1, r7.2)) (
 (vl (.int .i64 0) r6.2).bind fun r8 =>
 laws_eqTagS_l1 (ups (env0 #[x0, x1]) [(4, r1.1), (6, r2.1), (7, r3.1), (8, r4.1), (9, r5.1), (10, r6.1), (5, r8.1)]) r8.2) := by kernel_rfl
noncomputable def laws_markTagS_l1 (e : Env) (w : World) : Option (Value × World) := exC P (EV P) 87 27 (.loop (cA (cA (cB (cA (cB (bodyOf P 87))))))) e w (kBlock 0 (kSeq P (EV P) 87 27 (cB (cB (bodyOf P 87))) (kFn P (fnOf P 87))))
theorem laws_markTagS_l1_eq (e : Env) (w : World) : laws_markTagS_l1 e w =
 (vl (e 5) w).bind fun r1 =>
 (vl (e 0) r1.2).bind fun r2 =>
 (b_len P #[33] 3 #[r2.1] r2.2).bind fun r3 =>
 (bo P .lss 3 (.tmp 6) (.tmp 8) r1.1 r3.1 r3.2).bind fun r4 =>
 cnd r4.1 (
 (vl (e 0) r4.2).bind fun r5 =>
 (vl (e 5) r5.2).bind fun r6 =>
 (vl (e 1) r6.2).bind fun r7 =>
 (ia P 33 r5.1 r6.1 r7.2).bind fun r8 =>
 (fa P 46 r8.1 0 r8.2).bind fun r9 =>
 (st P 3 r9.1 r7.1 r9.2).bind fun r10 =>
 (vl (e 1) r10.2).bind fun r11 =>
 (bo P .add 3 (.tmp 17) (.const (.int .i64 1)) r11.1 (.int .i64 1) r11.2).bind fun r12 =>
 (vl r12.1 r12.2).bind fun r13 =>
 (vl (e 0) r13.2).bind fun r14 =>
 (vl (e 5) r14.2).bind fun r15 =>
 (vl r13.1 r15.2).bind fun r16 =>
 (ia P 33 r14.1 r15.1 r16.2).bind fun r17 =>
 (fa P 46 r17.1 1 r17.2).bind fun r18 =>
 (st P 3 r18.1 r16.1 r18.2).bind fun r19 =>
 (vl r13.1 r19.2).bind fun r20 =>
 (bo P .add 3 (.tmp 24) (.const (.int .i64 1)) r20.1 (.int .i64 1) r20.2).bind fun r21 =>
 (vl r21.1 r21.2).bind fun r22 =>
 (vl (e 5) r22.2).bind fun r23 =>
 (bo P .add 3 (.tmp 10) (.const (.int .i64 1)) r23.1 (.int .i64 1) r23.2).bind fun r24 =>
 (vl r24.1 r24.2).bind fun r25 =>
 laws_markTagS_l1 (ups e [(6, r1.1), (7, r2.1), (8, r3.1), (9, r4.1), (12, r5.1), (13, r6.1), (14, r7.1), (15, r8.1), (16, r9.1), (17, r11.1), (18, r12.1), (1, r13.1), (19, r14.1), (20, r15.1), (21, r16.1), (22, r17.1), (23, r18.1), (24, r20.1), (25, r21.1), (1, r22.1), (10, r23.1), (11, r24.1), (5, r25.1)]) r25.2) (
 (vl (e 1) r4.2).bind fun r26 =>
 (vl r26.1 r26.2).bind fun r27 =>
 some (r27.1, r27.2)) := (exC_loop P (EV P) 87 27 (cA (cA (cB (cA (cB (bodyOf P 87)))))) e w (kBlock 0 (kSeq P (EV P) 87 27 (cB (cB (bodyOf P 87))) (kFn P (fnOf P 87))))).trans (by kernel_rfl)
theorem laws_markTagS_fn (x0 x1 : Value) (w : World) : fnC P (EV P) 87 #[x0, x1] w =
 (vl (.int .i64 0) w).bind fun r1 =>
 (vl (.int .i64 0) r1.2).bind fun r2 =>
 laws_markTagS_l1 (ups (env0 #[x0, x1]) [(4, r1.1), (5, r2.1)]) r2.2 := by kernel_rfl
noncomputable def laws_heldTagS_l1 (e : Env) (w : World) : Option (Value × World) := exC P (EV P) 88 31 (.loop (cA (cA (cB (cA (cB (bodyOf P 88))))))) e w (kBlock 0 (kSeq P (EV P) 88 31 (cB (cB (bodyOf P 88))) (kFn P (fnOf P 88))))
theorem laws_heldTagS_l1_eq (e : Env) (w : World) : laws_heldTagS_l1 e w =
 (vl (e 5) w).bind fun r1 =>
 (vl (e 0) r1.2).bind fun r2 =>
 (b_len P #[33] 3 #[r2.1] r2.2).bind fun r3 =>
 (bo P .lss 3 (.tmp 6) (.tmp 8) r1.1 r3.1 r3.2).bind fun r4 =>
 cnd r4.1 (
 (vl (e 0) r4.2).bind fun r5 =>
 (vl (e 5) r5.2).bind fun r6 =>
 (ia P 33 r5.1 r6.1 r6.2).bind fun r7 =>
 (fa P 46 r7.1 0 r7.2).bind fun r8 =>
 (ld P 3 r8.1 r8.2).bind fun r9 =>
 (vl (e 1) r9.2).bind fun r10 =>
 (bo P .neq 3 (.tmp 16) (.tmp 17) r9.1 r10.1 r10.2).bind fun r11 =>
 cnd r11.1 (
 (vl (.int .i64 (-1)) r11.2).bind fun r12 =>
 some (r12.1, r12.2)) (
 (vl (e 1) r11.2).bind fun r13 =>
 (bo P .add 3 (.tmp 19) (.const (.int .i64 1)) r13.1 (.int .i64 1) r13.2).bind fun r14 =>
 (vl r14.1 r14.2).bind fun r15 =>
 (vl (e 0) r15.2).bind fun r16 =>
 (vl (e 5) r16.2).bind fun r17 =>
 (ia P 33 r16.1 r17.1 r17.2).bind fun r18 =>
 (fa P 46 r18.1 1 r18.2).bind fun r19 =>
 (ld P 3 r19.1 r19.2).bind fun r20 =>
 (vl r15.1 r20.2).bind fun r21 =>
 (bo P .neq 3 (.tmp 25) (.tmp 26) r20.1 r21.1 r21.2).bind fun r22 =>
 cnd r22.1 (
 (vl (.int .i64 (-1)) r22.2).bind fun r23 =>
 some (r23.1, r23.2)) (
 (vl r15.1 r22.2).bind fun r24 =>
 (bo P .add 3 (.tmp 28) (.const (.int .i64 1)) r24.1 (.int .i64 1) r24.2).bind fun r25 =>
 (vl r25.1 r25.2).bind fun r26 =>
 (vl (e 5) r26.2).bind fun r27 =>
 (bo P .add 3 (.tmp 10) (.const (.int .i64 1)) r27.1 (.int .i64 1) r27.2).bind fun r28 =>
 (vl r28.1 r28.2).bind fun r29 =>
 laws_heldTagS_l1 (ups e [(6, r1.1), (7, r2.1), (8, r3.1), (9, r4.1), (12, r5.1), (13, r6.1), (14, r7.1), (15, r8.1), (16, r9.1), (17, r10.1), (18, r11.1), (19, r13.1), (20, r14.1), (1, r15.1), (21, r16.1), (22, r17.1), (23, r18.1), (24, r19.1), (25, r20.1), (26, r21.1), (27, r22.1), (28, r24.1), (29, r25.1), (1, r26.1), (10, r27.1), (11, r28.1), (5, r29.1)]) r29.2))) (
 (vl (e 1) r4.2).bind fun r30 =>
 (vl r30.1 r30.2).bind fun r31 =>
 some (r31.1, r31.2)) := (exC_loop P (EV P) 88 31 (cA (cA (cB (cA (cB (bodyOf P 88)))))) e w (kBlock 0 (kSeq P (EV P) 88 31 (cB (cB (bodyOf P 88))) (kFn P (fnOf P 88))))).trans (by kernel_rfl)
theorem laws_heldTagS_fn (x0 x1 : Value) (w : World) : fnC P (EV P) 88 #[x0, x1] w =
 (vl (.int .i64 0) w).bind fun r1 =>
 (vl (.int .i64 0) r1.2).bind fun r2 =>
 laws_heldTagS_l1 (ups (env0 #[x0, x1]) [(4, r1.1), (5, r2.1)]) r2.2 := by kernel_rfl
theorem laws_eqTag_fn (x0 x1 : Value) (w : World) : fnC P (EV P) 91 #[x0, x1] w =
 (bx P 46 x0 w).bind fun r1 =>
 (bx P 46 x1 r1.2).bind fun r2 =>
 (vl (.bool false) r2.2).bind fun r3 =>
 (fa P 46 r1.1 0 r3.2).bind fun r4 =>
 (ld P 3 r4.1 r4.2).bind fun r5 =>
 (fa P 46 r2.1 0 r5.2).bind fun r6 =>
 (ld P 3 r6.1 r6.2).bind fun r7 =>
 (bo P .neq 3 (.tmp 6) (.tmp 8) r5.1 r7.1 r7.2).bind fun r8 =>
 cnd r8.1 (
 (vl (.bool false) r8.2).bind fun r9 =>
 some (r9.1, r9.2)) (
 (fa P 46 r1.1 1 r8.2).bind fun r10 =>
 (ld P 3 r10.1 r10.2).bind fun r11 =>
 (fa P 46 r2.1 1 r11.2).bind fun r12 =>
 (ld P 3 r12.1 r12.2).bind fun r13 =>
 (bo P .neq 3 (.tmp 11) (.tmp 13) r11.1 r13.1 r13.2).bind fun r14 =>
 cnd r14.1 (
 (vl (.bool false) r14.2).bind fun r15 =>
 some (r15.1, r15.2)) (
 (vl (.bool true) r14.2).bind fun r16 =>
 some (r16.1, r16.2))) := by kernel_rfl
theorem spec_l3Join_fn (x0 : Value) (w : World) : fnC P (EV P) 92 #[x0] w =
 (bx P 24 x0 w).bind fun r1 =>
 (al P 24 r1.2).bind fun r2 =>
 (fa P 24 r1.1 0 r2.2).bind fun r3 =>
 (ld P 22 r3.1 r3.2).bind fun r4 =>
 (b_len P #[22] 3 #[r4.1] r4.2).bind fun r5 =>
 (vl r5.1 r5.2).bind fun r6 =>
 (fa P 24 r1.1 0 (dw r6.2)).bind fun r8 =>
 ifP (r8.2 = (dw r6.2)) <|
 (ld P 22 r8.1 (dw r6.2)).bind fun r9 =>
 ifP (r9.2 = (dw r6.2)) <|
 (fa P 24 r1.1 0 (dw r6.2)).bind fun r10 =>
 ifP (r10.2 = (dw r6.2)) <|
 (ld P 22 r10.1 (dw r6.2)).bind fun r11 =>
 ifP (r11.2 = (dw r6.2)) <|
 (vl r6.1 (dw r6.2)).bind fun r12 =>
 ifP (r12.2 = (dw r6.2)) <|
 (bo P .sub 3 (.tmp 11) (.const (.int .i64 1)) r12.1 (.int .i64 1) (dw r6.2)).bind fun r13 =>
 ifP (r13.2 = (dw r6.2)) <|
 (ia P 22 r11.1 r13.1 (dw r6.2)).bind fun r14 =>
 ifP (r14.2 = (dw r6.2)) <|
 (fa P 59 r14.1 0 (dw r6.2)).bind fun r15 =>
 ifP (r15.2 = (dw r6.2)) <|
 (ld P 57 r15.1 (dw r6.2)).bind fun r16 =>
 ifP (r16.2 = (dw r6.2)) <|
 (EV P 117 #[r16.1] (dw r6.2)).bind fun r17 =>
 ifP (True ∧ True ∧ True ∧ True ∧ True ∧ True ∧ ld P 22 r8.1 r17.2 = some (r9.1, r17.2) ∧ fa P 24 r1.1 0 r17.2 = some (r8.1, r17.2) ∧ True) <|
 (bd P 59 #[(0, r17.1)] r17.2).bind fun r18 =>
 ifP (r18.2 = r17.2) <|
 (bs P 22 1 #[(0, r18.1)] r17.2).bind fun r19 =>
 ifP (True ∧ True ∧ True ∧ True ∧ True ∧ True ∧ True ∧ ld P 22 r8.1 r19.2 = some (r9.1, r19.2) ∧ fa P 24 r1.1 0 r19.2 = some (r8.1, r19.2) ∧ True) <|
 (b_append P #[22, 22] 22 #[r9.1, r19.1] r19.2).bind fun r20 =>
 ifP (True ∧ True ∧ True ∧ True ∧ True ∧ True ∧ True ∧ True ∧ True ∧ True) <|
 (fa P 24 r1.1 0 r20.2).bind fun r21 =>
 ifP (r21.2 = r20.2) <|
 (st P 22 r21.1 r20.1 r20.2).bind fun r22 =>
 ifP (True ∧ True ∧ True ∧ True ∧ True ∧ True ∧ True ∧ True ∧ True ∧ True ∧ True) <|
 (ld P 24 r1.1 r22.2).bind fun r23 =>
 (st P 24 r2.1 r23.1 r23.2).bind fun r24 =>
 ((ld P 24 r2.1 r24.2).bind fun r25 => ifP (r25.2 = r24.2) (some r25.1)).bind fun v26 =>
 some (v26, r24.2) := by kernel_rfl
theorem impl_Chain_join_fn (x0 : Value) (w : World) : fnC P (EV P) 93 #[x0] w =
 (vl (.bool false) w).bind fun r1 =>
 (vl x0 r1.2).bind fun r2 =>
 (nk P r2.1 r2.2).bind fun r3 =>
 (fa P 24 r3.1 0 r3.2).bind fun r4 =>
 (ld P 22 r4.1 r4.2).bind fun r5 =>
 (b_len P #[22] 3 #[r5.1] r5.2).bind fun r6 =>
 (bo P .geq 3 (.tmp 7) (.const (.int .i64 4)) r6.1 (.int .i64 4) r6.2).bind fun r7 =>
 cnd r7.1 (
 (vl (.bool false) r7.2).bind fun r8 =>
 some (r8.1, r8.2)) (
 (vl x0 (dw r7.2)).bind fun r10 =>
 ifP (r10.2 = (dw r7.2)) <|
 (vl x0 (dw r7.2)).bind fun r11 =>
 ifP (r11.2 = (dw r7.2)) <|
 (nk P r11.1 (dw r7.2)).bind fun r12 =>
 ifP (r12.2 = (dw r7.2)) <|
 (fa P 24 r12.1 0 (dw r7.2)).bind fun r13 =>
 ifP (r13.2 = (dw r7.2)) <|
 (ld P 22 r13.1 (dw r7.2)).bind fun r14 =>
 ifP (r14.2 = (dw r7.2)) <|
 (vl x0 (dw r7.2)).bind fun r15 =>
 ifP (r15.2 = (dw r7.2)) <|
 (EV P 60 #[r15.1] (dw r7.2)).bind fun r16 =>
 ifP (ld P 22 r13.1 r16.2 = some (r14.1, r16.2) ∧ fa P 24 r12.1 0 r16.2 = some (r13.1, r16.2) ∧ nk P r11.1 r16.2 = some (r12.1, r16.2) ∧ True) <|
 (EV P 78 #[r16.1] r16.2).bind fun r17 =>
 ifP (ld P 22 r13.1 r17.2 = some (r14.1, r17.2) ∧ fa P 24 r12.1 0 r17.2 = some (r13.1, r17.2) ∧ nk P r11.1 r17.2 = some (r12.1, r17.2) ∧ True) <|
 (bd P 59 #[(0, r17.1)] r17.2).bind fun r18 =>
 ifP (r18.2 = r17.2) <|
 (bs P 22 1 #[(0, r18.1)] r17.2).bind fun r19 =>
 ifP (True ∧ ld P 22 r13.1 r19.2 = some (r14.1, r19.2) ∧ fa P 24 r12.1 0 r19.2 = some (r13.1, r19.2) ∧ nk P r11.1 r19.2 = some (r12.1, r19.2) ∧ True) <|
 (b_append P #[22, 22] 22 #[r14.1, r19.1] r19.2).bind fun r20 =>
 ifP (True ∧ True ∧ True ∧ True ∧ True) <|
 (EV P 131 #[r20.1] r20.2).bind fun r21 =>
 ifP (True ∧ True ∧ True ∧ True ∧ True) <|
 (nk P r10.1 r21.2).bind fun r22 =>
 ifP (r22.2 = r21.2) <|
 (fa P 24 r22.1 0 r21.2).bind fun r23 =>
 ifP (r23.2 = r21.2) <|
 (st P 22 r23.1 r21.1 r21.2).bind fun r24 =>
 ifP (True ∧ True ∧ True ∧ True ∧ True ∧ True ∧ True) <|
 (vl (.bool true) r24.2).bind fun r25 =>
 some (r25.1, r25.2)) := by kernel_rfl
theorem impl_within_fn (x0 x1 x2 : Value) (w : World) : fnC P (EV P) 94 #[x0, x1, x2] w =
 (vl (.bool false) w).bind fun r1 =>
 (vl x0 r1.2).bind fun r2 =>
 (vl x1 r2.2).bind fun r3 =>
 (bo P .geq 3 (.tmp 7) (.tmp 8) r2.1 r3.1 r3.2).bind fun r4 =>
 (vl r4.1 r4.2).bind fun r5 =>
 (gif r5.1 true (vl x0 r5.2) r5.2).bind fun r6 =>
 (gif r5.1 true (vl x2 r6.2) r6.2).bind fun r7 =>
 (gif r5.1 true (bo P .leq 3 (.tmp 11) (.tmp 12) r6.1 r7.1 r7.2) r7.2).bind fun r8 =>
 (pickV r5.1 r8.1 (.bool false) r8.2).bind fun r9 =>
 (vl r9.1 r9.2).bind fun r10 =>
 some (r10.1, r10.2) := by kernel_rfl
theorem laws_eqNode_fn (x0 x1 : Value) (w : World) : fnC P (EV P) 95 #[x0, x1] w =
 (bx P 59 x0 w).bind fun r1 =>
 (bx P 59 x1 r1.2).bind fun r2 =>
 (vl (.bool false) r2.2).bind fun r3 =>
 (fa P 59 r1.1 0 r3.2).bind fun r4 =>
 (ld P 57 r4.1 r4.2).bind fun r5 =>
 (fa P 59 r2.1 0 r5.2).bind fun r6 =>
 (ld P 57 r6.1 r6.2).bind fun r7 =>
 (EV P 132 #[r5.1, r7.1] r7.2).bind fun r8 =>
 (uo P .not r8.1 r8.2).bind fun r9 =>
 cnd r9.1 (
 (vl (.bool false) r9.2).bind fun r10 =>
 some (r10.1, r10.2)) (
 (fa P 59 r1.1 1 r9.2).bind fun r11 =>
 (ld P 55 r11.1 r11.2).bind fun r12 =>
 (fa P 59 r2.1 1 r12.2).bind fun r13 =>
 (ld P 55 r13.1 r13.2).bind fun r14 =>
 (EV P 133 #[r12.1, r14.1] r14.2).bind fun r15 =>
 (uo P .not r15.1 r15.2).bind fun r16 =>
 cnd r16.1 (
 (vl (.bool false) r16.2).bind fun r17 =>
 some (r17.1, r17.2)) (
 (vl (.bool true) r16.2).bind fun r18 =>
 some (r18.1, r18.2))) := by kernel_rfl
noncomputable def laws_markVerS_l1 (e : Env) (w : World) : Option (Value × World) := exC P (EV P) 96 61 (.loop (cA (cA (cB (cA (cB (bodyOf P 96))))))) e w (kBlock 0 (kSeq P (EV P) 96 61 (cB (cB (bodyOf P 96))) (kFn P (fnOf P 96))))
theorem laws_markVerS_l1_eq (e : Env) (w : World) : laws_markVerS_l1 e w =
 (vl (e 5) w).bind fun r1 =>
 (vl (e 0) r1.2).bind fun r2 =>
 (b_len P #[55] 3 #[r2.1] r2.2).bind fun r3 =>
 (bo P .lss 3 (.tmp 6) (.tmp 8) r1.1 r3.1 r3.2).bind fun r4 =>
 cnd r4.1 (
 (vl (e 0) r4.2).bind fun r5 =>
 (vl (e 5) r5.2).bind fun r6 =>
 (vl (e 1) r6.2).bind fun r7 =>
 (ia P 55 r5.1 r6.1 r7.2).bind fun r8 =>
 (fa P 48 r8.1 0 r8.2).bind fun r9 =>
 (st P 3 r9.1 r7.1 r9.2).bind fun r10 =>
 (vl (e 1) r10.2).bind fun r11 =>
 (bo P .add 3 (.tmp 17) (.const (.int .i64 1)) r11.1 (.int .i64 1) r11.2).bind fun r12 =>
 (vl r12.1 r12.2).bind fun r13 =>
 (vl (e 0) r13.2).bind fun r14 =>
 (vl (e 5) r14.2).bind fun r15 =>
 (vl r13.1 r15.2).bind fun r16 =>
 (ia P 55 r14.1 r15.1 r16.2).bind fun r17 =>
 (fa P 48 r17.1 1 r17.2).bind fun r18 =>
 (fa P 46 r18.1 0 r18.2).bind fun r19 =>
 (st P 3 r19.1 r16.1 r19.2).bind fun r20 =>
 (vl r13.1 r20.2).bind fun r21 =>
 (bo P .add 3 (.tmp 25) (.const (.int .i64 1)) r21.1 (.int .i64 1) r21.2).bind fun r22 =>
 (vl r22.1 r22.2).bind fun r23 =>
 (vl (e 0) r23.2).bind fun r24 =>
 (vl (e 5) r24.2).bind fun r25 =>
 (vl r23.1 r25.2).bind fun r26 =>
 (ia P 55 r24.1 r25.1 r26.2).bind fun r27 =>
 (fa P 48 r27.1 1 r27.2).bind fun r28 =>
 (fa P 46 r28.1 1 r28.2).bind fun r29 =>
 (st P 3 r29.1 r26.1 r29.2).bind fun r30 =>
 (vl r23.1 r30.2).bind fun r31 =>
 (bo P .add 3 (.tmp 33) (.const (.int .i64 1)) r31.1 (.int .i64 1) r31.2).bind fun r32 =>
 (vl r32.1 r32.2).bind fun r33 =>
 (vl (e 0) r33.2).bind fun r34 =>
 (vl (e 5) r34.2).bind fun r35 =>
 (ia P 55 r34.1 r35.1 r35.2).bind fun r36 =>
 (fa P 48 r36.1 2 r36.2).bind fun r37 =>
 (fa P 35 r37.1 0 r37.2).bind fun r38 =>
 (ld P 33 r38.1 r38.2).bind fun r39 =>
 (vl r33.1 r39.2).bind fun r40 =>
 (EV P 87 #[r39.1, r40.1] r40.2).bind fun r41 =>
 (vl r41.1 r41.2).bind fun r42 =>
 (vl (e 0) r42.2).bind fun r43 =>
 (vl (e 5) r43.2).bind fun r44 =>
 (vl r42.1 r44.2).bind fun r45 =>
 (EV P 134 #[r45.1] r45.2).bind fun r46 =>
 (ia P 55 r43.1 r44.1 r46.2).bind fun r47 =>
 (fa P 48 r47.1 3 r47.2).bind fun r48 =>
 (st P 9 r48.1 r46.1 r48.2).bind fun r49 =>
 (vl r42.1 r49.2).bind fun r50 =>
 (bo P .add 3 (.tmp 49) (.const (.int .i64 1)) r50.1 (.int .i64 1) r50.2).bind fun r51 =>
 (vl r51.1 r51.2).bind fun r52 =>
 (vl (e 0) r52.2).bind fun r53 =>
 (vl (e 5) r53.2).bind fun r54 =>
 (vl r52.1 r54.2).bind fun r55 =>
 (bo P .rem 3 (.tmp 53) (.const (.int .i64 3)) r55.1 (.int .i64 3) r55.2).bind fun r56 =>
 (bo P .eql 3 (.tmp 54) (.const (.int .i64 0)) r56.1 (.int .i64 0) r56.2).bind fun r57 =>
 (ia P 55 r53.1 r54.1 r57.2).bind fun r58 =>
 (fa P 48 r58.1 4 r58.2).bind fun r59 =>
 (st P 4 r59.1 r57.1 r59.2).bind fun r60 =>
 (vl r52.1 r60.2).bind fun r61 =>
 (bo P .add 3 (.tmp 58) (.const (.int .i64 1)) r61.1 (.int .i64 1) r61.2).bind fun r62 =>
 (vl r62.1 r62.2).bind fun r63 =>
 (vl (e 5) r63.2).bind fun r64 =>
 (bo P .add 3 (.tmp 10) (.const (.int .i64 1)) r64.1 (.int .i64 1) r64.2).bind fun r65 =>
 (vl r65.1 r65.2).bind fun r66 =>
 laws_markVerS_l1 (ups e [(6, r1.1), (7, r2.1), (8, r3.1), (9, r4.1), (12, r5.1), (13, r6.1), (14, r7.1), (15, r8.1), (16, r9.1), (17, r11.1), (18, r12.1), (1, r13.1), (19, r14.1), (20, r15.1), (21, r16.1), (22, r17.1), (23, r18.1), (24, r19.1), (25, r21.1), (26, r22.1), (1, r23.1), (27, r24.1), (28, r25.1), (29, r26.1), (30, r27.1), (31, r28.1), (32, r29.1), (33, r31.1), (34, r32.1), (1, r33.1), (35, r34.1), (36, r35.1), (37, r36.1), (38, r37.1), (39, r38.1), (40, r39.1), (41, r40.1), (42, r41.1), (1, r42.1), (43, r43.1), (44, r44.1), (45, r45.1), (46, r46.1), (47, r47.1), (48, r48.1), (49, r50.1), (50, r51.1), (1, r52.1), (51, r53.1), (52, r54.1), (53, r55.1), (54, r56.1), (55, r57.1), (56, r58.1), (57, r59.1), (58, r61.1), (59, r62.1), (1, r63.1), (10, r64.1), (11, r65.1), (5, r66.1)]) r66.2) (
 (vl (e 1) r4.2).bind fun r67 =>
 (vl r67.1 r67.2).bind fun r68 =>
 some (r68.1, r68.2)) := (exC_loop P (EV P) 96 61 (cA (cA (cB (cA (cB (bodyOf P 96)))))) e w (kBlock 0 (kSeq P (EV P) 96 61 (cB (cB (bodyOf P 96))) (kFn P (fnOf P 96))))).trans (by kernel_rfl)
theorem laws_markVerS_fn (x0 x1 : Value) (w : World) : fnC P (EV P) 96 #[x0, x1] w =
 (vl (.int .i64 0) w).bind fun r1 =>
 (vl (.int .i64 0) r1.2).bind fun r2 =>
 laws_markVerS_l1 (ups (env0 #[x0, x1]) [(4, r1.1), (5, r2.1)]) r2.2 := by kernel_rfl
noncomputable def laws_heldVerS_l1 (e : Env) (w : World) : Option (Value × World) := exC P (EV P) 97 73 (.loop (cA (cA (cB (cA (cB (bodyOf P 97))))))) e w (kBlock 0 (kSeq P (EV P) 97 73 (cB (cB (bodyOf P 97))) (kFn P (fnOf P 97))))
theorem laws_heldVerS_l1_eq (e : Env) (w : World) : laws_heldVerS_l1 e w =
 (vl (e 5) w).bind fun r1 =>
 (vl (e 0) r1.2).bind fun r2 =>
 (b_len P #[55] 3 #[r2.1] r2.2).bind fun r3 =>
 (bo P .lss 3 (.tmp 6) (.tmp 8) r1.1 r3.1 r3.2).bind fun r4 =>
 cnd r4.1 (
 (vl (e 0) r4.2).bind fun r5 =>
 (vl (e 5) r5.2).bind fun r6 =>
 (ia P 55 r5.1 r6.1 r6.2).bind fun r7 =>
 (fa P 48 r7.1 0 r7.2).bind fun r8 =>
 (ld P 3 r8.1 r8.2).bind fun r9 =>
 (vl (e 1) r9.2).bind fun r10 =>
 (bo P .neq 3 (.tmp 16) (.tmp 17) r9.1 r10.1 r10.2).bind fun r11 =>
 cnd r11.1 (
 (vl (.int .i64 (-1)) r11.2).bind fun r12 =>
 some (r12.1, r12.2)) (
 (vl (e 1) r11.2).bind fun r13 =>
 (bo P .add 3 (.tmp 19) (.const (.int .i64 1)) r13.1 (.int .i64 1) r13.2).bind fun r14 =>
 (vl r14.1 r14.2).bind fun r15 =>
 (vl (e 0) r15.2).bind fun r16 =>
 (vl (e 5) r16.2).bind fun r17 =>
 (ia P 55 r16.1 r17.1 r17.2).bind fun r18 =>
 (fa P 48 r18.1 1 r18.2).bind fun r19 =>
 (fa P 46 r19.1 0 r19.2).bind fun r20 =>
 (ld P 3 r20.1 r20.2).bind fun r21 =>
 (vl r15.1 r21.2).bind fun r22 =>
 (bo P .neq 3 (.tmp 26) (.tmp 27) r21.1 r22.1 r22.2).bind fun r23 =>
 cnd r23.1 (
 (vl (.int .i64 (-1)) r23.2).bind fun r24 =>
 some (r24.1, r24.2)) (
 (vl r15.1 r23.2).bind fun r25 =>
 (bo P .add 3 (.tmp 29) (.const (.int .i64 1)) r25.1 (.int .i64 1) r25.2).bind fun r26 =>
 (vl r26.1 r26.2).bind fun r27 =>
 (vl (e 0) r27.2).bind fun r28 =>
 (vl (e 5) r28.2).bind fun r29 =>
 (ia P 55 r28.1 r29.1 r29.2).bind fun r30 =>
 (fa P 48 r30.1 1 r30.2).bind fun r31 =>
 (fa P 46 r31.1 1 r31.2).bind fun r32 =>
 (ld P 3 r32.1 r32.2).bind fun r33 =>
 (vl r27.1 r33.2).bind fun r34 =>
 (bo P .neq 3 (.tmp 36) (.tmp 37) r33.1 r34.1 r34.2).bind fun r35 =>
 cnd r35.1 (
 (vl (.int .i64 (-1)) r35.2).bind fun r36 =>
 some (r36.1, r36.2)) (
 (vl r27.1 r35.2).bind fun r37 =>
 (bo P .add 3 (.tmp 39) (.const (.int .i64 1)) r37.1 (.int .i64 1) r37.2).bind fun r38 =>
 (vl r38.1 r38.2).bind fun r39 =>
 (vl (e 0) r39.2).bind fun r40 =>
 (vl (e 5) r40.2).bind fun r41 =>
 (ia P 55 r40.1 r41.1 r41.2).bind fun r42 =>
 (fa P 48 r42.1 2 r42.2).bind fun r43 =>
 (fa P 35 r43.1 0 r43.2).bind fun r44 =>
 (ld P 33 r44.1 r44.2).bind fun r45 =>
 (vl r39.1 r45.2).bind fun r46 =>
 (EV P 88 #[r45.1, r46.1] r46.2).bind fun r47 =>
 (vl r47.1 r47.2).bind fun r48 =>
 (vl r48.1 r48.2).bind fun r49 =>
 (bo P .lss 3 (.tmp 49) (.const (.int .i64 0)) r49.1 (.int .i64 0) r49.2).bind fun r50 =>
 cnd r50.1 (
 (vl (.int .i64 (-1)) r50.2).bind fun r51 =>
 some (r51.1, r51.2)) (
 (vl (e 0) (dw r50.2)).bind fun r53 =>
 ifP (r53.2 = (dw r50.2)) <|
 (vl (e 5) (dw r50.2)).bind fun r54 =>
 ifP (r54.2 = (dw r50.2)) <|
 (ia P 55 r53.1 r54.1 (dw r50.2)).bind fun r55 =>
 ifP (r55.2 = (dw r50.2)) <|
 (fa P 48 r55.1 3 (dw r50.2)).bind fun r56 =>
 ifP (r56.2 = (dw r50.2)) <|
 (ld P 9 r56.1 (dw r50.2)).bind fun r57 =>
 ifP (r57.2 = (dw r50.2)) <|
 (vl r48.1 (dw r50.2)).bind fun r58 =>
 ifP (r58.2 = (dw r50.2)) <|
 (EV P 134 #[r58.1] (dw r50.2)).bind fun r59 =>
 ifP (ld P 9 r56.1 r59.2 = some (r57.1, r59.2) ∧ fa P 48 r55.1 3 r59.2 = some (r56.1, r59.2) ∧ ia P 55 r53.1 r54.1 r59.2 = some (r55.1, r59.2) ∧ True) <|
 (bo P .neq 9 (.tmp 55) (.tmp 57) r57.1 r59.1 r59.2).bind fun r60 =>
 ifP (r60.2 = r59.2) <|
 cnd r60.1 (
 (vl (.int .i64 (-1)) r59.2).bind fun r61 =>
 some (r61.1, r61.2)) (
 (vl r48.1 r59.2).bind fun r62 =>
 (bo P .add 3 (.tmp 59) (.const (.int .i64 1)) r62.1 (.int .i64 1) r62.2).bind fun r63 =>
 (vl r63.1 r63.2).bind fun r64 =>
 (vl (e 0) r64.2).bind fun r65 =>
 (vl (e 5) r65.2).bind fun r66 =>
 (ia P 55 r65.1 r66.1 r66.2).bind fun r67 =>
 (fa P 48 r67.1 4 r67.2).bind fun r68 =>
 (ld P 4 r68.1 r68.2).bind fun r69 =>
 (vl r64.1 r69.2).bind fun r70 =>
 (bo P .rem 3 (.tmp 66) (.const (.int .i64 3)) r70.1 (.int .i64 3) r70.2).bind fun r71 =>
 (bo P .eql 3 (.tmp 67) (.const (.int .i64 0)) r71.1 (.int .i64 0) r71.2).bind fun r72 =>
 (bo P .neq 4 (.tmp 65) (.tmp 68) r69.1 r72.1 r72.2).bind fun r73 =>
 cnd r73.1 (
 (vl (.int .i64 (-1)) r73.2).bind fun r74 =>
 some (r74.1, r74.2)) (
 (vl r64.1 r73.2).bind fun r75 =>
 (bo P .add 3 (.tmp 70) (.const (.int .i64 1)) r75.1 (.int .i64 1) r75.2).bind fun r76 =>
 (vl r76.1 r76.2).bind fun r77 =>
 (vl (e 5) r77.2).bind fun r78 =>
 (bo P .add 3 (.tmp 10) (.const (.int .i64 1)) r78.1 (.int .i64 1) r78.2).bind fun r79 =>
 (vl r79.1 r79.2).bind fun r80 =>
 laws_heldVerS_l1 (ups e [(6, r1.1), (7, r2.1), (8, r3.1), (9, r4.1), (12, r5.1), (13, r6.1), (14, r7.1), (15, r8.1), (16, r9.1), (17, r10.1), (18, r11.1), (19, r13.1), (20, r14.1), (1, r15.1), (21, r16.1), (22, r17.1), (23, r18.1), (24, r19.1), (25, r20.1), (26, r21.1), (27, r22.1), (28, r23.1), (29, r25.1), (30, r26.1), (1, r27.1), (31, r28.1), (32, r29.1), (33, r30.1), (34, r31.1), (35, r32.1), (36, r33.1), (37, r34.1), (38, r35.1), (39, r37.1), (40, r38.1), (1, r39.1), (41, r40.1), (42, r41.1), (43, r42.1), (44, r43.1), (45, r44.1), (46, r45.1), (47, r46.1), (48, r47.1), (1, r48.1), (49, r49.1), (50, r50.1), (51, r53.1), (52, r54.1), (53, r55.1), (54, r56.1), (55, r57.1), (56, r58.1), (57, r59.1), (58, r60.1), (59, r62.1), (60, r63.1), (1, r64.1), (61, r65.1), (62, r66.1), (63, r67.1), (64, r68.1), (65, r69.1), (66, r70.1), (67, r71.1), (68, r72.1), (69, r73.1), (70, r75.1), (71, r76.1), (1, r77.1), (10, r78.1), (11, r79.1), (5, r80.1)]) r80.2))))))) (
 (vl (e 1) r4.2).bind fun r81 =>
 (vl r81.1 r81.2).bind fun r82 =>
 some (r82.1, r82.2)) := (exC_loop P (EV P) 97 73 (cA (cA (cB (cA (cB (bodyOf P 97)))))) e w (kBlock 0 (kSeq P (EV P) 97 73 (cB (cB (bodyOf P 97))) (kFn P (fnOf P 97))))).trans (by kernel_rfl)
theorem laws_heldVerS_fn (x0 x1 : Value) (w : World) : fnC P (EV P) 97 #[x0, x1] w =
 (vl (.int .i64 0) w).bind fun r1 =>
 (vl (.int .i64 0) r1.2).bind fun r2 =>
 laws_heldVerS_l1 (ups (env0 #[x0, x1]) [(4, r1.1), (5, r2.1)]) r2.2 := by kernel_rfl
theorem impl_Ver_same_fn (x0 x1 : Value) (w : World) : fnC P (EV P) 99 #[x0, x1] w =
 (bx P 48 x0 w).bind fun r1 =>
 (bx P 48 x1 r1.2).bind fun r2 =>
 (vl (.bool false) r2.2).bind fun r3 =>
 (fa P 48 r1.1 0 r3.2).bind fun r4 =>
 (ld P 3 r4.1 r4.2).bind fun r5 =>
 (fa P 48 r2.1 0 r5.2).bind fun r6 =>
 (ld P 3 r6.1 r6.2).bind fun r7 =>
 (bo P .eql 3 (.tmp 6) (.tmp 8) r5.1 r7.1 r7.2).bind fun r8 =>
 (vl r8.1 r8.2).bind fun r9 =>
 (gif r9.1 true (fa P 48 r1.1 1 r9.2) r9.2).bind fun r10 =>
 (gif r9.1 true (ld P 46 r10.1 r10.2) r10.2).bind fun r11 =>
 (gif r9.1 true (fa P 48 r2.1 1 r11.2) r11.2).bind fun r12 =>
 (gif r9.1 true (ld P 46 r12.1 r12.2) r12.2).bind fun r13 =>
 (gif r9.1 true (bo P .eql 46 (.tmp 12) (.tmp 14) r11.1 r13.1 r13.2) r13.2).bind fun r14 =>
 (pickV r9.1 r14.1 (.bool false) r14.2).bind fun r15 =>
 (vl r15.1 r15.2).bind fun r16 =>
 (gif r16.1 true (fa P 48 r1.1 2 r16.2) r16.2).bind fun r17 =>
 (gif r16.1 true (fa P 35 r17.1 0 r17.2) r17.2).bind fun r18 =>
 (gif r16.1 true (ld P 33 r18.1 r18.2) r18.2).bind fun r19 =>
 (gif r16.1 true (fa P 48 r2.1 2 r19.2) r19.2).bind fun r20 =>
 (gif r16.1 true (fa P 35 r20.1 0 r20.2) r20.2).bind fun r21 =>
 (gif r16.1 true (ld P 33 r21.1 r21.2) r21.2).bind fun r22 =>
 (gif r16.1 true (EV P 135 #[r19.1, r22.1] r22.2) r22.2).bind fun r23 =>
 (pickV r16.1 r23.1 (.bool false) r23.2).bind fun r24 =>
 (vl r24.1 r24.2).bind fun r25 =>
 (gif r25.1 true (fa P 48 r1.1 3 r25.2) r25.2).bind fun r26 =>
 (gif r25.1 true (ld P 9 r26.1 r26.2) r26.2).bind fun r27 =>
 (gif r25.1 true (fa P 48 r2.1 3 r27.2) r27.2).bind fun r28 =>
 (gif r25.1 true (ld P 9 r28.1 r28.2) r28.2).bind fun r29 =>
 (gif r25.1 true (bo P .eql 9 (.tmp 28) (.tmp 30) r27.1 r29.1 r29.2) r29.2).bind fun r30 =>
 (pickV r25.1 r30.1 (.bool false) r30.2).bind fun r31 =>
 (vl r31.1 r31.2).bind fun r32 =>
 (gif r32.1 true (fa P 48 r1.1 4 r32.2) r32.2).bind fun r33 =>
 (gif r32.1 true (ld P 4 r33.1 r33.2) r33.2).bind fun r34 =>
 (gif r32.1 true (fa P 48 r2.1 4 r34.2) r34.2).bind fun r35 =>
 (gif r32.1 true (ld P 4 r35.1 r35.2) r35.2).bind fun r36 =>
 (gif r32.1 true (bo P .eql 4 (.tmp 35) (.tmp 37) r34.1 r36.1 r36.2) r36.2).bind fun r37 =>
 (pickV r32.1 r37.1 (.bool false) r37.2).bind fun r38 =>
 (vl r38.1 r38.2).bind fun r39 =>
 some (r39.1, r39.2) := by kernel_rfl
noncomputable def slices_IndexFunc_Ver_l1 (e : Env) (w : World) : Option (Value × World) := exC P (EV P) 100 19 (.loop (cA (cA (cB (cA (cB (bodyOf P 100))))))) e w (kBlock 0 (kSeq P (EV P) 100 19 (cB (cB (bodyOf P 100))) (kFn P (fnOf P 100))))
theorem slices_IndexFunc_Ver_l1_eq (e : Env) (w : World) : slices_IndexFunc_Ver_l1 e w =
 (bo P .lss 3 (.tmp 8) (.tmp 7) (e 8) (e 7) w).bind fun r1 =>
 cnd r1.1 (
 (vl (e 8) r1.2).bind fun r2 =>
 (vl r2.1 r2.2).bind fun r3 =>
 (vl (e 1) r3.2).bind fun r4 =>
 (vl (e 0) r4.2).bind fun r5 =>
 (vl r3.1 r5.2).bind fun r6 =>
 (ia P 55 r5.1 r6.1 r6.2).bind fun r7 =>
 (ld P 48 r7.1 r7.2).bind fun r8 =>
 (clo P r4.1 #[r8.1] r8.2).bind fun r9 =>
 cnd r9.1 (
 (vl r3.1 r9.2).bind fun r10 =>
 (vl r10.1 r10.2).bind fun r11 =>
 some (r11.1, r11.2)) (
 (bo P .add 3 (.tmp 8) (.const (.int .i64 1)) (e 8) (.int .i64 1) r9.2).bind fun r12 =>
 (vl r12.1 r12.2).bind fun r13 =>
 slices_IndexFunc_Ver_l1 (ups e [(9, r1.1), (10, r2.1), (5, r3.1), (11, r4.1), (12, r5.1), (13, r6.1), (14, r7.1), (15, r8.1), (16, r9.1), (18, r12.1), (8, r13.1)]) r13.2)) (
 (vl (.int .i64 (-1)) r1.2).bind fun r14 =>
 some (r14.1, r14.2)) := (exC_loop P (EV P) 100 19 (cA (cA (cB (cA (cB (bodyOf P 100)))))) e w (kBlock 0 (kSeq P (EV P) 100 19 (cB (cB (bodyOf P 100))) (kFn P (fnOf P 100))))).trans (by kernel_rfl)
theorem slices_IndexFunc_Ver_fn (x0 x1 : Value) (w : World) : fnC P (EV P) 100 #[x0, x1] w =
 (vl (.int .i64 0) w).bind fun r1 =>
 (vl x0 r1.2).bind fun r2 =>
 (b_len P #[55] 3 #[r2.1] r2.2).bind fun r3 =>
 (vl (.int .i64 0) r3.2).bind fun r4 =>
 slices_IndexFunc_Ver_l1 (ups (env0 #[x0, x1]) [(4, r1.1), (6, r2.1), (7, r3.1), (8, r4.1)]) r4.2 := by kernel_rfl
theorem impl_Store_same_fn (x0 x1 : Value) (w : World) : fnC P (EV P) 101 #[x0, x1] w =
 (bx P 57 x0 w).bind fun r1 =>
 (bx P 57 x1 r1.2).bind fun r2 =>
 (vl (.bool false) r2.2).bind fun r3 =>
 (fa P 57 r1.1 0 r3.2).bind fun r4 =>
 (ld P 55 r4.1 r4.2).bind fun r5 =>
 (fa P 57 r2.1 0 r5.2).bind fun r6 =>
 (ld P 55 r6.1 r6.2).bind fun r7 =>
 (EV P 136 #[r5.1, r7.1, (.func (.func 99) #[] #[])] r7.2).bind fun r8 =>
 (vl r8.1 r8.2).bind fun r9 =>
 some (r9.1, r9.2) := by kernel_rfl
theorem laws_szNode_fn (x0 x1 : Value) (w : World) : fnC P (EV P) 102 #[x0, x1] w =
 (bx P 113 x0 w).bind fun r1 =>
 (vl (.int .i64 0) r1.2).bind fun r2 =>
 (fa P 113 r1.1 0 r2.2).bind fun r3 =>
 (ld P 111 r3.1 r3.2).bind fun r4 =>
 (vl x1 r4.2).bind fun r5 =>
 (EV P 137 #[r4.1, r5.1] r5.2).bind fun r6 =>
 (vl r6.1 r6.2).bind fun r7 =>
 (vl r7.1 r7.2).bind fun r8 =>
 (bo P .lss 3 (.tmp 9) (.const (.int .i64 0)) r8.1 (.int .i64 0) r8.2).bind fun r9 =>
 cnd r9.1 (
 (vl (.int .i64 (-1)) r9.2).bind fun r10 =>
 some (r10.1, r10.2)) (
 (fa P 113 r1.1 1 r9.2).bind fun r11 =>
 (ld P 109 r11.1 r11.2).bind fun r12 =>
 (vl r7.1 r12.2).bind fun r13 =>
 (EV P 138 #[r12.1, r13.1] r13.2).bind fun r14 =>
 (vl r14.1 r14.2).bind fun r15 =>
 (vl r15.1 r15.2).bind fun r16 =>
 (bo P .lss 3 (.tmp 15) (.const (.int .i64 0)) r16.1 (.int .i64 0) r16.2).bind fun r17 =>
 cnd r17.1 (
 (vl (.int .i64 (-1)) r17.2).bind fun r18 =>
 some (r18.1, r18.2)) (
 (vl r15.1 r17.2).bind fun r19 =>
 (vl r19.1 r19.2).bind fun r20 =>
 some (r20.1, r20.2))) := by kernel_rfl
noncomputable def spec_l2StoreOk_l1 (e : Env) (w : World) : Option (Value × World) := exC P (EV P) 103 87 (.loop (cA (cA (cB (cA (cB (bodyOf P 103))))))) e w (kBlock 0 (kSeq P (EV P) 103 87 (cB (cB (bodyOf P 103))) (kFn P (fnOf P 103))))
theorem spec_l2StoreOk_l1_eq (e : Env) (w : World) : spec_l2StoreOk_l1 e w =
 (vl (e 3) w).bind fun r1 =>
 (fa P 57 (e 1) 0 r1.2).bind fun r2 =>
 (ld P 55 r2.1 r2.2).bind fun r3 =>
 (b_len P #[55] 3 #[r3.1] r3.2).bind fun r4 =>
 (bo P .lss 3 (.tmp 4) (.tmp 7) r1.1 r4.1 r4.2).bind fun r5 =>
 cnd r5.1 (
 (fa P 57 (e 1) 0 r5.2).bind fun r6 =>
 (ld P 55 r6.1 r6.2).bind fun r7 =>
 (vl (e 3) r7.2).bind fun r8 =>
 (ia P 55 r7.1 r8.1 r8.2).bind fun r9 =>
 (fa P 48 r9.1 1 r9.2).bind fun r10 =>
 (ld P 46 r10.1 r10.2).bind fun r11 =>
 (bd P 46 #[] r11.2).bind fun r12 =>
 (bo P .neq 46 (.tmp 16) (.tmp 17) r11.1 r12.1 r12.2).bind fun r13 =>
 (vl r13.1 r13.2).bind fun r14 =>
 (gif r14.1 true (fa P 57 (e 1) 0 r14.2) r14.2).bind fun r15 =>
 (gif r14.1 true (ld P 55 r15.1 r15.2) r15.2).bind fun r16 =>
 (gif r14.1 true (vl (e 3) r16.2) r16.2).bind fun r17 =>
 (gif r14.1 true (ia P 55 r16.1 r17.1 r17.2) r17.2).bind fun r18 =>
 (gif r14.1 true (ld P 48 r18.1 r18.2) r18.2).bind fun r19 =>
 (gif r14.1 true (EV P 70 #[r19.1] r19.2) r19.2).bind fun r20 =>
 (gif r14.1 true (uo P .not r20.1 r20.2) r20.2).bind fun r21 =>
 (gif r14.1 true (vl r21.1 r21.2) r21.2).bind fun r22 =>
 (gif r22.1 false (fa P 57 (e 1) 0 r22.2) r22.2).bind fun r23 =>
 (gif r22.1 false (ld P 55 r23.1 r23.2) r23.2).bind fun r24 =>
 (gif r22.1 false (vl (e 3) r24.2) r24.2).bind fun r25 =>
 (gif r22.1 false (ia P 55 r24.1 r25.1 r25.2) r25.2).bind fun r26 =>
 (gif r22.1 false (fa P 48 r26.1 0 r26.2) r26.2).bind fun r27 =>
 (gif r22.1 false (ld P 3 r27.1 r27.2) r27.2).bind fun r28 =>
 (gif r22.1 false (vl (e 3) r28.2) r28.2).bind fun r29 =>
 (gif r22.1 false (bo P .neq 3 (.tmp 33) (.tmp 34) r28.1 r29.1 r29.2) r29.2).bind fun r30 =>
 (gif r14.1 true (pickV r22.1 (.bool true) r30.1 r30.2) r30.2).bind fun r31 =>
 (pickV r14.1 r31.1 (.bool false) r31.2).bind fun r32 =>
 cnd r32.1 (
 (vl (.bool false) r32.2).bind fun r33 =>
 some (r33.1, r33.2)) (
 (fa P 57 (e 1) 0 r32.2).bind fun r34 =>
 (ld P 55 r34.1 r34.2).bind fun r35 =>
 (vl (e 3) r35.2).bind fun r36 =>
 (ia P 55 r35.1 r36.1 r36.2).bind fun r37 =>
 (fa P 48 r37.1 1 r37.2).bind fun r38 =>
 (ld P 46 r38.1 r38.2).bind fun r39 =>
 (bd P 46 #[] r39.2).bind fun r40 =>
 (bo P .eql 46 (.tmp 43) (.tmp 44) r39.1 r40.1 r40.2).bind fun r41 =>
 (vl r41.1 r41.2).bind fun r42 =>
 (gif r42.1 true (fa P 57 (e 1) 0 r42.2) r42.2).bind fun r43 =>
 (gif r42.1 true (ld P 55 r43.1 r43.2) r43.2).bind fun r44 =>
 (gif r42.1 true (vl (e 3) r44.2) r44.2).bind fun r45 =>
 (gif r42.1 true (ia P 55 r44.1 r45.1 r45.2) r45.2).bind fun r46 =>
 (gif r42.1 true (fa P 48 r46.1 0 r46.2) r46.2).bind fun r47 =>
 (gif r42.1 true (ld P 3 r47.1 r47.2) r47.2).bind fun r48 =>
 (gif r42.1 true (bo P .neq 3 (.tmp 52) (.const (.int .i64 0)) r48.1 (.int .i64 0) r48.2) r48.2).bind fun r49 =>
 (gif r42.1 true (vl r49.1 r49.2) r49.2).bind fun r50 =>
 (gif r50.1 false (fa P 57 (e 1) 0 r50.2) r50.2).bind fun r51 =>
 (gif r50.1 false (ld P 55 r51.1 r51.2) r51.2).bind fun r52 =>
 (gif r50.1 false (vl (e 3) r52.2) r52.2).bind fun r53 =>
 (gif r50.1 false (ia P 55 r52.1 r53.1 r53.2) r53.2).bind fun r54 =>
 (gif r50.1 false (fa P 48 r54.1 3 r54.2) r54.2).bind fun r55 =>
 (gif r50.1 false (ld P 9 r55.1 r55.2) r55.2).bind fun r56 =>
 (gif r50.1 false (bo P .neq 9 (.tmp 60) (.const (Go.Value.string { data := #[] })) r56.1 (Go.Value.string { data := #[] }) r56.2) r56.2).bind fun r57 =>
 (gif r42.1 true (pickV r50.1 (.bool true) r57.1 r57.2) r57.2).bind fun r58 =>
 (gif r42.1 true (vl r58.1 r58.2) r58.2).bind fun r59 =>
 (gif r59.1 false (fa P 57 (e 1) 0 r59.2) r59.2).bind fun r60 =>
 (gif r59.1 false (ld P 55 r60.1 r60.2) r60.2).bind fun r61 =>
 (gif r59.1 false (vl (e 3) r61.2) r61.2).bind fun r62 =>
 (gif r59.1 false (ia P 55 r61.1 r62.1 r62.2) r62.2).bind fun r63 =>
 (gif r59.1 false (fa P 48 r63.1 4 r63.2) r63.2).bind fun r64 =>
 (gif r59.1 false (ld P 4 r64.1 r64.2) r64.2).bind fun r65 =>
 (gif r42.1 true (pickV r59.1 (.bool true) r65.1 r65.2) r65.2).bind fun r66 =>
 (gif r42.1 true (vl r66.1 r66.2) r66.2).bind fun r67 =>
 (gif r67.1 false (fa P 57 (e 1) 0 r67.2) r67.2).bind fun r68 =>
 (gif r67.1 false (ld P 55 r68.1 r68.2) r68.2).bind fun r69 =>
 (gif r67.1 false (vl (e 3) r69.2) r69.2).bind fun r70 =>
 (gif r67.1 false (ia P 55 r69.1 r70.1 r70.2) r70.2).bind fun r71 =>
 (gif r67.1 false (fa P 48 r71.1 2 r71.2) r71.2).bind fun r72 =>
 (gif r67.1 false (fa P 35 r72.1 0 r72.2) r72.2).bind fun r73 =>
 (gif r67.1 false (ld P 33 r73.1 r73.2) r73.2).bind fun r74 =>
 (gif r67.1 false (b_len P #[33] 3 #[r74.1] r74.2) r74.2).bind fun r75 =>
 (gif r67.1 false (bo P .gtr 3 (.tmp 79) (.const (.int .i64 0)) r75.1 (.int .i64 0) r75.2) r75.2).bind fun r76 =>
 (gif r42.1 true (pickV r67.1 (.bool true) r76.1 r76.2) r76.2).bind fun r77 =>
 (pickV r42.1 r77.1 (.bool false) r77.2).bind fun r78 =>
 cnd r78.1 (
 (vl (.bool false) r78.2).bind fun r79 =>
 some (r79.1, r79.2)) (
 (vl (e 3) r78.2).bind fun r80 =>
 (bo P .add 3 (.tmp 9) (.const (.int .i64 1)) r80.1 (.int .i64 1) r80.2).bind fun r81 =>
 (vl r81.1 r81.2).bind fun r82 =>
 spec_l2StoreOk_l1 (ups e [(4, r1.1), (5, r2.1), (6, r3.1), (7, r4.1), (8, r5.1), (11, r6.1), (12, r7.1), (13, r8.1), (14, r9.1), (15, r10.1), (16, r11.1), (17, r12.1), (18, r13.1), (19, r14.1), (20, r15.1), (21, r16.1), (22, r17.1), (23, r18.1), (24, r19.1), (25, r20.1), (26, r21.1), (27, r22.1), (28, r23.1), (29, r24.1), (30, r25.1), (31, r26.1), (32, r27.1), (33, r28.1), (34, r29.1), (35, r30.1), (36, r31.1), (37, r32.1), (38, r34.1), (39, r35.1), (40, r36.1), (41, r37.1), (42, r38.1), (43, r39.1), (44, r40.1), (45, r41.1), (46, r42.1), (47, r43.1), (48, r44.1), (49, r45.1), (50, r46.1), (51, r47.1), (52, r48.1), (53, r49.1), (54, r50.1), (55, r51.1), (56, r52.1), (57, r53.1), (58, r54.1), (59, r55.1), (60, r56.1), (61, r57.1), (62, r58.1), (63, r59.1), (64, r60.1), (65, r61.1), (66, r62.1), (67, r63.1), (68, r64.1), (69, r65.1), (70, r66.1), (71, r67.1), (72, r68.1), (73, r69.1), (74, r70.1), (75, r71.1), (76, r72.1), (77, r73.1), (78, r74.1), (79, r75.1), (80, r76.1), (81, r77.1), (82, r78.1), (9, r80.1), (10, r81.1), (3, r82.1)]) r82.2))) (
 (fa P 57 (e 1) 0 r5.2).bind fun r83 =>
 (ld P 55 r83.1 r83.2).bind fun r84 =>
 (b_len P #[55] 3 #[r84.1] r84.2).bind fun r85 =>
 (bo P .eql 3 (.tmp 85) (.const (.int .i64 4)) r85.1 (.int .i64 4) r85.2).bind fun r86 =>
 (vl r86.1 r86.2).bind fun r87 =>
 some (r87.1, r87.2)) := (exC_loop P (EV P) 103 87 (cA (cA (cB (cA (cB (bodyOf P 103)))))) e w (kBlock 0 (kSeq P (EV P) 103 87 (cB (cB (bodyOf P 103))) (kFn P (fnOf P 103))))).trans (by kernel_rfl)
theorem spec_l2StoreOk_fn (x0 : Value) (w : World) : fnC P (EV P) 103 #[x0] w =
 (bx P 57 x0 w).bind fun r1 =>
 (vl (.bool false) r1.2).bind fun r2 =>
 (vl (.int .i64 0) r2.2).bind fun r3 =>
 spec_l2StoreOk_l1 (ups (env0 #[x0]) [(1, r1.1), (2, r2.1), (3, r3.1)]) r3.2 := by kernel_rfl
noncomputable def spec_l3Next_l1 (e : Env) (w : World) : Option (Value × World) := exC P (EV P) 104 51 (.loop (cA (cA (cB (cA (cB (cB (cB (bodyOf P 104))))))))) e w (kBlock 0 (kSeq P (EV P) 104 51 (cB (cB (cB (cB (bodyOf P 104))))) (kFn P (fnOf P 104))))
theorem spec_l3Next_l1_eq (e : Env) (w : World) : spec_l3Next_l1 e w =
 (vl (e 6) w).bind fun r1 =>
 (fa P 59 (e 2) 1 r1.2).bind fun r2 =>
 (ld P 55 r2.1 r2.2).bind fun r3 =>
 (b_len P #[55] 3 #[r3.1] r3.2).bind fun r4 =>
 (bo P .lss 3 (.tmp 14) (.tmp 17) r1.1 r4.1 r4.2).bind fun r5 =>
 cnd r5.1 (
 (fa P 57 (e 5) 0 (dw r5.2)).bind fun r7 =>
 ifP (r7.2 = (dw r5.2)) <|
 (ld P 55 r7.1 (dw r5.2)).bind fun r8 =>
 ifP (r8.2 = (dw r5.2)) <|
 (fa P 59 (e 2) 1 (dw r5.2)).bind fun r9 =>
 ifP (r9.2 = (dw r5.2)) <|
 (ld P 55 r9.1 (dw r5.2)).bind fun r10 =>
 ifP (r10.2 = (dw r5.2)) <|
 (vl (e 6) (dw r5.2)).bind fun r11 =>
 ifP (r11.2 = (dw r5.2)) <|
 (ia P 55 r10.1 r11.1 (dw r5.2)).bind fun r12 =>
 ifP (r12.2 = (dw r5.2)) <|
 (fa P 48 r12.1 0 (dw r5.2)).bind fun r13 =>
 ifP (r13.2 = (dw r5.2)) <|
 (ld P 3 r13.1 (dw r5.2)).bind fun r14 =>
 ifP (r14.2 = (dw r5.2)) <|
 (ia P 55 r8.1 r14.1 (dw r5.2)).bind fun r15 =>
 ifP (r15.2 = (dw r5.2)) <|
 (fa P 48 r15.1 1 (dw r5.2)).bind fun r16 =>
 ifP (r16.2 = (dw r5.2)) <|
 (ld P 46 r16.1 (dw r5.2)).bind fun r17 =>
 ifP (r17.2 = (dw r5.2)) <|
 (fa P 59 (e 2) 1 (dw r5.2)).bind fun r18 =>
 ifP (r18.2 = (dw r5.2)) <|
 (ld P 55 r18.1 (dw r5.2)).bind fun r19 =>
 ifP (r19.2 = (dw r5.2)) <|
 (vl (e 6) (dw r5.2)).bind fun r20 =>
 ifP (r20.2 = (dw r5.2)) <|
 (ia P 55 r19.1 r20.1 (dw r5.2)).bind fun r21 =>
 ifP (r21.2 = (dw r5.2)) <|
 (fa P 48 r21.1 1 (dw r5.2)).bind fun r22 =>
 ifP (r22.2 = (dw r5.2)) <|
 (ld P 46 r22.1 (dw r5.2)).bind fun r23 =>
 ifP (r23.2 = (dw r5.2)) <|
 (EV P 119 #[r17.1, r23.1] (dw r5.2)).bind fun r24 =>
 ifP (True ∧ True ∧ True ∧ True ∧ True ∧ True ∧ True ∧ True ∧ True ∧ True ∧ True ∧ True ∧ True ∧ True ∧ True ∧ True) <|
 (uo P .not r24.1 r24.2).bind fun r25 =>
 ifP (r25.2 = r24.2) <|
 cnd r25.1 (
 (vl (.bool false) r24.2).bind fun r26 =>
 some (r26.1, r26.2)) (
 (ld P 57 (e 5) (dw r24.2)).bind fun r28 =>
 ifP (r28.2 = (dw r24.2)) <|
 (fa P 59 (e 2) 1 (dw r24.2)).bind fun r29 =>
 ifP (r29.2 = (dw r24.2)) <|
 (ld P 55 r29.1 (dw r24.2)).bind fun r30 =>
 ifP (r30.2 = (dw r24.2)) <|
 (vl (e 6) (dw r24.2)).bind fun r31 =>
 ifP (r31.2 = (dw r24.2)) <|
 (ia P 55 r30.1 r31.1 (dw r24.2)).bind fun r32 =>
 ifP (r32.2 = (dw r24.2)) <|
 (ld P 48 r32.1 (dw r24.2)).bind fun r33 =>
 ifP (r33.2 = (dw r24.2)) <|
 (EV P 120 #[r28.1, r33.1] (dw r24.2)).bind fun r34 =>
 ifP (True ∧ True ∧ True ∧ True ∧ True ∧ True) <|
 (st P 57 (e 5) r34.1 r34.2).bind fun r35 =>
 ifP (True ∧ True ∧ True ∧ True ∧ True ∧ True) <|
 (vl (e 6) r35.2).bind fun r36 =>
 (bo P .add 3 (.tmp 19) (.const (.int .i64 1)) r36.1 (.int .i64 1) r36.2).bind fun r37 =>
 (vl r37.1 r37.2).bind fun r38 =>
 spec_l3Next_l1 (ups e [(14, r1.1), (15, r2.1), (16, r3.1), (17, r4.1), (18, r5.1), (21, r7.1), (22, r8.1), (23, r9.1), (24, r10.1), (25, r11.1), (26, r12.1), (27, r13.1), (28, r14.1), (29, r15.1), (30, r16.1), (31, r17.1), (32, r18.1), (33, r19.1), (34, r20.1), (35, r21.1), (36, r22.1), (37, r23.1), (38, r24.1), (39, r25.1), (40, r28.1), (41, r29.1), (42, r30.1), (43, r31.1), (44, r32.1), (45, r33.1), (46, r34.1), (19, r36.1), (20, r37.1), (6, r38.1)]) r38.2)) (
 (ld P 57 (e 5) r5.2).bind fun r39 =>
 (fa P 59 (e 2) 0 r39.2).bind fun r40 =>
 (ld P 57 r40.1 r40.2).bind fun r41 =>
 (EV P 139 #[r39.1, r41.1] r41.2).bind fun r42 =>
 (vl r42.1 r42.2).bind fun r43 =>
 some (r43.1, r43.2)) := (exC_loop P (EV P) 104 51 (cA (cA (cB (cA (cB (cB (cB (bodyOf P 104)))))))) e w (kBlock 0 (kSeq P (EV P) 104 51 (cB (cB (cB (cB (bodyOf P 104))))) (kFn P (fnOf P 104))))).trans (by kernel_rfl)
theorem spec_l3Next_fn (x0 x1 : Value) (w : World) : fnC P (EV P) 104 #[x0, x1] w =
 (bx P 59 x0 w).bind fun r1 =>
 (bx P 59 x1 r1.2).bind fun r2 =>
 (vl (.bool false) r2.2).bind fun r3 =>
 (fa P 59 r2.1 0 r3.2).bind fun r4 =>
 (ld P 57 r4.1 r4.2).bind fun r5 =>
 (EV P 103 #[r5.1] r5.2).bind fun r6 =>
 (uo P .not r6.1 r6.2).bind fun r7 =>
 cnd r7.1 (
 (vl (.bool false) r7.2).bind fun r8 =>
 some (r8.1, r8.2)) (
 (fa P 59 r2.1 0 r7.2).bind fun r9 =>
 (ld P 57 r9.1 r9.2).bind fun r10 =>
 (EV P 117 #[r10.1] r10.2).bind fun r11 =>
 (al P 57 r11.2).bind fun r12 =>
 (st P 57 r12.1 r11.1 r12.2).bind fun r13 =>
 (vl (.int .i64 0) r13.2).bind fun r14 =>
 spec_l3Next_l1 (ups (env0 #[x0, x1]) [(2, r1.1), (3, r2.1), (4, r3.1), (7, r4.1), (8, r5.1), (9, r6.1), (10, r7.1), (11, r9.1), (12, r10.1), (13, r11.1), (5, r12.1), (6, r14.1)]) r14.2) := by kernel_rfl
theorem laws_toNode_fn (x0 : Value) (w : World) : fnC P (EV P) 105 #[x0] w =
 (bx P 113 x0 w).bind fun r1 =>
 (al P 59 r1.2).bind fun r2 =>
 (al P 59 r2.2).bind fun r3 =>
 (fa P 113 r1.1 0 r3.2).bind fun r4 =>
 (ld P 111 r4.1 r4.2).bind fun r5 =>
 (EV P 140 #[r5.1] r5.2).bind fun r6 =>
 (fa P 59 r3.1 0 r6.2).bind fun r7 =>
 (st P 57 r7.1 r6.1 r7.2).bind fun r8 =>
 (fa P 113 r1.1 1 r8.2).bind fun r9 =>
 (ld P 109 r9.1 r9.2).bind fun r10 =>
 (EV P 141 #[r10.1] r10.2).bind fun r11 =>
 (fa P 59 r3.1 1 r11.2).bind fun r12 =>
 (st P 55 r12.1 r11.1 r12.2).bind fun r13 =>
 (ld P 59 r3.1 r13.2).bind fun r14 =>
 (st P 59 r2.1 r14.1 r14.2).bind fun r15 =>
 ((ld P 59 r2.1 r15.2).bind fun r16 => ifP (r16.2 = r15.2) (some r16.1)).bind fun v17 =>
 some (v17, r15.2) := by kernel_rfl
noncomputable def impl_Chain_copied_l1 (e : Env) (w : World) : Option (Value × World) := exC P (EV P) 111 32 (.loop (cA (cA (cB (cA (cB (cB (bodyOf P 111)))))))) e w (kBlock 0 (kSeq P (EV P) 111 32 (cB (cB (cB (bodyOf P 111)))) (kFn P (fnOf P 111))))
theorem impl_Chain_copied_l1_eq (e : Env) (w : World) : impl_Chain_copied_l1 e w =
 (bo P .lss 3 (.tmp 14) (.tmp 13) (e 14) (e 13) w).bind fun r1 =>
 cnd r1.1 (
 (ia P 22 (e 12) (e 14) r1.2).bind fun r2 =>
 (ld P 59 r2.1 r2.2).bind fun r3 =>
 (al P 59 r3.2).bind fun r4 =>
 (st P 59 r4.1 r3.1 r4.2).bind fun r5 =>
 (fa P 24 (e 3) 0 (dw r5.2)).bind fun r7 =>
 ifP (r7.2 = (dw r5.2)) <|
 (ld P 22 r7.1 (dw r5.2)).bind fun r8 =>
 ifP (r8.2 = (dw r5.2)) <|
 (fa P 59 r4.1 0 (dw r5.2)).bind fun r9 =>
 ifP (r9.2 = (dw r5.2)) <|
 (ld P 57 r9.1 (dw r5.2)).bind fun r10 =>
 ifP (r10.2 = (dw r5.2)) <|
 (fa P 59 r4.1 1 (dw r5.2)).bind fun r11 =>
 ifP (r11.2 = (dw r5.2)) <|
 (ld P 55 r11.1 (dw r5.2)).bind fun r12 =>
 ifP (r12.2 = (dw r5.2)) <|
 (EV P 78 #[r10.1] (dw r5.2)).bind fun r13 =>
 ifP (ld P 55 r11.1 r13.2 = some (r12.1, r13.2) ∧ fa P 59 r4.1 1 r13.2 = some (r11.1, r13.2) ∧ True ∧ True ∧ ld P 22 r7.1 r13.2 = some (r8.1, r13.2) ∧ fa P 24 (e 3) 0 r13.2 = some (r7.1, r13.2) ∧ True) <|
 (EV P 125 #[r12.1] r13.2).bind fun r14 =>
 ifP (True ∧ True ∧ True ∧ True ∧ ld P 22 r7.1 r14.2 = some (r8.1, r14.2) ∧ fa P 24 (e 3) 0 r14.2 = some (r7.1, r14.2) ∧ True) <|
 (bd P 59 #[(0, r13.1), (1, r14.1)] r14.2).bind fun r15 =>
 ifP (r15.2 = r14.2) <|
 (bs P 22 1 #[(0, r15.1)] r14.2).bind fun r16 =>
 ifP (True ∧ True ∧ True ∧ True ∧ True ∧ ld P 22 r7.1 r16.2 = some (r8.1, r16.2) ∧ fa P 24 (e 3) 0 r16.2 = some (r7.1, r16.2) ∧ True) <|
 (b_append P #[22, 22] 22 #[r8.1, r16.1] r16.2).bind fun r17 =>
 ifP (True ∧ True ∧ True ∧ True ∧ True ∧ True ∧ True ∧ True) <|
 (fa P 24 (e 3) 0 r17.2).bind fun r18 =>
 ifP (r18.2 = r17.2) <|
 (st P 22 r18.1 r17.1 r17.2).bind fun r19 =>
 ifP (True ∧ True ∧ True ∧ True ∧ True ∧ True ∧ True ∧ True ∧ True) <|
 (bo P .add 3 (.tmp 14) (.const (.int .i64 1)) (e 14) (.int .i64 1) r19.2).bind fun r20 =>
 (vl r20.1 r20.2).bind fun r21 =>
 impl_Chain_copied_l1 (ups e [(15, r1.1), (16, r2.1), (17, r3.1), (5, r4.1), (18, r7.1), (19, r8.1), (20, r9.1), (21, r10.1), (23, r11.1), (24, r12.1), (22, r13.1), (25, r14.1), (26, r15.1), (27, r16.1), (28, r17.1), (29, r18.1), (30, r20.1), (14, r21.1)]) r21.2) (
 (ld P 24 (e 3) r1.2).bind fun r22 =>
 (st P 24 (e 2) r22.1 r22.2).bind fun r23 =>
 ((ld P 24 (e 2) r23.2).bind fun r24 => ifP (r24.2 = r23.2) (some r24.1)).bind fun v25 =>
 some (v25, r23.2)) := (exC_loop P (EV P) 111 32 (cA (cA (cB (cA (cB (cB (bodyOf P 111))))))) e w (kBlock 0 (kSeq P (EV P) 111 32 (cB (cB (cB (bodyOf P 111)))) (kFn P (fnOf P 111))))).trans (by kernel_rfl)
theorem impl_Chain_copied_fn (x0 : Value) (w : World) : fnC P (EV P) 111 #[x0] w =
 (bx P 24 x0 w).bind fun r1 =>
 (al P 24 r1.2).bind fun r2 =>
 (fa P 24 r1.1 0 r2.2).bind fun r3 =>
 (ld P 22 r3.1 r3.2).bind fun r4 =>
 (b_len P #[22] 3 #[r4.1] r4.2).bind fun r5 =>
 (ms P 22 (.int .i64 0) r5.1 r5.2).bind fun r6 =>
 (bd P 24 #[(0, r6.1)] r6.2).bind fun r7 =>
 (al P 24 r7.2).bind fun r8 =>
 (st P 24 r8.1 r7.1 r8.2).bind fun r9 =>
 (fa P 24 r1.1 0 r9.2).bind fun r10 =>
 (ld P 22 r10.1 r10.2).bind fun r11 =>
 (b_len P #[22] 3 #[r11.1] r11.2).bind fun r12 =>
 (vl (.int .i64 0) r12.2).bind fun r13 =>
 impl_Chain_copied_l1 (ups (env0 #[x0]) [(1, r1.1), (2, r2.1), (6, r3.1), (7, r4.1), (8, r5.1), (9, r6.1), (10, r7.1), (3, r8.1), (11, r10.1), (12, r11.1), (13, r12.1), (14, r13.1)]) r13.2 := by kernel_rfl
noncomputable def spec_l2TextOk_l1 (e : Env) (w : World) : Option (Value × World) := exC P (EV P) 114 23 (.loop (cA (cA (cB (cA (cB (bodyOf P 114))))))) e w (kBlock 0 (kSeq P (EV P) 114 23 (cB (cB (bodyOf P 114))) (kFn P (fnOf P 114))))
theorem spec_l2TextOk_l1_eq (e : Env) (w : World) : spec_l2TextOk_l1 e w =
 (vl (e 3) w).bind fun r1 =>
 (vl (e 0) r1.2).bind fun r2 =>
 (b_len P #[9] 3 #[r2.1] r2.2).bind fun r3 =>
 (bo P .lss 3 (.tmp 4) (.tmp 6) r1.1 r3.1 r3.2).bind fun r4 =>
 cnd r4.1 (
 (vl (e 0) r4.2).bind fun r5 =>
 (vl (e 3) r5.2).bind fun r6 =>
 (ix P 9 r5.1 r6.1 r6.2).bind fun r7 =>
 (bo P .lss 5 (.tmp 12) (.const (.int .u8 33)) r7.1 (.int .u8 33) r7.2).bind fun r8 =>
 (vl r8.1 r8.2).bind fun r9 =>
 (gif r9.1 false (vl (e 0) r9.2) r9.2).bind fun r10 =>
 (gif r9.1 false (vl (e 3) r10.2) r10.2).bind fun r11 =>
 (gif r9.1 false (ix P 9 r10.1 r11.1 r11.2) r11.2).bind fun r12 =>
 (gif r9.1 false (bo P .gtr 5 (.tmp 17) (.const (.int .u8 126)) r12.1 (.int .u8 126) r12.2) r12.2).bind fun r13 =>
 (pickV r9.1 (.bool true) r13.1 r13.2).bind fun r14 =>
 cnd r14.1 (
 (vl (.bool false) r14.2).bind fun r15 =>
 some (r15.1, r15.2)) (
 (vl (e 3) r14.2).bind fun r16 =>
 (bo P .add 3 (.tmp 8) (.const (.int .i64 1)) r16.1 (.int .i64 1) r16.2).bind fun r17 =>
 (vl r17.1 r17.2).bind fun r18 =>
 spec_l2TextOk_l1 (ups e [(4, r1.1), (5, r2.1), (6, r3.1), (7, r4.1), (10, r5.1), (11, r6.1), (12, r7.1), (13, r8.1), (14, r9.1), (15, r10.1), (16, r11.1), (17, r12.1), (18, r13.1), (19, r14.1), (8, r16.1), (9, r17.1), (3, r18.1)]) r18.2)) (
 (vl (e 0) r4.2).bind fun r19 =>
 (b_len P #[9] 3 #[r19.1] r19.2).bind fun r20 =>
 (bo P .leq 3 (.tmp 21) (.const (.int .i64 8)) r20.1 (.int .i64 8) r20.2).bind fun r21 =>
 (vl r21.1 r21.2).bind fun r22 =>
 some (r22.1, r22.2)) := (exC_loop P (EV P) 114 23 (cA (cA (cB (cA (cB (bodyOf P 114)))))) e w (kBlock 0 (kSeq P (EV P) 114 23 (cB (cB (bodyOf P 114))) (kFn P (fnOf P 114))))).trans (by kernel_rfl)
theorem spec_l2TextOk_fn (x0 : Value) (w : World) : fnC P (EV P) 114 #[x0] w =
 (vl (.bool false) w).bind fun r1 =>
 (vl (.int .i64 0) r1.2).bind fun r2 =>
 spec_l2TextOk_l1 (ups (env0 #[x0]) [(2, r1.1), (3, r2.1)]) r2.2 := by kernel_rfl
theorem spec_l1TagOk_fn (x0 : Value) (w : World) : fnC P (EV P) 115 #[x0] w =
 (bx P 46 x0 w).bind fun r1 =>
 (vl (.bool false) r1.2).bind fun r2 =>
 (ld P 46 r1.1 r2.2).bind fun r3 =>
 (bd P 46 #[] r3.2).bind fun r4 =>
 (bo P .eql 46 (.tmp 3) (.tmp 4) r3.1 r4.1 r4.2).bind fun r5 =>
 (vl r5.1 r5.2).bind fun r6 =>
 (gif r6.1 false (fa P 46 r1.1 0 r6.2) r6.2).bind fun r7 =>
 (gif r6.1 false (ld P 3 r7.1 r7.2) r7.2).bind fun r8 =>
 (gif r6.1 false (EV P 45 #[r8.1, (.int .i64 1), (.int .i64 999)] r8.2) r8.2).bind fun r9 =>
 (gif r6.1 false (vl r9.1 r9.2) r9.2).bind fun r10 =>
 (gif r10.1 true (fa P 46 r1.1 1 r10.2) r10.2).bind fun r11 =>
 (gif r10.1 true (ld P 3 r11.1 r11.2) r11.2).bind fun r12 =>
 (gif r10.1 true (EV P 45 #[r12.1, (.int .i64 0), (.int .i64 2)] r12.2) r12.2).bind fun r13 =>
 (gif r6.1 false (pickV r10.1 r13.1 (.bool false) r13.2) r13.2).bind fun r14 =>
 (pickV r6.1 (.bool true) r14.1 r14.2).bind fun r15 =>
 (vl r15.1 r15.2).bind fun r16 =>
 some (r16.1, r16.2) := by kernel_rfl
noncomputable def spec_l1PastOk_l1 (e : Env) (w : World) : Option (Value × World) := exC P (EV P) 116 22 (.loop (cA (cA (cB (cA (cB (bodyOf P 116))))))) e w (kBlock 0 (kSeq P (EV P) 116 22 (cB (cB (bodyOf P 116))) (kFn P (fnOf P 116))))
theorem spec_l1PastOk_l1_eq (e : Env) (w : World) : spec_l1PastOk_l1 e w =
 (vl (e 3) w).bind fun r1 =>
 (fa P 35 (e 1) 0 r1.2).bind fun r2 =>
 (ld P 33 r2.1 r2.2).bind fun r3 =>
 (b_len P #[33] 3 #[r3.1] r3.2).bind fun r4 =>
 (bo P .lss 3 (.tmp 4) (.tmp 7) r1.1 r4.1 r4.2).bind fun r5 =>
 cnd r5.1 (
 (fa P 35 (e 1) 0 r5.2).bind fun r6 =>
 (ld P 33 r6.1 r6.2).bind fun r7 =>
 (vl (e 3) r7.2).bind fun r8 =>
 (ia P 33 r7.1 r8.1 r8.2).bind fun r9 =>
 (ld P 46 r9.1 r9.2).bind fun r10 =>
 (EV P 115 #[r10.1] r10.2).bind fun r11 =>
 (uo P .not r11.1 r11.2).bind fun r12 =>
 cnd r12.1 (
 (vl (.bool false) r12.2).bind fun r13 =>
 some (r13.1, r13.2)) (
 (vl (e 3) r12.2).bind fun r14 =>
 (bo P .add 3 (.tmp 9) (.const (.int .i64 1)) r14.1 (.int .i64 1) r14.2).bind fun r15 =>
 (vl r15.1 r15.2).bind fun r16 =>
 spec_l1PastOk_l1 (ups e [(4, r1.1), (5, r2.1), (6, r3.1), (7, r4.1), (8, r5.1), (11, r6.1), (12, r7.1), (13, r8.1), (14, r9.1), (15, r10.1), (16, r11.1), (17, r12.1), (9, r14.1), (10, r15.1), (3, r16.1)]) r16.2)) (
 (fa P 35 (e 1) 0 r5.2).bind fun r17 =>
 (ld P 33 r17.1 r17.2).bind fun r18 =>
 (b_len P #[33] 3 #[r18.1] r18.2).bind fun r19 =>
 (bo P .eql 3 (.tmp 20) (.const (.int .i64 4)) r19.1 (.int .i64 4) r19.2).bind fun r20 =>
 (vl r20.1 r20.2).bind fun r21 =>
 some (r21.1, r21.2)) := (exC_loop P (EV P) 116 22 (cA (cA (cB (cA (cB (bodyOf P 116)))))) e w (kBlock 0 (kSeq P (EV P) 116 22 (cB (cB (bodyOf P 116))) (kFn P (fnOf P 116))))).trans (by kernel_rfl)
theorem spec_l1PastOk_fn (x0 : Value) (w : World) : fnC P (EV P) 116 #[x0] w =
 (bx P 35 x0 w).bind fun r1 =>
 (vl (.bool false) r1.2).bind fun r2 =>
 (vl (.int .i64 0) r2.2).bind fun r3 =>
 spec_l1PastOk_l1 (ups (env0 #[x0]) [(1, r1.1), (2, r2.1), (3, r3.1)]) r3.2 := by kernel_rfl
end Go.Proofs.Ythicfemhpnnaaaa.X
