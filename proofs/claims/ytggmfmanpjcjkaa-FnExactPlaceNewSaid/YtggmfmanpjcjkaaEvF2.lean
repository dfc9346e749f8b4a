/- A part of the proof: an evaluator of the model, its laws, and contracts of functions; no condition. -/
import Derived.Test.YtggmfmanpjcjkaaEvT
set_option linter.unusedVariables false
set_option maxRecDepth 100000
namespace Go.Proofs.Ytggmfmanpjcjkaa.X
open Go Go.Ev
noncomputable def laws_eqNodeS_l1 (e : Env) (w : World) : Option (Value × World) := exC P (EV P) 71 27 (.loop (cA (cA (cB (cA (cB (cB (bodyOf P 71)))))))) e w (kBlock 0 (kSeq P (EV P) 71 27 (cB (cB (cB (bodyOf P 71)))) (kFn P (fnOf P 71))))
theorem laws_eqNodeS_l1_eq (e : Env) (w : World) : laws_eqNodeS_l1 e w =
 (vl (e 5) w).bind fun r1 =>
 (vl (e 0) r1.2).bind fun r2 =>
 (b_len P #[29] 3 #[r2.1] r2.2).bind fun r3 =>
 (bo P .lss 3 (.tmp 11) (.tmp 13) r1.1 r3.1 r3.2).bind fun r4 =>
 cnd r4.1 (
 (vl (e 0) (dw r4.2)).bind fun r6 =>
 ifP (r6.2 = (dw r4.2)) <|
 (vl (e 5) (dw r4.2)).bind fun r7 =>
 ifP (r7.2 = (dw r4.2)) <|
 (ia P 29 r6.1 r7.1 (dw r4.2)).bind fun r8 =>
 ifP (r8.2 = (dw r4.2)) <|
 (ld P 73 r8.1 (dw r4.2)).bind fun r9 =>
 ifP (r9.2 = (dw r4.2)) <|
 (vl (e 1) (dw r4.2)).bind fun r10 =>
 ifP (r10.2 = (dw r4.2)) <|
 (vl (e 5) (dw r4.2)).bind fun r11 =>
 ifP (r11.2 = (dw r4.2)) <|
 (ia P 29 r10.1 r11.1 (dw r4.2)).bind fun r12 =>
 ifP (r12.2 = (dw r4.2)) <|
 (ld P 73 r12.1 (dw r4.2)).bind fun r13 =>
 ifP (r13.2 = (dw r4.2)) <|
 (EV P 93 #[r9.1, r13.1] (dw r4.2)).bind fun r14 =>
 ifP (True ∧ True ∧ True ∧ True ∧ True) <|
 (uo P .not r14.1 r14.2).bind fun r15 =>
 ifP (r15.2 = r14.2) <|
 cnd r15.1 (
 (vl (.bool false) r14.2).bind fun r16 =>
 some (r16.1, r16.2)) (
 (vl (e 5) r14.2).bind fun r17 =>
 (bo P .add 3 (.tmp 15) (.const (.int .i64 1)) r17.1 (.int .i64 1) r17.2).bind fun r18 =>
 (vl r18.1 r18.2).bind fun r19 =>
 laws_eqNodeS_l1 (ups e [(11, r1.1), (12, r2.1), (13, r3.1), (14, r4.1), (17, r6.1), (18, r7.1), (19, r8.1), (20, r9.1), (21, r10.1), (22, r11.1), (23, r12.1), (24, r13.1), (25, r14.1), (26, r15.1), (15, r17.1), (16, r18.1), (5, r19.1)]) r19.2)) (
 (vl (.bool true) r4.2).bind fun r20 =>
 some (r20.1, r20.2)) := (exC_loop P (EV P) 71 27 (cA (cA (cB (cA (cB (cB (bodyOf P 71))))))) e w (kBlock 0 (kSeq P (EV P) 71 27 (cB (cB (cB (bodyOf P 71)))) (kFn P (fnOf P 71))))).trans (by kernel_rfl)
theorem laws_eqNodeS_fn (x0 x1 : Value) (w : World) : fnC P (EV P) 71 #[x0, x1] w =
 (vl (.bool false) w).bind fun r1 =>
 (vl x0 r1.2).bind fun r2 =>
 (b_len P #[29] 3 #[r2.1] r2.2).bind fun r3 =>
 (vl x1 r3.2).bind fun r4 =>
 (b_len P #[29] 3 #[r4.1] r4.2).bind fun r5 =>
 (bo P .neq 3 (.tmp 7) (.tmp 9) r3.1 r5.1 r5.2).bind fun r6 =>
 cnd r6.1 (
 (vl (.bool false) r6.2).bind fun r7 =>
 some (r7.1, r7.2)) (
 (vl (.int .i64 0) r6.2).bind fun r8 =>
 laws_eqNodeS_l1 (ups (env0 #[x0, x1]) [(4, r1.1), (6, r2.1), (7, r3.1), (8, r4.1), (9, r5.1), (10, r6.1), (5, r8.1)]) r8.2) := by kernel_rfl
noncomputable def laws_markNodeS_l1 (e : Env) (w : World) : Option (Value × World) := exC P (EV P) 72 28 (.loop (cA (cA (cB (cA (cB (bodyOf P 72))))))) e w (kBlock 0 (kSeq P (EV P) 72 28 (cB (cB (bodyOf P 72))) (kFn P (fnOf P 72))))
theorem laws_markNodeS_l1_eq (e : Env) (w : World) : laws_markNodeS_l1 e w =
 (vl (e 5) w).bind fun r1 =>
 (vl (e 0) r1.2).bind fun r2 =>
 (b_len P #[29] 3 #[r2.1] r2.2).bind fun r3 =>
 (bo P .lss 3 (.tmp 6) (.tmp 8) r1.1 r3.1 r3.2).bind fun r4 =>
 cnd r4.1 (
 (vl (e 0) r4.2).bind fun r5 =>
 (vl (e 5) r5.2).bind fun r6 =>
 (ia P 29 r5.1 r6.1 r6.2).bind fun r7 =>
 (fa P 73 r7.1 0 r7.2).bind fun r8 =>
 (fa P 24 r8.1 0 r8.2).bind fun r9 =>
 (ld P 22 r9.1 r9.2).bind fun r10 =>
 (vl (e 1) r10.2).bind fun r11 =>
 (EV P 27 #[r10.1, r11.1] r11.2).bind fun r12 =>
 (vl r12.1 r12.2).bind fun r13 =>
 (vl (e 0) r13.2).bind fun r14 =>
 (vl (e 5) r14.2).bind fun r15 =>
 (ia P 29 r14.1 r15.1 r15.2).bind fun r16 =>
 (fa P 73 r16.1 1 r16.2).bind fun r17 =>
 (ld P 22 r17.1 r17.2).bind fun r18 =>
 (vl r13.1 r18.2).bind fun r19 =>
 (EV P 27 #[r18.1, r19.1] r19.2).bind fun r20 =>
 (vl r20.1 r20.2).bind fun r21 =>
 (vl (e 5) r21.2).bind fun r22 =>
 (bo P .add 3 (.tmp 10) (.const (.int .i64 1)) r22.1 (.int .i64 1) r22.2).bind fun r23 =>
 (vl r23.1 r23.2).bind fun r24 =>
 laws_markNodeS_l1 (ups e [(6, r1.1), (7, r2.1), (8, r3.1), (9, r4.1), (12, r5.1), (13, r6.1), (14, r7.1), (15, r8.1), (16, r9.1), (17, r10.1), (18, r11.1), (19, r12.1), (1, r13.1), (20, r14.1), (21, r15.1), (22, r16.1), (23, r17.1), (24, r18.1), (25, r19.1), (26, r20.1), (1, r21.1), (10, r22.1), (11, r23.1), (5, r24.1)]) r24.2) (
 (vl (e 1) r4.2).bind fun r25 =>
 (vl r25.1 r25.2).bind fun r26 =>
 some (r26.1, r26.2)) := (exC_loop P (EV P) 72 28 (cA (cA (cB (cA (cB (bodyOf P 72)))))) e w (kBlock 0 (kSeq P (EV P) 72 28 (cB (cB (bodyOf P 72))) (kFn P (fnOf P 72))))).trans (by kernel_rfl)
theorem laws_markNodeS_fn (x0 x1 : Value) (w : World) : fnC P (EV P) 72 #[x0, x1] w =
 (vl (.int .i64 0) w).bind fun r1 =>
 (vl (.int .i64 0) r1.2).bind fun r2 =>
 laws_markNodeS_l1 (ups (env0 #[x0, x1]) [(4, r1.1), (5, r2.1)]) r2.2 := by kernel_rfl
noncomputable def laws_heldNodeS_l1 (e : Env) (w : World) : Option (Value × World) := exC P (EV P) 73 32 (.loop (cA (cA (cB (cA (cB (bodyOf P 73))))))) e w (kBlock 0 (kSeq P (EV P) 73 32 (cB (cB (bodyOf P 73))) (kFn P (fnOf P 73))))
theorem laws_heldNodeS_l1_eq (e : Env) (w : World) : laws_heldNodeS_l1 e w =
 (vl (e 5) w).bind fun r1 =>
 (vl (e 0) r1.2).bind fun r2 =>
 (b_len P #[29] 3 #[r2.1] r2.2).bind fun r3 =>
 (bo P .lss 3 (.tmp 6) (.tmp 8) r1.1 r3.1 r3.2).bind fun r4 =>
 cnd r4.1 (
 (vl (e 0) r4.2).bind fun r5 =>
 (vl (e 5) r5.2).bind fun r6 =>
 (ia P 29 r5.1 r6.1 r6.2).bind fun r7 =>
 (fa P 73 r7.1 0 r7.2).bind fun r8 =>
 (fa P 24 r8.1 0 r8.2).bind fun r9 =>
 (ld P 22 r9.1 r9.2).bind fun r10 =>
 (vl (e 1) r10.2).bind fun r11 =>
 (EV P 28 #[r10.1, r11.1] r11.2).bind fun r12 =>
 (vl r12.1 r12.2).bind fun r13 =>
 (vl r13.1 r13.2).bind fun r14 =>
 (bo P .lss 3 (.tmp 20) (.const (.int .i64 0)) r14.1 (.int .i64 0) r14.2).bind fun r15 =>
 cnd r15.1 (
 (vl (.int .i64 (-1)) r15.2).bind fun r16 =>
 some (r16.1, r16.2)) (
 (vl (e 0) r15.2).bind fun r17 =>
 (vl (e 5) r17.2).bind fun r18 =>
 (ia P 29 r17.1 r18.1 r18.2).bind fun r19 =>
 (fa P 73 r19.1 1 r19.2).bind fun r20 =>
 (ld P 22 r20.1 r20.2).bind fun r21 =>
 (vl r13.1 r21.2).bind fun r22 =>
 (EV P 28 #[r21.1, r22.1] r22.2).bind fun r23 =>
 (vl r23.1 r23.2).bind fun r24 =>
 (vl r24.1 r24.2).bind fun r25 =>
 (bo P .lss 3 (.tmp 29) (.const (.int .i64 0)) r25.1 (.int .i64 0) r25.2).bind fun r26 =>
 cnd r26.1 (
 (vl (.int .i64 (-1)) r26.2).bind fun r27 =>
 some (r27.1, r27.2)) (
 (vl (e 5) r26.2).bind fun r28 =>
 (bo P .add 3 (.tmp 10) (.const (.int .i64 1)) r28.1 (.int .i64 1) r28.2).bind fun r29 =>
 (vl r29.1 r29.2).bind fun r30 =>
 laws_heldNodeS_l1 (ups e [(6, r1.1), (7, r2.1), (8, r3.1), (9, r4.1), (12, r5.1), (13, r6.1), (14, r7.1), (15, r8.1), (16, r9.1), (17, r10.1), (18, r11.1), (19, r12.1), (1, r13.1), (20, r14.1), (21, r15.1), (22, r17.1), (23, r18.1), (24, r19.1), (25, r20.1), (26, r21.1), (27, r22.1), (28, r23.1), (1, r24.1), (29, r25.1), (30, r26.1), (10, r28.1), (11, r29.1), (5, r30.1)]) r30.2))) (
 (vl (e 1) r4.2).bind fun r31 =>
 (vl r31.1 r31.2).bind fun r32 =>
 some (r32.1, r32.2)) := (exC_loop P (EV P) 73 32 (cA (cA (cB (cA (cB (bodyOf P 73)))))) e w (kBlock 0 (kSeq P (EV P) 73 32 (cB (cB (bodyOf P 73))) (kFn P (fnOf P 73))))).trans (by kernel_rfl)
theorem laws_heldNodeS_fn (x0 x1 : Value) (w : World) : fnC P (EV P) 73 #[x0, x1] w =
 (vl (.int .i64 0) w).bind fun r1 =>
 (vl (.int .i64 0) r1.2).bind fun r2 =>
 laws_heldNodeS_l1 (ups (env0 #[x0, x1]) [(4, r1.1), (5, r2.1)]) r2.2 := by kernel_rfl
theorem laws_eqTag_fn (x0 x1 : Value) (w : World) : fnC P (EV P) 91 #[x0, x1] w =
 (bx P 76 x0 w).bind fun r1 =>
 (bx P 76 x1 r1.2).bind fun r2 =>
 (vl (.bool false) r2.2).bind fun r3 =>
 (fa P 76 r1.1 0 r3.2).bind fun r4 =>
 (ld P 3 r4.1 r4.2).bind fun r5 =>
 (fa P 76 r2.1 0 r5.2).bind fun r6 =>
 (ld P 3 r6.1 r6.2).bind fun r7 =>
 (bo P .neq 3 (.tmp 6) (.tmp 8) r5.1 r7.1 r7.2).bind fun r8 =>
 cnd r8.1 (
 (vl (.bool false) r8.2).bind fun r9 =>
 some (r9.1, r9.2)) (
 (fa P 76 r1.1 1 r8.2).bind fun r10 =>
 (ld P 3 r10.1 r10.2).bind fun r11 =>
 (fa P 76 r2.1 1 r11.2).bind fun r12 =>
 (ld P 3 r12.1 r12.2).bind fun r13 =>
 (bo P .neq 3 (.tmp 11) (.tmp 13) r11.1 r13.1 r13.2).bind fun r14 =>
 cnd r14.1 (
 (vl (.bool false) r14.2).bind fun r15 =>
 some (r15.1, r15.2)) (
 (vl (.bool true) r14.2).bind fun r16 =>
 some (r16.1, r16.2))) := by kernel_rfl
theorem laws_eqPast_fn (x0 x1 : Value) (w : World) : fnC P (EV P) 92 #[x0, x1] w =
 (bx P 70 x0 w).bind fun r1 =>
 (bx P 70 x1 r1.2).bind fun r2 =>
 (vl (.bool false) r2.2).bind fun r3 =>
 (fa P 70 r1.1 0 r3.2).bind fun r4 =>
 (ld P 68 r4.1 r4.2).bind fun r5 =>
 (fa P 70 r2.1 0 r5.2).bind fun r6 =>
 (ld P 68 r6.1 r6.2).bind fun r7 =>
 (EV P 105 #[r5.1, r7.1] r7.2).bind fun r8 =>
 (uo P .not r8.1 r8.2).bind fun r9 =>
 cnd r9.1 (
 (vl (.bool false) r9.2).bind fun r10 =>
 some (r10.1, r10.2)) (
 (vl (.bool true) r9.2).bind fun r11 =>
 some (r11.1, r11.2)) := by kernel_rfl
theorem laws_eqNode_fn (x0 x1 : Value) (w : World) : fnC P (EV P) 93 #[x0, x1] w =
 (bx P 73 x0 w).bind fun r1 =>
 (bx P 73 x1 r1.2).bind fun r2 =>
 (vl (.bool false) r2.2).bind fun r3 =>
 (fa P 73 r1.1 0 r3.2).bind fun r4 =>
 (ld P 24 r4.1 r4.2).bind fun r5 =>
 (fa P 73 r2.1 0 r5.2).bind fun r6 =>
 (ld P 24 r6.1 r6.2).bind fun r7 =>
 (EV P 9 #[r5.1, r7.1] r7.2).bind fun r8 =>
 (uo P .not r8.1 r8.2).bind fun r9 =>
 cnd r9.1 (
 (vl (.bool false) r9.2).bind fun r10 =>
 some (r10.1, r10.2)) (
 (fa P 73 r1.1 1 r9.2).bind fun r11 =>
 (ld P 22 r11.1 r11.2).bind fun r12 =>
 (fa P 73 r2.1 1 r12.2).bind fun r13 =>
 (ld P 22 r13.1 r13.2).bind fun r14 =>
 (EV P 26 #[r12.1, r14.1] r14.2).bind fun r15 =>
 (uo P .not r15.1 r15.2).bind fun r16 =>
 cnd r16.1 (
 (vl (.bool false) r16.2).bind fun r17 =>
 some (r17.1, r17.2)) (
 (vl (.bool true) r16.2).bind fun r18 =>
 some (r18.1, r18.2))) := by kernel_rfl
noncomputable def laws_eqTagS_l1 (e : Env) (w : World) : Option (Value × World) := exC P (EV P) 105 27 (.loop (cA (cA (cB (cA (cB (cB (bodyOf P 105)))))))) e w (kBlock 0 (kSeq P (EV P) 105 27 (cB (cB (cB (bodyOf P 105)))) (kFn P (fnOf P 105))))
theorem laws_eqTagS_l1_eq (e : Env) (w : World) : laws_eqTagS_l1 e w =
 (vl (e 5) w).bind fun r1 =>
 (vl (e 0) r1.2).bind fun r2 =>
 (b_len P #[68] 3 #[r2.1] r2.2).bind fun r3 =>
 (bo P .lss 3 (.tmp 11) (.tmp 13) r1.1 r3.1 r3.2).bind fun r4 =>
 cnd r4.1 (
 (vl (e 0) (dw r4.2)).bind fun r6 =>
 ifP (r6.2 = (dw r4.2)) <|
 (vl (e 5) (dw r4.2)).bind fun r7 =>
 ifP (r7.2 = (dw r4.2)) <|
 (ia P 68 r6.1 r7.1 (dw r4.2)).bind fun r8 =>
 ifP (r8.2 = (dw r4.2)) <|
 (ld P 76 r8.1 (dw r4.2)).bind fun r9 =>
 ifP (r9.2 = (dw r4.2)) <|
 (vl (e 1) (dw r4.2)).bind fun r10 =>
 ifP (r10.2 = (dw r4.2)) <|
 (vl (e 5) (dw r4.2)).bind fun r11 =>
 ifP (r11.2 = (dw r4.2)) <|
 (ia P 68 r10.1 r11.1 (dw r4.2)).bind fun r12 =>
 ifP (r12.2 = (dw r4.2)) <|
 (ld P 76 r12.1 (dw r4.2)).bind fun r13 =>
 ifP (r13.2 = (dw r4.2)) <|
 (EV P 91 #[r9.1, r13.1] (dw r4.2)).bind fun r14 =>
 ifP (True ∧ True ∧ True ∧ True ∧ True) <|
 (uo P .not r14.1 r14.2).bind fun r15 =>
 ifP (r15.2 = r14.2) <|
 cnd r15.1 (
 (vl (.bool false) r14.2).bind fun r16 =>
 some (r16.1, r16.2)) (
 (vl (e 5) r14.2).bind fun r17 =>
 (bo P .add 3 (.tmp 15) (.const (.int .i64 1)) r17.1 (.int .i64 1) r17.2).bind fun r18 =>
 (vl r18.1 r18.2).bind fun r19 =>
 laws_eqTagS_l1 (ups e [(11, r1.1), (12, r2.1), (13, r3.1), (14, r4.1), (17, r6.1), (18, r7.1), (19, r8.1), (20, r9.1), (21, r10.1), (22, r11.1), (23, r12.1), (24, r13.1), (25, r14.1), (26, r15.1), (15, r17.1), (16, r18.1), (5, r19.1)]) r19.2)) (
 (vl (.bool true) r4.2).bind fun r20 =>
 some (r20.1, r20.2)) := (exC_loop P (EV P) 105 27 (cA (cA (cB (cA (cB (cB (bodyOf P 105))))))) e w (kBlock 0 (kSeq P (EV P) 105 27 (cB (cB (cB (bodyOf P 105)))) (kFn P (fnOf P 105))))).trans (by kernel_rfl)
theorem laws_eqTagS_fn (x0 x1 : Value) (w : World) : fnC P (EV P) 105 #[x0, x1] w =
 (vl (.bool false) w).bind fun r1 =>
 (vl x0 r1.2).bind fun r2 =>
 (b_len P #[68] 3 #[r2.1] r2.2).bind fun r3 =>
 (vl x1 r3.2).bind fun r4 =>
 (b_len P #[68] 3 #[r4.1] r4.2).bind fun r5 =>
 (bo P .neq 3 (.tmp 7) (.tmp 9) r3.1 r5.1 r5.2).bind fun r6 =>
 cnd r6.1 (
 (vl (.bool false) r6.2).bind fun r7 =>
 some (r7.1, r7.2)) (
 (vl (.int .i64 0) r6.2).bind fun r8 =>
 laws_eqTagS_l1 (ups (env0 #[x0, x1]) [(4, r1.1), (6, r2.1), (7, r3.1), (8, r4.1), (9, r5.1), (10, r6.1), (5, r8.1)]) r8.2) := by kernel_rfl
end Go.Proofs.Ytggmfmanpjcjkaa.X
