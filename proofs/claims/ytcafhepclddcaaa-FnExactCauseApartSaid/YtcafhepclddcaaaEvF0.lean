/- A part of the proof: an evaluator of the model, its laws, and contracts of functions; no condition. -/
import Derived.Test.YtcafhepclddcaaaEvT
set_option linter.unusedVariables false
set_option maxRecDepth 100000
namespace Go.Proofs.Ytcafhepclddcaaa.X
open Go Go.Ev
theorem laws_FnExactCauseApart_fn (x0 x1 : Value) (w : World) : fnC P (EV P) 9 #[x0, x1] w =
 (bx P 39 x1 w).bind fun r1 =>
 (vl (.bool false) r1.2).bind fun r2 =>
 (vl (.int .i64 1048576) r2.2).bind fun r3 =>
 (vl x0 r3.2).bind fun r4 =>
 (vl r3.1 r4.2).bind fun r5 =>
 (EV P 12 #[r4.1, r5.1] r5.2).bind fun r6 =>
 (vl r6.1 r6.2).bind fun r7 =>
 (vl r7.1 r7.2).bind fun r8 =>
 (bo P .lss 3 (.tmp 12) (.const (.int .i64 0)) r8.1 (.int .i64 0) r8.2).bind fun r9 =>
 cnd r9.1 (
 (vl (.bool true) r9.2).bind fun r10 =>
 some (r10.1, r10.2)) (
 (vl x0 (dw r9.2)).bind fun r12 =>
 ifP (r12.2 = (dw r9.2)) <|
 (ld P 39 r1.1 (dw r9.2)).bind fun r13 =>
 ifP (r13.2 = (dw r9.2)) <|
 (EV P 14 #[r12.1] (dw r9.2)).bind fun r14 =>
 ifP (ld P 39 r1.1 r14.2 = some (r13.1, r14.2) ∧ True) <|
 (EV P 26 #[r13.1] r14.2).bind fun r15 =>
 ifP (True ∧ True) <|
 (EV P 35 #[r14.1, r15.1] r15.2).bind fun r16 =>
 ifP (True ∧ True) <|
 (vl r16.1 r16.2).bind fun r17 =>
 ifP (r17.2 = r16.2) <|
 (vl x0 r16.2).bind fun r18 =>
 (EV P 14 #[r18.1] r18.2).bind fun r19 =>
 (vl r19.1 r19.2).bind fun r20 =>
 (vl r20.1 r20.2).bind fun r21 =>
 (ld P 39 r1.1 r21.2).bind fun r22 =>
 (EV P 26 #[r22.1] r22.2).bind fun r23 =>
 (EV P 36 #[r21.1, r23.1] r23.2).bind fun r24 =>
 (vl r24.1 r24.2).bind fun r25 =>
 (vl r25.1 r25.2).bind fun r26 =>
 (vl r17.1 r26.2).bind fun r27 =>
 (bo P .neq 3 (.tmp 25) (.tmp 26) r26.1 r27.1 r27.2).bind fun r28 =>
 cnd r28.1 (
 (vl (.bool false) r28.2).bind fun r29 =>
 some (r29.1, r29.2)) (
 (vl r20.1 r28.2).bind fun r30 =>
 (vl x0 r30.2).bind fun r31 =>
 (EV P 14 #[r31.1] r31.2).bind fun r32 =>
 (EV P 16 #[r30.1, r32.1] r32.2).bind fun r33 =>
 (uo P .not r33.1 r33.2).bind fun r34 =>
 cnd r34.1 (
 (vl (.bool false) r34.2).bind fun r35 =>
 some (r35.1, r35.2)) (
 (vl (.bool true) r34.2).bind fun r36 =>
 some (r36.1, r36.2)))) := by kernel_rfl
theorem laws_szDoneS_fn (x0 x1 : Value) (w : World) : fnC P (EV P) 12 #[x0, x1] w =
 (vl (.int .i64 0) w).bind fun r1 =>
 (vl x1 r1.2).bind fun r2 =>
 (vl x0 r2.2).bind fun r3 =>
 (b_len P #[22] 3 #[r3.1] r3.2).bind fun r4 =>
 (bo P .sub 3 (.tmp 5) (.tmp 7) r2.1 r4.1 r4.2).bind fun r5 =>
 (vl r5.1 r5.2).bind fun r6 =>
 (vl r6.1 r6.2).bind fun r7 =>
 (bo P .lss 3 (.tmp 9) (.const (.int .i64 0)) r7.1 (.int .i64 0) r7.2).bind fun r8 =>
 cnd r8.1 (
 (vl (.int .i64 (-1)) r8.2).bind fun r9 =>
 some (r9.1, r9.2)) (
 (vl r6.1 r8.2).bind fun r10 =>
 (vl r10.1 r10.2).bind fun r11 =>
 some (r11.1, r11.2)) := by kernel_rfl
noncomputable def laws_toDoneS_l1 (e : Env) (w : World) : Option (Value × World) := exC P (EV P) 14 23 (.loop (cA (cA (cB (cA (cB (cB (bodyOf P 14)))))))) e w (kBlock 0 (kSeq P (EV P) 14 23 (cB (cB (cB (bodyOf P 14)))) (kFn P (fnOf P 14))))
theorem laws_toDoneS_l1_eq (e : Env) (w : World) : laws_toDoneS_l1 e w =
 (vl (e 4) w).bind fun r1 =>
 (vl (e 0) r1.2).bind fun r2 =>
 (b_len P #[22] 3 #[r2.1] r2.2).bind fun r3 =>
 (bo P .lss 3 (.tmp 8) (.tmp 10) r1.1 r3.1 r3.2).bind fun r4 =>
 cnd r4.1 (
 (vl (e 3) r4.2).bind fun r5 =>
 (vl (e 4) r5.2).bind fun r6 =>
 (vl (e 0) r6.2).bind fun r7 =>
 (vl (e 4) r7.2).bind fun r8 =>
 (ia P 22 r7.1 r8.1 r8.2).bind fun r9 =>
 (ld P 69 r9.1 r9.2).bind fun r10 =>
 (EV P 48 #[r10.1] r10.2).bind fun r11 =>
 (ia P 25 r5.1 r6.1 r11.2).bind fun r12 =>
 (st P 66 r12.1 r11.1 r12.2).bind fun r13 =>
 (vl (e 4) r13.2).bind fun r14 =>
 (bo P .add 3 (.tmp 12) (.const (.int .i64 1)) r14.1 (.int .i64 1) r14.2).bind fun r15 =>
 (vl r15.1 r15.2).bind fun r16 =>
 laws_toDoneS_l1 (ups e [(8, r1.1), (9, r2.1), (10, r3.1), (11, r4.1), (14, r5.1), (15, r6.1), (16, r7.1), (17, r8.1), (18, r9.1), (19, r10.1), (20, r11.1), (21, r12.1), (12, r14.1), (13, r15.1), (4, r16.1)]) r16.2) (
 (vl (e 3) r4.2).bind fun r17 =>
 (vl r17.1 r17.2).bind fun r18 =>
 some (r18.1, r18.2)) := (exC_loop P (EV P) 14 23 (cA (cA (cB (cA (cB (cB (bodyOf P 14))))))) e w (kBlock 0 (kSeq P (EV P) 14 23 (cB (cB (cB (bodyOf P 14)))) (kFn P (fnOf P 14))))).trans (by kernel_rfl)
theorem laws_toDoneS_fn (x0 : Value) (w : World) : fnC P (EV P) 14 #[x0] w =
 (vl (Go.Value.slice none 0 0) w).bind fun r1 =>
 (vl x0 r1.2).bind fun r2 =>
 (b_len P #[22] 3 #[r2.1] r2.2).bind fun r3 =>
 (ms P 25 r3.1 r3.1 r3.2).bind fun r4 =>
 (vl r4.1 r4.2).bind fun r5 =>
 (vl (.int .i64 0) r5.2).bind fun r6 =>
 laws_toDoneS_l1 (ups (env0 #[x0]) [(2, r1.1), (5, r2.1), (6, r3.1), (7, r4.1), (3, r5.1), (4, r6.1)]) r6.2 := by kernel_rfl
noncomputable def laws_eqDoneS_l1 (e : Env) (w : World) : Option (Value × World) := exC P (EV P) 16 27 (.loop (cA (cA (cB (cA (cB (cB (bodyOf P 16)))))))) e w (kBlock 0 (kSeq P (EV P) 16 27 (cB (cB (cB (bodyOf P 16)))) (kFn P (fnOf P 16))))
theorem laws_eqDoneS_l1_eq (e : Env) (w : World) : laws_eqDoneS_l1 e w =
 (vl (e 5) w).bind fun r1 =>
 (vl (e 0) r1.2).bind fun r2 =>
 (b_len P #[25] 3 #[r2.1] r2.2).bind fun r3 =>
 (bo P .lss 3 (.tmp 11) (.tmp 13) r1.1 r3.1 r3.2).bind fun r4 =>
 cnd r4.1 (
 (vl (e 0) (dw r4.2)).bind fun r6 =>
 ifP (r6.2 = (dw r4.2)) <|
 (vl (e 5) (dw r4.2)).bind fun r7 =>
 ifP (r7.2 = (dw r4.2)) <|
 (ia P 25 r6.1 r7.1 (dw r4.2)).bind fun r8 =>
 ifP (r8.2 = (dw r4.2)) <|
 (ld P 66 r8.1 (dw r4.2)).bind fun r9 =>
 ifP (r9.2 = (dw r4.2)) <|
 (vl (e 1) (dw r4.2)).bind fun r10 =>
 ifP (r10.2 = (dw r4.2)) <|
 (vl (e 5) (dw r4.2)).bind fun r11 =>
 ifP (r11.2 = (dw r4.2)) <|
 (ia P 25 r10.1 r11.1 (dw r4.2)).bind fun r12 =>
 ifP (r12.2 = (dw r4.2)) <|
 (ld P 66 r12.1 (dw r4.2)).bind fun r13 =>
 ifP (r13.2 = (dw r4.2)) <|
 (EV P 51 #[r9.1, r13.1] (dw r4.2)).bind fun r14 =>
 ifP (True ∧ True ∧ True ∧ True ∧ True) <|
 (uo P .not r14.1 r14.2).bind fun r15 =>
 ifP (r15.2 = r14.2) <|
 cnd r15.1 (
 (vl (.bool false) r14.2).bind fun r16 =>
 some (r16.1, r16.2)) (
 (vl (e 5) r14.2).bind fun r17 =>
 (bo P .add 3 (.tmp 15) (.const (.int .i64 1)) r17.1 (.int .i64 1) r17.2).bind fun r18 =>
 (vl r18.1 r18.2).bind fun r19 =>
 laws_eqDoneS_l1 (ups e [(11, r1.1), (12, r2.1), (13, r3.1), (14, r4.1), (17, r6.1), (18, r7.1), (19, r8.1), (20, r9.1), (21, r10.1), (22, r11.1), (23, r12.1), (24, r13.1), (25, r14.1), (26, r15.1), (15, r17.1), (16, r18.1), (5, r19.1)]) r19.2)) (
 (vl (.bool true) r4.2).bind fun r20 =>
 some (r20.1, r20.2)) := (exC_loop P (EV P) 16 27 (cA (cA (cB (cA (cB (cB (bodyOf P 16))))))) e w (kBlock 0 (kSeq P (EV P) 16 27 (cB (cB (cB (bodyOf P 16)))) (kFn P (fnOf P 16))))).trans (by kernel_rfl)
theorem laws_eqDoneS_fn (x0 x1 : Value) (w : World) : fnC P (EV P) 16 #[x0, x1] w =
 (vl (.bool false) w).bind fun r1 =>
 (vl x0 r1.2).bind fun r2 =>
 (b_len P #[25] 3 #[r2.1] r2.2).bind fun r3 =>
 (vl x1 r3.2).bind fun r4 =>
 (b_len P #[25] 3 #[r4.1] r4.2).bind fun r5 =>
 (bo P .neq 3 (.tmp 7) (.tmp 9) r3.1 r5.1 r5.2).bind fun r6 =>
 cnd r6.1 (
 (vl (.bool false) r6.2).bind fun r7 =>
 some (r7.1, r7.2)) (
 (vl (.int .i64 0) r6.2).bind fun r8 =>
 laws_eqDoneS_l1 (ups (env0 #[x0, x1]) [(4, r1.1), (6, r2.1), (7, r3.1), (8, r4.1), (9, r5.1), (10, r6.1), (5, r8.1)]) r8.2) := by kernel_rfl
theorem laws_toTag_fn (x0 : Value) (w : World) : fnC P (EV P) 26 #[x0] w =
 (bx P 39 x0 w).bind fun r1 =>
 (al P 42 r1.2).bind fun r2 =>
 (al P 42 r2.2).bind fun r3 =>
 (fa P 39 r1.1 0 r3.2).bind fun r4 =>
 (ld P 3 r4.1 r4.2).bind fun r5 =>
 (fa P 42 r3.1 0 r5.2).bind fun r6 =>
 (st P 3 r6.1 r5.1 r6.2).bind fun r7 =>
 (fa P 39 r1.1 1 r7.2).bind fun r8 =>
 (ld P 3 r8.1 r8.2).bind fun r9 =>
 (fa P 42 r3.1 1 r9.2).bind fun r10 =>
 (st P 3 r10.1 r9.1 r10.2).bind fun r11 =>
 (ld P 42 r3.1 r11.2).bind fun r12 =>
 (st P 42 r2.1 r12.1 r12.2).bind fun r13 =>
 ((ld P 42 r2.1 r13.2).bind fun r14 => ifP (r14.2 = r13.2) (some r14.1)).bind fun v15 =>
 some (v15, r13.2) := by kernel_rfl
end Go.Proofs.Ytcafhepclddcaaa.X
