/- A part of the proof: an evaluator of the model, its laws, and contracts of functions; no condition. -/
import Derived.Test.YtcafhepclddcaaaEvT
set_option linter.unusedVariables false
set_option maxRecDepth 100000
namespace Go.Proofs.Ytcafhepclddcaaa.X
open Go Go.Ev
theorem laws_szRing_fn (x0 x1 : Value) (w : World) : fnC P (EV P) 37 #[x0, x1] w =
 (bx P 53 x0 w).bind fun r1 =>
 (vl (.int .i64 0) r1.2).bind fun r2 =>
 (fa P 53 r1.1 0 r2.2).bind fun r3 =>
 (ld P 51 r3.1 r3.2).bind fun r4 =>
 (vl x1 r4.2).bind fun r5 =>
 (EV P 67 #[r4.1, r5.1] r5.2).bind fun r6 =>
 (vl r6.1 r6.2).bind fun r7 =>
 (vl r7.1 r7.2).bind fun r8 =>
 (bo P .lss 3 (.tmp 9) (.const (.int .i64 0)) r8.1 (.int .i64 0) r8.2).bind fun r9 =>
 cnd r9.1 (
 (vl (.int .i64 (-1)) r9.2).bind fun r10 =>
 some (r10.1, r10.2)) (
 (vl r7.1 r9.2).bind fun r11 =>
 (vl r11.1 r11.2).bind fun r12 =>
 some (r12.1, r12.2)) := by kernel_rfl
theorem laws_toRing_fn (x0 : Value) (w : World) : fnC P (EV P) 39 #[x0] w =
 (bx P 53 x0 w).bind fun r1 =>
 (al P 55 r1.2).bind fun r2 =>
 (al P 55 r2.2).bind fun r3 =>
 (fa P 53 r1.1 0 r3.2).bind fun r4 =>
 (ld P 51 r4.1 r4.2).bind fun r5 =>
 (EV P 71 #[r5.1] r5.2).bind fun r6 =>
 (fa P 55 r3.1 0 r6.2).bind fun r7 =>
 (st P 51 r7.1 r6.1 r7.2).bind fun r8 =>
 (ld P 55 r3.1 r8.2).bind fun r9 =>
 (st P 55 r2.1 r9.1 r9.2).bind fun r10 =>
 ((ld P 55 r2.1 r10.2).bind fun r11 => ifP (r11.2 = r10.2) (some r11.1)).bind fun v12 =>
 some (v12, r10.2) := by kernel_rfl
theorem laws_eqRing_fn (x0 x1 : Value) (w : World) : fnC P (EV P) 41 #[x0, x1] w =
 (bx P 55 x0 w).bind fun r1 =>
 (bx P 55 x1 r1.2).bind fun r2 =>
 (vl (.bool false) r2.2).bind fun r3 =>
 (fa P 55 r1.1 0 r3.2).bind fun r4 =>
 (ld P 51 r4.1 r4.2).bind fun r5 =>
 (fa P 55 r2.1 0 r5.2).bind fun r6 =>
 (ld P 51 r6.1 r6.2).bind fun r7 =>
 (EV P 79 #[r5.1, r7.1] r7.2).bind fun r8 =>
 (uo P .not r8.1 r8.2).bind fun r9 =>
 cnd r9.1 (
 (vl (.bool false) r9.2).bind fun r10 =>
 some (r10.1, r10.2)) (
 (vl (.bool true) r9.2).bind fun r11 =>
 some (r11.1, r11.2)) := by kernel_rfl
theorem laws_markRing_fn (x0 x1 : Value) (w : World) : fnC P (EV P) 42 #[x0, x1] w =
 (bx P 55 x0 w).bind fun r1 =>
 (vl (.int .i64 0) r1.2).bind fun r2 =>
 (fa P 55 r1.1 0 r2.2).bind fun r3 =>
 (ld P 51 r3.1 r3.2).bind fun r4 =>
 (vl x1 r4.2).bind fun r5 =>
 (EV P 80 #[r4.1, r5.1] r5.2).bind fun r6 =>
 (vl r6.1 r6.2).bind fun r7 =>
 (vl r7.1 r7.2).bind fun r8 =>
 (vl r8.1 r8.2).bind fun r9 =>
 some (r9.1, r9.2) := by kernel_rfl
theorem laws_heldRing_fn (x0 x1 : Value) (w : World) : fnC P (EV P) 43 #[x0, x1] w =
 (bx P 55 x0 w).bind fun r1 =>
 (vl (.int .i64 0) r1.2).bind fun r2 =>
 (fa P 55 r1.1 0 r2.2).bind fun r3 =>
 (ld P 51 r3.1 r3.2).bind fun r4 =>
 (vl x1 r4.2).bind fun r5 =>
 (EV P 81 #[r4.1, r5.1] r5.2).bind fun r6 =>
 (vl r6.1 r6.2).bind fun r7 =>
 (vl r7.1 r7.2).bind fun r8 =>
 (bo P .lss 3 (.tmp 9) (.const (.int .i64 0)) r8.1 (.int .i64 0) r8.2).bind fun r9 =>
 cnd r9.1 (
 (vl (.int .i64 (-1)) r9.2).bind fun r10 =>
 some (r10.1, r10.2)) (
 (vl r7.1 r9.2).bind fun r11 =>
 (vl r11.1 r11.2).bind fun r12 =>
 some (r12.1, r12.2)) := by kernel_rfl
theorem spec_RingDrop_fn (x0 x1 : Value) (w : World) : fnC P (EV P) 44 #[x0, x1] w =
 (bx P 55 x0 w).bind fun r1 =>
 (al P 55 r1.2).bind fun r2 =>
 (vl (.bool false) r2.2).bind fun r3 =>
 (ld P 55 r1.1 r3.2).bind fun r4 =>
 (EV P 68 #[r4.1] r4.2).bind fun r5 =>
 (uo P .not r5.1 r5.2).bind fun r6 =>
 cnd r6.1 (
 (bd P 55 #[] r6.2).bind fun r7 =>
 (st P 55 r2.1 r7.1 r7.2).bind fun r8 =>
 (vl (.bool false) r8.2).bind fun r9 =>
 ((ld P 55 r2.1 r9.2).bind fun r10 => ifP (r10.2 = r9.2) (some r10.1)).bind fun v11 =>
 some (.tuple #[v11, r9.1], r9.2)) (
 (ld P 55 r1.1 r6.2).bind fun r12 =>
 (vl x1 r12.2).bind fun r13 =>
 (EV P 69 #[r12.1, r13.1] r13.2).bind fun r14 =>
 (vl r14.1 r14.2).bind fun r15 =>
 (xt P r15.1 0 r15.2).bind fun r16 =>
 (xt P r15.1 1 r16.2).bind fun r17 =>
 (vl r16.1 r17.2).bind fun r18 =>
 (vl r17.1 r18.2).bind fun r19 =>
 (bs P 51 0 #[] r19.2).bind fun r20 =>
 (fa P 55 r1.1 0 r20.2).bind fun r21 =>
 (ld P 51 r21.1 r21.2).bind fun r22 =>
 (vl r18.1 r22.2).bind fun r23 =>
 (sl P 51 r22.1 none (some r23.1) none r23.2).bind fun r24 =>
 (b_append P #[51, 51] 51 #[r20.1, r24.1] r24.2).bind fun r25 =>
 (vl r25.1 r25.2).bind fun r26 =>
 (vl r19.1 r26.2).bind fun r27 =>
 (uo P .not r27.1 r27.2).bind fun r28 =>
 cnd r28.1 (
 (vl r26.1 r28.2).bind fun r29 =>
 (fa P 55 r1.1 0 r29.2).bind fun r30 =>
 (ld P 51 r30.1 r30.2).bind fun r31 =>
 (vl r18.1 r31.2).bind fun r32 =>
 (sl P 51 r31.1 (some r32.1) none none r32.2).bind fun r33 =>
 (b_append P #[51, 51] 51 #[r29.1, r33.1] r33.2).bind fun r34 =>
 (bd P 55 #[(0, r34.1)] r34.2).bind fun r35 =>
 (st P 55 r2.1 r35.1 r35.2).bind fun r36 =>
 (vl (.bool false) r36.2).bind fun r37 =>
 ((ld P 55 r2.1 r37.2).bind fun r38 => ifP (r38.2 = r37.2) (some r38.1)).bind fun v39 =>
 some (.tuple #[v39, r37.1], r37.2)) (
 (vl r26.1 r28.2).bind fun r40 =>
 (fa P 55 r1.1 0 r40.2).bind fun r41 =>
 (ld P 51 r41.1 r41.2).bind fun r42 =>
 (vl r18.1 r42.2).bind fun r43 =>
 (bo P .add 3 (.tmp 37) (.const (.int .i64 1)) r43.1 (.int .i64 1) r43.2).bind fun r44 =>
 (sl P 51 r42.1 (some r44.1) none none r44.2).bind fun r45 =>
 (b_append P #[51, 51] 51 #[r40.1, r45.1] r45.2).bind fun r46 =>
 (bd P 55 #[(0, r46.1)] r46.2).bind fun r47 =>
 (st P 55 r2.1 r47.1 r47.2).bind fun r48 =>
 (vl (.bool true) r48.2).bind fun r49 =>
 ((ld P 55 r2.1 r49.2).bind fun r50 => ifP (r50.2 = r49.2) (some r50.1)).bind fun v51 =>
 some (.tuple #[v51, r49.1], r49.2))) := by kernel_rfl
theorem impl_RingDrop_fn (x0 x1 : Value) (w : World) : fnC P (EV P) 45 #[x0, x1] w =
 (bx P 55 x0 w).bind fun r1 =>
 (al P 55 r1.2).bind fun r2 =>
 (vl (.bool false) r2.2).bind fun r3 =>
 (ld P 55 r1.1 r3.2).bind fun r4 =>
 (EV P 72 #[r4.1] r4.2).bind fun r5 =>
 (uo P .not r5.1 r5.2).bind fun r6 =>
 cnd r6.1 (
 (bd P 55 #[] r6.2).bind fun r7 =>
 (st P 55 r2.1 r7.1 r7.2).bind fun r8 =>
 (vl (.bool false) r8.2).bind fun r9 =>
 ((ld P 55 r2.1 r9.2).bind fun r10 => ifP (r10.2 = r9.2) (some r10.1)).bind fun v11 =>
 some (.tuple #[v11, r9.1], r9.2)) (
 (fa P 55 r1.1 0 r6.2).bind fun r12 =>
 (ld P 51 r12.1 r12.2).bind fun r13 =>
 (vl x1 r13.2).bind fun r14 =>
 (EV P 73 #[r13.1, r14.1] r14.2).bind fun r15 =>
 (vl r15.1 r15.2).bind fun r16 =>
 (xt P r16.1 0 r16.2).bind fun r17 =>
 (xt P r16.1 1 r17.2).bind fun r18 =>
 (vl r17.1 r18.2).bind fun r19 =>
 (vl r18.1 r19.2).bind fun r20 =>
 (vl r20.1 r20.2).bind fun r21 =>
 (uo P .not r21.1 r21.2).bind fun r22 =>
 cnd r22.1 (
 (ld P 55 r1.1 r22.2).bind fun r23 =>
 (EV P 75 #[r23.1] r23.2).bind fun r24 =>
 (st P 55 r2.1 r24.1 r24.2).bind fun r25 =>
 (vl (.bool false) r25.2).bind fun r26 =>
 ((ld P 55 r2.1 r26.2).bind fun r27 => ifP (r27.2 = r26.2) (some r27.1)).bind fun v28 =>
 some (.tuple #[v28, r26.1], r26.2)) (
 (fa P 55 r1.1 0 r22.2).bind fun r29 =>
 (ld P 51 r29.1 r29.2).bind fun r30 =>
 (EV P 78 #[r30.1] r30.2).bind fun r31 =>
 (vl r19.1 r31.2).bind fun r32 =>
 (vl r19.1 r32.2).bind fun r33 =>
 (bo P .add 3 (.tmp 27) (.const (.int .i64 1)) r33.1 (.int .i64 1) r33.2).bind fun r34 =>
 (EV P 82 #[r31.1, r32.1, r34.1] r34.2).bind fun r35 =>
 (EV P 76 #[r35.1] r35.2).bind fun r36 =>
 (bd P 55 #[(0, r36.1)] r36.2).bind fun r37 =>
 (st P 55 r2.1 r37.1 r37.2).bind fun r38 =>
 (vl (.bool true) r38.2).bind fun r39 =>
 ((ld P 55 r2.1 r39.2).bind fun r40 => ifP (r40.2 = r39.2) (some r40.1)).bind fun v41 =>
 some (.tuple #[v41, r39.1], r39.2))) := by kernel_rfl
theorem spec_l1In_fn (x0 x1 x2 : Value) (w : World) : fnC P (EV P) 54 #[x0, x1, x2] w =
 (vl (.bool false) w).bind fun r1 =>
 (vl x0 r1.2).bind fun r2 =>
 (vl x1 r2.2).bind fun r3 =>
 (bo P .geq 3 (.tmp 7) (.tmp 8) r2.1 r3.1 r3.2).bind fun r4 =>
 (vl r4.1 r4.2).bind fun r5 =>
 (gif r5.1 true (vl x0 r5.2) r5.2).bind fun r6 =>
 (gif r5.1 true (vl x2 r6.2) r6.2).bind fun r7 =>
 (gif r5.1 true (bo P .leq 3 (.tmp 11) (.tmp 12) r6.1 r7.1 r7.2) r7.2).bind fun r8 =>
 (pickV r5.1 r8.1 (.bool false) r8.2).bind fun r9 =>
 (vl r9.1 r9.2).bind fun r10 =>
 some (r10.1, r10.2) := by kernel_rfl
theorem impl_within_fn (x0 x1 x2 : Value) (w : World) : fnC P (EV P) 56 #[x0, x1, x2] w =
 (vl (.bool false) w).bind fun r1 =>
 (vl x0 r1.2).bind fun r2 =>
 (vl x1 r2.2).bind fun r3 =>
 (bo P .geq 3 (.tmp 7) (.tmp 8) r2.1 r3.1 r3.2).bind fun r4 =>
 (vl r4.1 r4.2).bind fun r5 =>
 (gif r5.1 true (vl x0 r5.2) r5.2).bind fun r6 =>
 (gif r5.1 true (vl x2 r6.2) r6.2).bind fun r7 =>
 (gif r5.1 true (bo P .leq 3 (.tmp 11) (.tmp 12) r6.1 r7.1 r7.2) r7.2).bind fun r8 =>
 (pickV r5.1 r8.1 (.bool false) r8.2).bind fun r9 =>
 (vl r9.1 r9.2).bind fun r10 =>
 some (r10.1, r10.2) := by kernel_rfl
noncomputable def laws_szStringS_l1 (e : Env) (w : World) : Option (Value × World) := exC P (EV P) 67 28 (.loop (cA (cA (cB (cA (cB (cB (cB (bodyOf P 67))))))))) e w (kBlock 0 (kSeq P (EV P) 67 28 (cB (cB (cB (cB (bodyOf P 67))))) (kFn P (fnOf P 67))))
theorem laws_szStringS_l1_eq (e : Env) (w : World) : laws_szStringS_l1 e w =
 (vl (e 5) w).bind fun r1 =>
 (vl (e 0) r1.2).bind fun r2 =>
 (b_len P #[51] 3 #[r2.1] r2.2).bind fun r3 =>
 (bo P .lss 3 (.tmp 12) (.tmp 14) r1.1 r3.1 r3.2).bind fun r4 =>
 cnd r4.1 (
 (vl (e 1) r4.2).bind fun r5 =>
 (vl (e 0) r5.2).bind fun r6 =>
 (vl (e 5) r6.2).bind fun r7 =>
 (ia P 51 r6.1 r7.1 r7.2).bind fun r8 =>
 (ld P 9 r8.1 r8.2).bind fun r9 =>
 (b_len P #[9] 3 #[r9.1] r9.2).bind fun r10 =>
 (bo P .sub 3 (.tmp 18) (.tmp 23) r5.1 r10.1 r10.2).bind fun r11 =>
 (vl r11.1 r11.2).bind fun r12 =>
 (vl r12.1 r12.2).bind fun r13 =>
 (bo P .lss 3 (.tmp 25) (.const (.int .i64 0)) r13.1 (.int .i64 0) r13.2).bind fun r14 =>
 cnd r14.1 (
 (vl (.int .i64 (-1)) r14.2).bind fun r15 =>
 some (r15.1, r15.2)) (
 (vl (e 5) r14.2).bind fun r16 =>
 (bo P .add 3 (.tmp 16) (.const (.int .i64 1)) r16.1 (.int .i64 1) r16.2).bind fun r17 =>
 (vl r17.1 r17.2).bind fun r18 =>
 laws_szStringS_l1 (ups e [(12, r1.1), (13, r2.1), (14, r3.1), (15, r4.1), (18, r5.1), (19, r6.1), (20, r7.1), (21, r8.1), (22, r9.1), (23, r10.1), (24, r11.1), (1, r12.1), (25, r13.1), (26, r14.1), (16, r16.1), (17, r17.1), (5, r18.1)]) r18.2)) (
 (vl (e 1) r4.2).bind fun r19 =>
 (vl r19.1 r19.2).bind fun r20 =>
 some (r20.1, r20.2)) := (exC_loop P (EV P) 67 28 (cA (cA (cB (cA (cB (cB (cB (bodyOf P 67)))))))) e w (kBlock 0 (kSeq P (EV P) 67 28 (cB (cB (cB (cB (bodyOf P 67))))) (kFn P (fnOf P 67))))).trans (by kernel_rfl)
theorem laws_szStringS_fn (x0 x1 : Value) (w : World) : fnC P (EV P) 67 #[x0, x1] w =
 (vl (.int .i64 0) w).bind fun r1 =>
 (vl x1 r1.2).bind fun r2 =>
 (vl x0 r2.2).bind fun r3 =>
 (b_len P #[51] 3 #[r3.1] r3.2).bind fun r4 =>
 (bo P .sub 3 (.tmp 6) (.tmp 8) r2.1 r4.1 r4.2).bind fun r5 =>
 (vl r5.1 r5.2).bind fun r6 =>
 (vl r6.1 r6.2).bind fun r7 =>
 (bo P .lss 3 (.tmp 10) (.const (.int .i64 0)) r7.1 (.int .i64 0) r7.2).bind fun r8 =>
 cnd r8.1 (
 (vl (.int .i64 (-1)) r8.2).bind fun r9 =>
 some (r9.1, r9.2)) (
 (vl (.int .i64 0) r8.2).bind fun r10 =>
 laws_szStringS_l1 (ups (env0 #[x0, x1]) [(4, r1.1), (6, r2.1), (7, r3.1), (8, r4.1), (9, r5.1), (1, r6.1), (10, r7.1), (11, r8.1), (5, r10.1)]) r10.2) := by kernel_rfl
noncomputable def spec_l10Ok_l1 (e : Env) (w : World) : Option (Value × World) := exC P (EV P) 68 40 (.loop (cA (cA (cB (cA (cB (bodyOf P 68))))))) e w (kBlock 0 (kSeq P (EV P) 68 40 (cB (cB (bodyOf P 68))) (kFn P (fnOf P 68))))
theorem spec_l10Ok_l1_eq (e : Env) (w : World) : spec_l10Ok_l1 e w =
 (vl (e 3) w).bind fun r1 =>
 (fa P 55 (e 1) 0 r1.2).bind fun r2 =>
 (ld P 51 r2.1 r2.2).bind fun r3 =>
 (b_len P #[51] 3 #[r3.1] r3.2).bind fun r4 =>
 (bo P .lss 3 (.tmp 4) (.tmp 7) r1.1 r4.1 r4.2).bind fun r5 =>
 cnd r5.1 (
 (fa P 55 (e 1) 0 (dw r5.2)).bind fun r7 =>
 ifP (r7.2 = (dw r5.2)) <|
 (ld P 51 r7.1 (dw r5.2)).bind fun r8 =>
 ifP (r8.2 = (dw r5.2)) <|
 (vl (e 3) (dw r5.2)).bind fun r9 =>
 ifP (r9.2 = (dw r5.2)) <|
 (ia P 51 r8.1 r9.1 (dw r5.2)).bind fun r10 =>
 ifP (r10.2 = (dw r5.2)) <|
 (ld P 9 r10.1 (dw r5.2)).bind fun r11 =>
 ifP (r11.2 = (dw r5.2)) <|
 (EV P 70 #[r11.1] (dw r5.2)).bind fun r12 =>
 ifP (True ∧ True ∧ True ∧ True ∧ True) <|
 (uo P .not r12.1 r12.2).bind fun r13 =>
 ifP (r13.2 = r12.2) <|
 (vl r13.1 r12.2).bind fun r14 =>
 ifP (r14.2 = r12.2) <|
 (gif r14.1 false (vl (e 3) r12.2) r12.2).bind fun r15 =>
 ifP (r15.2 = r12.2) <|
 (gif r14.1 false (bo P .gtr 3 (.tmp 19) (.const (.int .i64 0)) r15.1 (.int .i64 0) r12.2) r12.2).bind fun r16 =>
 ifP (r16.2 = r12.2) <|
 (gif r14.1 false (vl r16.1 r12.2) r12.2).bind fun r17 =>
 ifP (r17.2 = r12.2) <|
 (gif r17.1 true (fa P 55 (e 1) 0 r12.2) r12.2).bind fun r18 =>
 ifP (r18.2 = r12.2) <|
 (gif r17.1 true (ld P 51 r18.1 r12.2) r12.2).bind fun r19 =>
 ifP (r19.2 = r12.2) <|
 (gif r17.1 true (vl (e 3) r12.2) r12.2).bind fun r20 =>
 ifP (r20.2 = r12.2) <|
 (gif r17.1 true (ia P 51 r19.1 r20.1 r12.2) r12.2).bind fun r21 =>
 ifP (r21.2 = r12.2) <|
 (gif r17.1 true (ld P 9 r21.1 r12.2) r12.2).bind fun r22 =>
 ifP (r22.2 = r12.2) <|
 (gif r17.1 true (fa P 55 (e 1) 0 r12.2) r12.2).bind fun r23 =>
 ifP (r23.2 = r12.2) <|
 (gif r17.1 true (ld P 51 r23.1 r12.2) r12.2).bind fun r24 =>
 ifP (r24.2 = r12.2) <|
 (gif r17.1 true (vl (e 3) r12.2) r12.2).bind fun r25 =>
 ifP (r25.2 = r12.2) <|
 (gif r17.1 true (bo P .sub 3 (.tmp 29) (.const (.int .i64 1)) r25.1 (.int .i64 1) r12.2) r12.2).bind fun r26 =>
 ifP (r26.2 = r12.2) <|
 (gif r17.1 true (ia P 51 r24.1 r26.1 r12.2) r12.2).bind fun r27 =>
 ifP (r27.2 = r12.2) <|
 (gif r17.1 true (ld P 9 r27.1 r12.2) r12.2).bind fun r28 =>
 ifP (r28.2 = r12.2) <|
 (gif r17.1 true (bo P .leq 9 (.tmp 26) (.tmp 32) r22.1 r28.1 r12.2) r12.2).bind fun r29 =>
 ifP (r29.2 = r12.2) <|
 (gif r14.1 false (pickV r17.1 r29.1 (.bool false) r12.2) r12.2).bind fun r30 =>
 ifP (r30.2 = r12.2) <|
 (pickV r14.1 (.bool true) r30.1 r12.2).bind fun r31 =>
 ifP (r31.2 = r12.2) <|
 cnd r31.1 (
 (vl (.bool false) r12.2).bind fun r32 =>
 some (r32.1, r32.2)) (
 (vl (e 3) r12.2).bind fun r33 =>
 (bo P .add 3 (.tmp 9) (.const (.int .i64 1)) r33.1 (.int .i64 1) r33.2).bind fun r34 =>
 (vl r34.1 r34.2).bind fun r35 =>
 spec_l10Ok_l1 (ups e [(4, r1.1), (5, r2.1), (6, r3.1), (7, r4.1), (8, r5.1), (11, r7.1), (12, r8.1), (13, r9.1), (14, r10.1), (15, r11.1), (16, r12.1), (17, r13.1), (18, r14.1), (19, r15.1), (20, r16.1), (21, r17.1), (22, r18.1), (23, r19.1), (24, r20.1), (25, r21.1), (26, r22.1), (27, r23.1), (28, r24.1), (29, r25.1), (30, r26.1), (31, r27.1), (32, r28.1), (33, r29.1), (34, r30.1), (35, r31.1), (9, r33.1), (10, r34.1), (3, r35.1)]) r35.2)) (
 (fa P 55 (e 1) 0 r5.2).bind fun r36 =>
 (ld P 51 r36.1 r36.2).bind fun r37 =>
 (b_len P #[51] 3 #[r37.1] r37.2).bind fun r38 =>
 (bo P .leq 3 (.tmp 38) (.const (.int .i64 6)) r38.1 (.int .i64 6) r38.2).bind fun r39 =>
 (vl r39.1 r39.2).bind fun r40 =>
 some (r40.1, r40.2)) := (exC_loop P (EV P) 68 40 (cA (cA (cB (cA (cB (bodyOf P 68)))))) e w (kBlock 0 (kSeq P (EV P) 68 40 (cB (cB (bodyOf P 68))) (kFn P (fnOf P 68))))).trans (by kernel_rfl)
theorem spec_l10Ok_fn (x0 : Value) (w : World) : fnC P (EV P) 68 #[x0] w =
 (bx P 55 x0 w).bind fun r1 =>
 (vl (.bool false) r1.2).bind fun r2 =>
 (vl (.int .i64 0) r2.2).bind fun r3 =>
 spec_l10Ok_l1 (ups (env0 #[x0]) [(1, r1.1), (2, r2.1), (3, r3.1)]) r3.2 := by kernel_rfl
noncomputable def spec_l10At_l1 (e : Env) (w : World) : Option (Value × World) := exC P (EV P) 69 38 (.loop (cA (cA (cA (cB (cB (bodyOf P 69))))))) e w (kBlock 0 (kSeq P (EV P) 69 38 (cB (cB (cB (bodyOf P 69)))) (kFn P (fnOf P 69))))
theorem spec_l10At_l1_eq (e : Env) (w : World) : spec_l10At_l1 e w =
 (vl (e 6) w).bind fun r1 =>
 (fa P 55 (e 2) 0 r1.2).bind fun r2 =>
 (ld P 51 r2.1 r2.2).bind fun r3 =>
 (b_len P #[51] 3 #[r3.1] r3.2).bind fun r4 =>
 (bo P .lss 3 (.tmp 7) (.tmp 10) r1.1 r4.1 r4.2).bind fun r5 =>
 (vl r5.1 r5.2).bind fun r6 =>
 (gif r6.1 true (fa P 55 (e 2) 0 r6.2) r6.2).bind fun r7 =>
 (gif r6.1 true (ld P 51 r7.1 r7.2) r7.2).bind fun r8 =>
 (gif r6.1 true (vl (e 6) r8.2) r8.2).bind fun r9 =>
 (gif r6.1 true (ia P 51 r8.1 r9.1 r9.2) r9.2).bind fun r10 =>
 (gif r6.1 true (ld P 9 r10.1 r10.2) r10.2).bind fun r11 =>
 (gif r6.1 true (vl (e 1) r11.2) r11.2).bind fun r12 =>
 (gif r6.1 true (bo P .lss 9 (.tmp 17) (.tmp 18) r11.1 r12.1 r12.2) r12.2).bind fun r13 =>
 (pickV r6.1 r13.1 (.bool false) r13.2).bind fun r14 =>
 cnd r14.1 (
 (vl (e 6) r14.2).bind fun r15 =>
 (bo P .add 3 (.tmp 21) (.const (.int .i64 1)) r15.1 (.int .i64 1) r15.2).bind fun r16 =>
 (vl r16.1 r16.2).bind fun r17 =>
 spec_l10At_l1 (ups e [(7, r1.1), (8, r2.1), (9, r3.1), (10, r4.1), (11, r5.1), (12, r6.1), (13, r7.1), (14, r8.1), (15, r9.1), (16, r10.1), (17, r11.1), (18, r12.1), (19, r13.1), (20, r14.1), (21, r15.1), (22, r16.1), (6, r17.1)]) r17.2) (
 (vl (e 6) (dw r14.2)).bind fun r19 =>
 ifP (r19.2 = (dw r14.2)) <|
 (vl (e 6) (dw r14.2)).bind fun r20 =>
 ifP (r20.2 = (dw r14.2)) <|
 (fa P 55 (e 2) 0 (dw r14.2)).bind fun r21 =>
 ifP (r21.2 = (dw r14.2)) <|
 (ld P 51 r21.1 (dw r14.2)).bind fun r22 =>
 ifP (r22.2 = (dw r14.2)) <|
 (b_len P #[51] 3 #[r22.1] (dw r14.2)).bind fun r23 =>
 ifP (r23.2 = (dw r14.2)) <|
 (bo P .lss 3 (.tmp 24) (.tmp 27) r20.1 r23.1 (dw r14.2)).bind fun r24 =>
 ifP (r24.2 = (dw r14.2)) <|
 (vl r24.1 (dw r14.2)).bind fun r25 =>
 ifP (r25.2 = (dw r14.2)) <|
 (gif r25.1 true (fa P 55 (e 2) 0 (dw r14.2)) (dw r14.2)).bind fun r26 =>
 ifP (r26.2 = (dw r14.2)) <|
 (gif r25.1 true (ld P 51 r26.1 (dw r14.2)) (dw r14.2)).bind fun r27 =>
 ifP (r27.2 = (dw r14.2)) <|
 (gif r25.1 true (vl (e 6) (dw r14.2)) (dw r14.2)).bind fun r28 =>
 ifP (r28.2 = (dw r14.2)) <|
 (gif r25.1 true (ia P 51 r27.1 r28.1 (dw r14.2)) (dw r14.2)).bind fun r29 =>
 ifP (r29.2 = (dw r14.2)) <|
 (gif r25.1 true (ld P 9 r29.1 (dw r14.2)) (dw r14.2)).bind fun r30 =>
 ifP (r30.2 = (dw r14.2)) <|
 (gif r25.1 true (vl (e 1) (dw r14.2)) (dw r14.2)).bind fun r31 =>
 ifP (r31.2 = (dw r14.2)) <|
 (gif r25.1 true (bo P .eql 9 (.tmp 34) (.tmp 35) r30.1 r31.1 (dw r14.2)) (dw r14.2)).bind fun r32 =>
 ifP (r32.2 = (dw r14.2)) <|
 (pickV r25.1 r32.1 (.bool false) (dw r14.2)).bind fun r33 =>
 ifP (r33.2 = (dw r14.2)) <|
 (vl r19.1 (dw r14.2)).bind fun r34 =>
 ifP (r34.2 = (dw r14.2)) <|
 (vl r33.1 (dw r14.2)).bind fun r35 =>
 ifP (r35.2 = (dw r14.2)) <|
 some (.tuple #[r34.1, r35.1], (dw r14.2))) := (exC_loop P (EV P) 69 38 (cA (cA (cA (cB (cB (bodyOf P 69)))))) e w (kBlock 0 (kSeq P (EV P) 69 38 (cB (cB (cB (bodyOf P 69)))) (kFn P (fnOf P 69))))).trans (by kernel_rfl)
theorem spec_l10At_fn (x0 x1 : Value) (w : World) : fnC P (EV P) 69 #[x0, x1] w =
 (bx P 55 x0 w).bind fun r1 =>
 (vl (.int .i64 0) r1.2).bind fun r2 =>
 (vl (.bool false) r2.2).bind fun r3 =>
 (vl (.int .i64 0) r3.2).bind fun r4 =>
 spec_l10At_l1 (ups (env0 #[x0, x1]) [(2, r1.1), (4, r2.1), (5, r3.1), (6, r4.1)]) r4.2 := by kernel_rfl
noncomputable def spec_l10Name_l1 (e : Env) (w : World) : Option (Value × World) := exC P (EV P) 70 23 (.loop (cA (cA (cB (cA (cB (bodyOf P 70))))))) e w (kBlock 0 (kSeq P (EV P) 70 23 (cB (cB (bodyOf P 70))) (kFn P (fnOf P 70))))
theorem spec_l10Name_l1_eq (e : Env) (w : World) : spec_l10Name_l1 e w =
 (vl (e 3) w).bind fun r1 =>
 (vl (e 0) r1.2).bind fun r2 =>
 (b_len P #[9] 3 #[r2.1] r2.2).bind fun r3 =>
 (bo P .lss 3 (.tmp 4) (.tmp 6) r1.1 r3.1 r3.2).bind fun r4 =>
 cnd r4.1 (
 (vl (e 0) r4.2).bind fun r5 =>
 (vl (e 3) r5.2).bind fun r6 =>
 (ix P 9 r5.1 r6.1 r6.2).bind fun r7 =>
 (bo P .lss 5 (.tmp 12) (.const (.int .u8 97)) r7.1 (.int .u8 97) r7.2).bind fun r8 =>
 (vl r8.1 r8.2).bind fun r9 =>
 (gif r9.1 false (vl (e 0) r9.2) r9.2).bind fun r10 =>
 (gif r9.1 false (vl (e 3) r10.2) r10.2).bind fun r11 =>
 (gif r9.1 false (ix P 9 r10.1 r11.1 r11.2) r11.2).bind fun r12 =>
 (gif r9.1 false (bo P .gtr 5 (.tmp 17) (.const (.int .u8 122)) r12.1 (.int .u8 122) r12.2) r12.2).bind fun r13 =>
 (pickV r9.1 (.bool true) r13.1 r13.2).bind fun r14 =>
 cnd r14.1 (
 (vl (.bool false) r14.2).bind fun r15 =>
 some (r15.1, r15.2)) (
 (vl (e 3) r14.2).bind fun r16 =>
 (bo P .add 3 (.tmp 8) (.const (.int .i64 1)) r16.1 (.int .i64 1) r16.2).bind fun r17 =>
 (vl r17.1 r17.2).bind fun r18 =>
 spec_l10Name_l1 (ups e [(4, r1.1), (5, r2.1), (6, r3.1), (7, r4.1), (10, r5.1), (11, r6.1), (12, r7.1), (13, r8.1), (14, r9.1), (15, r10.1), (16, r11.1), (17, r12.1), (18, r13.1), (19, r14.1), (8, r16.1), (9, r17.1), (3, r18.1)]) r18.2)) (
 (vl (e 0) r4.2).bind fun r19 =>
 (b_len P #[9] 3 #[r19.1] r19.2).bind fun r20 =>
 (EV P 54 #[r20.1, (.int .i64 1), (.int .i64 8)] r20.2).bind fun r21 =>
 (vl r21.1 r21.2).bind fun r22 =>
 some (r22.1, r22.2)) := (exC_loop P (EV P) 70 23 (cA (cA (cB (cA (cB (bodyOf P 70)))))) e w (kBlock 0 (kSeq P (EV P) 70 23 (cB (cB (bodyOf P 70))) (kFn P (fnOf P 70))))).trans (by kernel_rfl)
theorem spec_l10Name_fn (x0 : Value) (w : World) : fnC P (EV P) 70 #[x0] w =
 (vl (.bool false) w).bind fun r1 =>
 (vl (.int .i64 0) r1.2).bind fun r2 =>
 spec_l10Name_l1 (ups (env0 #[x0]) [(2, r1.1), (3, r2.1)]) r2.2 := by kernel_rfl
noncomputable def laws_toStringS_l1 (e : Env) (w : World) : Option (Value × World) := exC P (EV P) 71 22 (.loop (cA (cA (cB (cA (cB (cB (bodyOf P 71)))))))) e w (kBlock 0 (kSeq P (EV P) 71 22 (cB (cB (cB (bodyOf P 71)))) (kFn P (fnOf P 71))))
theorem laws_toStringS_l1_eq (e : Env) (w : World) : laws_toStringS_l1 e w =
 (vl (e 4) w).bind fun r1 =>
 (vl (e 0) r1.2).bind fun r2 =>
 (b_len P #[51] 3 #[r2.1] r2.2).bind fun r3 =>
 (bo P .lss 3 (.tmp 8) (.tmp 10) r1.1 r3.1 r3.2).bind fun r4 =>
 cnd r4.1 (
 (vl (e 3) r4.2).bind fun r5 =>
 (vl (e 4) r5.2).bind fun r6 =>
 (vl (e 0) r6.2).bind fun r7 =>
 (vl (e 4) r7.2).bind fun r8 =>
 (ia P 51 r7.1 r8.1 r8.2).bind fun r9 =>
 (ld P 9 r9.1 r9.2).bind fun r10 =>
 (ia P 51 r5.1 r6.1 r10.2).bind fun r11 =>
 (st P 9 r11.1 r10.1 r11.2).bind fun r12 =>
 (vl (e 4) r12.2).bind fun r13 =>
 (bo P .add 3 (.tmp 12) (.const (.int .i64 1)) r13.1 (.int .i64 1) r13.2).bind fun r14 =>
 (vl r14.1 r14.2).bind fun r15 =>
 laws_toStringS_l1 (ups e [(8, r1.1), (9, r2.1), (10, r3.1), (11, r4.1), (14, r5.1), (15, r6.1), (16, r7.1), (17, r8.1), (18, r9.1), (19, r10.1), (20, r11.1), (12, r13.1), (13, r14.1), (4, r15.1)]) r15.2) (
 (vl (e 3) r4.2).bind fun r16 =>
 (vl r16.1 r16.2).bind fun r17 =>
 some (r17.1, r17.2)) := (exC_loop P (EV P) 71 22 (cA (cA (cB (cA (cB (cB (bodyOf P 71))))))) e w (kBlock 0 (kSeq P (EV P) 71 22 (cB (cB (cB (bodyOf P 71)))) (kFn P (fnOf P 71))))).trans (by kernel_rfl)
theorem laws_toStringS_fn (x0 : Value) (w : World) : fnC P (EV P) 71 #[x0] w =
 (vl (Go.Value.slice none 0 0) w).bind fun r1 =>
 (vl x0 r1.2).bind fun r2 =>
 (b_len P #[51] 3 #[r2.1] r2.2).bind fun r3 =>
 (ms P 51 r3.1 r3.1 r3.2).bind fun r4 =>
 (vl r4.1 r4.2).bind fun r5 =>
 (vl (.int .i64 0) r5.2).bind fun r6 =>
 laws_toStringS_l1 (ups (env0 #[x0]) [(2, r1.1), (5, r2.1), (6, r3.1), (7, r4.1), (3, r5.1), (4, r6.1)]) r6.2 := by kernel_rfl
noncomputable def impl_RingOk_l1 (e : Env) (w : World) : Option (Value × World) := exC P (EV P) 72 35 (.loop (cA (cA (cB (cA (cB (bodyOf P 72))))))) e w (kBlock 0 (kSeq P (EV P) 72 35 (cB (cB (bodyOf P 72))) (kFn P (fnOf P 72))))
theorem impl_RingOk_l1_eq (e : Env) (w : World) : impl_RingOk_l1 e w =
 (bo P .lss 3 (.tmp 8) (.tmp 7) (e 8) (e 7) w).bind fun r1 =>
 cnd r1.1 (
 (vl (e 8) r1.2).bind fun r2 =>
 (ia P 51 (e 6) (e 8) r2.2).bind fun r3 =>
 (ld P 9 r3.1 r3.2).bind fun r4 =>
 (vl r2.1 r4.2).bind fun r5 =>
 (vl r4.1 r5.2).bind fun r6 =>
 (vl r6.1 r6.2).bind fun r7 =>
 (EV P 74 #[r7.1] r7.2).bind fun r8 =>
 (uo P .not r8.1 r8.2).bind fun r9 =>
 (vl r9.1 r9.2).bind fun r10 =>
 (gif r10.1 false (vl r5.1 r10.2) r10.2).bind fun r11 =>
 (gif r10.1 false (bo P .gtr 3 (.tmp 17) (.const (.int .i64 0)) r11.1 (.int .i64 0) r11.2) r11.2).bind fun r12 =>
 (gif r10.1 false (vl r12.1 r12.2) r12.2).bind fun r13 =>
 (gif r13.1 true (fa P 55 (e 1) 0 r13.2) r13.2).bind fun r14 =>
 (gif r13.1 true (ld P 51 r14.1 r14.2) r14.2).bind fun r15 =>
 (gif r13.1 true (vl r5.1 r15.2) r15.2).bind fun r16 =>
 (gif r13.1 true (bo P .sub 3 (.tmp 22) (.const (.int .i64 1)) r16.1 (.int .i64 1) r16.2) r16.2).bind fun r17 =>
 (gif r13.1 true (ia P 51 r15.1 r17.1 r17.2) r17.2).bind fun r18 =>
 (gif r13.1 true (ld P 9 r18.1 r18.2) r18.2).bind fun r19 =>
 (gif r13.1 true (vl r6.1 r19.2) r19.2).bind fun r20 =>
 (gif r13.1 true (bo P .geq 9 (.tmp 25) (.tmp 26) r19.1 r20.1 r20.2) r20.2).bind fun r21 =>
 (gif r10.1 false (pickV r13.1 r21.1 (.bool false) r21.2) r21.2).bind fun r22 =>
 (pickV r10.1 (.bool true) r22.1 r22.2).bind fun r23 =>
 cnd r23.1 (
 (vl (.bool false) r23.2).bind fun r24 =>
 some (r24.1, r24.2)) (
 (bo P .add 3 (.tmp 8) (.const (.int .i64 1)) (e 8) (.int .i64 1) r23.2).bind fun r25 =>
 (vl r25.1 r25.2).bind fun r26 =>
 impl_RingOk_l1 (ups e [(9, r1.1), (10, r2.1), (11, r3.1), (12, r4.1), (3, r5.1), (4, r6.1), (13, r7.1), (14, r8.1), (15, r9.1), (16, r10.1), (17, r11.1), (18, r12.1), (19, r13.1), (20, r14.1), (21, r15.1), (22, r16.1), (23, r17.1), (24, r18.1), (25, r19.1), (26, r20.1), (27, r21.1), (28, r22.1), (29, r23.1), (30, r25.1), (8, r26.1)]) r26.2)) (
 (fa P 55 (e 1) 0 r1.2).bind fun r27 =>
 (ld P 51 r27.1 r27.2).bind fun r28 =>
 (b_len P #[51] 3 #[r28.1] r28.2).bind fun r29 =>
 (bo P .leq 3 (.tmp 33) (.const (.int .i64 6)) r29.1 (.int .i64 6) r29.2).bind fun r30 =>
 (vl r30.1 r30.2).bind fun r31 =>
 some (r31.1, r31.2)) := (exC_loop P (EV P) 72 35 (cA (cA (cB (cA (cB (bodyOf P 72)))))) e w (kBlock 0 (kSeq P (EV P) 72 35 (cB (cB (bodyOf P 72))) (kFn P (fnOf P 72))))).trans (by kernel_rfl)
theorem impl_RingOk_fn (x0 : Value) (w : World) : fnC P (EV P) 72 #[x0] w =
 (bx P 55 x0 w).bind fun r1 =>
 (vl (.bool false) r1.2).bind fun r2 =>
 (fa P 55 r1.1 0 r2.2).bind fun r3 =>
 (ld P 51 r3.1 r3.2).bind fun r4 =>
 (b_len P #[51] 3 #[r4.1] r4.2).bind fun r5 =>
 (vl (.int .i64 0) r5.2).bind fun r6 =>
 impl_RingOk_l1 (ups (env0 #[x0]) [(1, r1.1), (2, r2.1), (5, r3.1), (6, r4.1), (7, r5.1), (8, r6.1)]) r6.2 := by kernel_rfl
noncomputable def slices_BinarySearch_string_l1 (e : Env) (w : World) : Option (Value × World) := exC P (EV P) 73 54 (.loop (cA (cA (cA (cB (cB (cB (bodyOf P 73)))))))) e w (kBlock 0 (kSeq P (EV P) 73 54 (cB (cB (cB (cB (bodyOf P 73))))) (kFn P (fnOf P 73))))
theorem slices_BinarySearch_string_l1_eq (e : Env) (w : World) : slices_BinarySearch_string_l1 e w =
 (vl (e 7) w).bind fun r1 =>
 (vl (e 8) r1.2).bind fun r2 =>
 (bo P .lss 3 (.tmp 13) (.tmp 14) r1.1 r2.1 r2.2).bind fun r3 =>
 cnd r3.1 (
 (vl (e 7) r3.2).bind fun r4 =>
 (vl (e 8) r4.2).bind fun r5 =>
 (bo P .add 3 (.tmp 16) (.tmp 17) r4.1 r5.1 r5.2).bind fun r6 =>
 (cv P 3 116 r6.1 r6.2).bind fun r7 =>
 (bo P .shr 116 (.tmp 19) (.const (.int .u64 1)) r7.1 (.int .u64 1) r7.2).bind fun r8 =>
 (cv P 116 3 r8.1 r8.2).bind fun r9 =>
 (vl r9.1 r9.2).bind fun r10 =>
 (vl (e 0) r10.2).bind fun r11 =>
 (vl r10.1 r11.2).bind fun r12 =>
 (ia P 51 r11.1 r12.1 r12.2).bind fun r13 =>
 (ld P 9 r13.1 r13.2).bind fun r14 =>
 (vl (e 1) r14.2).bind fun r15 =>
 (EV P 103 #[r14.1, r15.1] r15.2).bind fun r16 =>
 cnd r16.1 (
 (vl r10.1 r16.2).bind fun r17 =>
 (bo P .add 3 (.tmp 28) (.const (.int .i64 1)) r17.1 (.int .i64 1) r17.2).bind fun r18 =>
 (vl r18.1 r18.2).bind fun r19 =>
 slices_BinarySearch_string_l1 (ups e [(13, r1.1), (14, r2.1), (15, r3.1), (16, r4.1), (17, r5.1), (18, r6.1), (19, r7.1), (20, r8.1), (21, r9.1), (9, r10.1), (22, r11.1), (23, r12.1), (24, r13.1), (25, r14.1), (26, r15.1), (27, r16.1), (28, r17.1), (29, r18.1), (7, r19.1)]) r19.2) (
 (vl r10.1 r16.2).bind fun r20 =>
 (vl r20.1 r20.2).bind fun r21 =>
 slices_BinarySearch_string_l1 (ups e [(13, r1.1), (14, r2.1), (15, r3.1), (16, r4.1), (17, r5.1), (18, r6.1), (19, r7.1), (20, r8.1), (21, r9.1), (9, r10.1), (22, r11.1), (23, r12.1), (24, r13.1), (25, r14.1), (26, r15.1), (27, r16.1), (30, r20.1), (8, r21.1)]) r21.2)) (
 (vl (e 7) r3.2).bind fun r22 =>
 (vl (e 7) r22.2).bind fun r23 =>
 (vl (e 6) r23.2).bind fun r24 =>
 (bo P .lss 3 (.tmp 32) (.tmp 33) r23.1 r24.1 r24.2).bind fun r25 =>
 (vl r25.1 r25.2).bind fun r26 =>
 (gif r26.1 true (vl (e 0) r26.2) r26.2).bind fun r27 =>
 (gif r26.1 true (vl (e 7) r27.2) r27.2).bind fun r28 =>
 (gif r26.1 true (ia P 51 r27.1 r28.1 r28.2) r28.2).bind fun r29 =>
 (gif r26.1 true (ld P 9 r29.1 r29.2) r29.2).bind fun r30 =>
 (gif r26.1 true (vl (e 1) r30.2) r30.2).bind fun r31 =>
 (gif r26.1 true (bo P .eql 9 (.tmp 39) (.tmp 40) r30.1 r31.1 r31.2) r31.2).bind fun r32 =>
 (gif r26.1 true (vl r32.1 r32.2) r32.2).bind fun r33 =>
 (gif r33.1 false (vl (e 0) r33.2) r33.2).bind fun r34 =>
 (gif r33.1 false (vl (e 7) r34.2) r34.2).bind fun r35 =>
 (gif r33.1 false (ia P 51 r34.1 r35.1 r35.2) r35.2).bind fun r36 =>
 (gif r33.1 false (ld P 9 r36.1 r36.2) r36.2).bind fun r37 =>
 (gif r33.1 false (EV P 104 #[r37.1] r37.2) r37.2).bind fun r38 =>
 (gif r33.1 false (vl r38.1 r38.2) r38.2).bind fun r39 =>
 (gif r39.1 true (vl (e 1) r39.2) r39.2).bind fun r40 =>
 (gif r39.1 true (EV P 104 #[r40.1] r40.2) r40.2).bind fun r41 =>
 (gif r33.1 false (pickV r39.1 r41.1 (.bool false) r41.2) r41.2).bind fun r42 =>
 (gif r26.1 true (pickV r33.1 (.bool true) r42.1 r42.2) r42.2).bind fun r43 =>
 (pickV r26.1 r43.1 (.bool false) r43.2).bind fun r44 =>
 (vl r22.1 r44.2).bind fun r45 =>
 (vl r44.1 r45.2).bind fun r46 =>
 some (.tuple #[r45.1, r46.1], r46.2)) := (exC_loop P (EV P) 73 54 (cA (cA (cA (cB (cB (cB (bodyOf P 73))))))) e w (kBlock 0 (kSeq P (EV P) 73 54 (cB (cB (cB (cB (bodyOf P 73))))) (kFn P (fnOf P 73))))).trans (by kernel_rfl)
theorem slices_BinarySearch_string_fn (x0 x1 : Value) (w : World) : fnC P (EV P) 73 #[x0, x1] w =
 (vl (.int .i64 0) w).bind fun r1 =>
 (vl (.bool false) r1.2).bind fun r2 =>
 (vl x0 r2.2).bind fun r3 =>
 (b_len P #[51] 3 #[r3.1] r3.2).bind fun r4 =>
 (vl r4.1 r4.2).bind fun r5 =>
 (vl r5.1 r5.2).bind fun r6 =>
 (vl (.int .i64 0) r6.2).bind fun r7 =>
 (vl r6.1 r7.2).bind fun r8 =>
 slices_BinarySearch_string_l1 (ups (env0 #[x0, x1]) [(4, r1.1), (5, r2.1), (10, r3.1), (11, r4.1), (6, r5.1), (12, r6.1), (7, r7.1), (8, r8.1)]) r8.2 := by kernel_rfl
noncomputable def impl_nameOk_l1 (e : Env) (w : World) : Option (Value × World) := exC P (EV P) 74 23 (.loop (cA (cA (cB (cA (cB (bodyOf P 74))))))) e w (kBlock 0 (kSeq P (EV P) 74 23 (cB (cB (bodyOf P 74))) (kFn P (fnOf P 74))))
theorem impl_nameOk_l1_eq (e : Env) (w : World) : impl_nameOk_l1 e w =
 (bo P .lss 3 (.tmp 6) (.tmp 5) (e 6) (e 5) w).bind fun r1 =>
 cnd r1.1 (
 (vl (e 6) r1.2).bind fun r2 =>
 (vl r2.1 r2.2).bind fun r3 =>
 (vl (e 0) r3.2).bind fun r4 =>
 (vl r3.1 r4.2).bind fun r5 =>
 (ix P 9 r4.1 r5.1 r5.2).bind fun r6 =>
 (bo P .lss 5 (.tmp 11) (.const (.int .u8 97)) r6.1 (.int .u8 97) r6.2).bind fun r7 =>
 (vl r7.1 r7.2).bind fun r8 =>
 (gif r8.1 false (vl (e 0) r8.2) r8.2).bind fun r9 =>
 (gif r8.1 false (vl r3.1 r9.2) r9.2).bind fun r10 =>
 (gif r8.1 false (ix P 9 r9.1 r10.1 r10.2) r10.2).bind fun r11 =>
 (gif r8.1 false (bo P .gtr 5 (.tmp 16) (.const (.int .u8 122)) r11.1 (.int .u8 122) r11.2) r11.2).bind fun r12 =>
 (pickV r8.1 (.bool true) r12.1 r12.2).bind fun r13 =>
 cnd r13.1 (
 (vl (.bool false) r13.2).bind fun r14 =>
 some (r14.1, r14.2)) (
 (bo P .add 3 (.tmp 6) (.const (.int .i64 1)) (e 6) (.int .i64 1) r13.2).bind fun r15 =>
 (vl r15.1 r15.2).bind fun r16 =>
 impl_nameOk_l1 (ups e [(7, r1.1), (8, r2.1), (3, r3.1), (9, r4.1), (10, r5.1), (11, r6.1), (12, r7.1), (13, r8.1), (14, r9.1), (15, r10.1), (16, r11.1), (17, r12.1), (18, r13.1), (19, r15.1), (6, r16.1)]) r16.2)) (
 (vl (e 0) r1.2).bind fun r17 =>
 (b_len P #[9] 3 #[r17.1] r17.2).bind fun r18 =>
 (EV P 56 #[r18.1, (.int .i64 1), (.int .i64 8)] r18.2).bind fun r19 =>
 (vl r19.1 r19.2).bind fun r20 =>
 some (r20.1, r20.2)) := (exC_loop P (EV P) 74 23 (cA (cA (cB (cA (cB (bodyOf P 74)))))) e w (kBlock 0 (kSeq P (EV P) 74 23 (cB (cB (bodyOf P 74))) (kFn P (fnOf P 74))))).trans (by kernel_rfl)
theorem impl_nameOk_fn (x0 : Value) (w : World) : fnC P (EV P) 74 #[x0] w =
 (vl (.bool false) w).bind fun r1 =>
 (vl x0 r1.2).bind fun r2 =>
 (b_len P #[9] 3 #[r2.1] r2.2).bind fun r3 =>
 (vl (.int .i64 0) r3.2).bind fun r4 =>
 impl_nameOk_l1 (ups (env0 #[x0]) [(2, r1.1), (4, r2.1), (5, r3.1), (6, r4.1)]) r4.2 := by kernel_rfl
theorem impl_Ring_copied_fn (x0 : Value) (w : World) : fnC P (EV P) 75 #[x0] w =
 (bx P 55 x0 w).bind fun r1 =>
 (al P 55 r1.2).bind fun r2 =>
 (fa P 55 r1.1 0 r2.2).bind fun r3 =>
 (ld P 51 r3.1 r3.2).bind fun r4 =>
 (EV P 78 #[r4.1] r4.2).bind fun r5 =>
 (EV P 76 #[r5.1] r5.2).bind fun r6 =>
 (bd P 55 #[(0, r6.1)] r6.2).bind fun r7 =>
 (st P 55 r2.1 r7.1 r7.2).bind fun r8 =>
 ((ld P 55 r2.1 r8.2).bind fun r9 => ifP (r9.2 = r8.2) (some r9.1)).bind fun v10 =>
 some (v10, r8.2) := by kernel_rfl
end Go.Proofs.Ytcafhepclddcaaa.X
