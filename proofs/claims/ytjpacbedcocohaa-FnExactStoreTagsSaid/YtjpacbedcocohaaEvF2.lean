/- A part of the proof: an evaluator of the model, its laws, and contracts of functions; no condition. -/
import Derived.Test.YtjpacbedcocohaaEvP
set_option linter.unusedVariables false
set_option maxRecDepth 100000
namespace Go.Proofs.Ytjpacbedcocohaa.X
open Go Go.Ev
/-! impl_Past_latest -/
noncomputable def impl_Past_latest_l1 (e : Env) (w : World) : Option (Value × World) := exC P (EV P) 19 (.loop (cA (cA (cB (cA (cB (cB (bodyOf P 90)))))))) e w (kBlock 0 (kSeq P (EV P) 19 (cB (cB (cB (bodyOf P 90)))) (kFn P (fnOf P 90))))
theorem impl_Past_latest_l1_eq (e : Env) (w : World) : impl_Past_latest_l1 e w =
 (bo P .lss 3 (.tmp 9) (.tmp 8) (e 9) (e 8) w).bind fun r1 =>
 cnd r1.1 (
 (ia P 23 (e 7) (e 9) r1.2).bind fun r2 =>
 (ld P 32 r2.1 r2.2).bind fun r3 =>
 (al P 32 r3.2).bind fun r4 =>
 (st P 32 r4.1 r3.1 r4.2).bind fun r5 =>
 (vl (e 3) r5.2).bind fun r6 =>
 (fa P 32 r4.1 0 r6.2).bind fun r7 =>
 (ld P 3 r7.1 r7.2).bind fun r8 =>
 (b_max P #[3, 3] 3 #[r6.1, r8.1] r8.2).bind fun r9 =>
 (vl r9.1 r9.2).bind fun r10 =>
 (bo P .add 3 (.tmp 9) (.const (.int .i64 1)) (e 9) (.int .i64 1) r10.2).bind fun r11 =>
 (vl r11.1 r11.2).bind fun r12 =>
 impl_Past_latest_l1 (ups e [(10, r1.1), (11, r2.1), (12, r3.1), (5, r4.1), (13, r6.1), (14, r7.1), (15, r8.1), (16, r9.1), (3, r10.1), (17, r11.1), (9, r12.1)]) r12.2) (
 (vl (e 3) r1.2).bind fun r13 =>
 (vl r13.1 r13.2).bind fun r14 =>
 some (r14.1, r14.2)) := (exC_loop P (EV P) 19 (cA (cA (cB (cA (cB (cB (bodyOf P 90))))))) e w (kBlock 0 (kSeq P (EV P) 19 (cB (cB (cB (bodyOf P 90)))) (kFn P (fnOf P 90))))).trans (by kernel_rfl)
theorem impl_Past_latest_fn (x0 : Value) (w : World) : fnC P (EV P) 90 #[x0] w =
 (bx P 25 x0 w).bind fun r1 =>
 (vl (.int .i64 0) r1.2).bind fun r2 =>
 (vl (.int .i64 0) r2.2).bind fun r3 =>
 (fa P 25 r1.1 0 r3.2).bind fun r4 =>
 (ld P 23 r4.1 r4.2).bind fun r5 =>
 (b_len P #[23] 3 #[r5.1] r5.2).bind fun r6 =>
 (vl (.int .i64 0) r6.2).bind fun r7 =>
 impl_Past_latest_l1 (ups (env0 #[x0]) [(1, r1.1), (2, r2.1), (3, r3.1), (6, r4.1), (7, r5.1), (8, r6.1), (9, r7.1)]) r7.2 := by kernel_rfl

/-! impl_TagLess -/
theorem impl_TagLess_fn (x0 x1 : Value) (w : World) : fnC P (EV P) 91 #[x0, x1] w =
 (bx P 32 x0 w).bind fun r1 =>
 (bx P 32 x1 r1.2).bind fun r2 =>
 (vl (.bool false) r2.2).bind fun r3 =>
 (ld P 32 r1.1 r3.2).bind fun r4 =>
 (ld P 32 r2.1 r4.2).bind fun r5 =>
 (EV P 118 #[r4.1, r5.1] r5.2).bind fun r6 =>
 (bo P .lss 3 (.tmp 7) (.const (.int .i64 0)) r6.1 (.int .i64 0) r6.2).bind fun r7 =>
 (vl r7.1 r7.2).bind fun r8 =>
 some (r8.1, r8.2) := by kernel_rfl

/-! laws_heldVerS -/
noncomputable def laws_heldVerS_l1 (e : Env) (w : World) : Option (Value × World) := exC P (EV P) 73 (.loop (cA (cA (cB (cA (cB (bodyOf P 92))))))) e w (kBlock 0 (kSeq P (EV P) 73 (cB (cB (bodyOf P 92))) (kFn P (fnOf P 92))))
theorem laws_heldVerS_l1_eq (e : Env) (w : World) : laws_heldVerS_l1 e w =
 (vl (e 5) w).bind fun r1 =>
 (vl (e 0) r1.2).bind fun r2 =>
 (b_len P #[47] 3 #[r2.1] r2.2).bind fun r3 =>
 (bo P .lss 3 (.tmp 6) (.tmp 8) r1.1 r3.1 r3.2).bind fun r4 =>
 cnd r4.1 (
 (vl (e 0) r4.2).bind fun r5 =>
 (vl (e 5) r5.2).bind fun r6 =>
 (ia P 47 r5.1 r6.1 r6.2).bind fun r7 =>
 (fa P 56 r7.1 0 r7.2).bind fun r8 =>
 (ld P 3 r8.1 r8.2).bind fun r9 =>
 (vl (e 1) r9.2).bind fun r10 =>
 (bo P .neq 3 (.tmp 16) (.tmp 17) r9.1 r10.1 r10.2).bind fun r11 =>
 cnd r11.1 (
 (vl (.int .i64 (-1)) r11.2).bind fun r12 =>
 some (r12.1, r12.2)) (
 (vl (e 1) r11.2).bind fun r13 =>
 (bo P .add 3 (.tmp 19) (.const (.int .i64 1)) r13.1 (.int .i64 1) r13.2).bind fun r14 =>
 (vl r14.1 r14.2).bind fun r15 =>
 (vl (e 0) r15.2).bind fun r16 =>
 (vl (e 5) r16.2).bind fun r17 =>
 (ia P 47 r16.1 r17.1 r17.2).bind fun r18 =>
 (fa P 56 r18.1 1 r18.2).bind fun r19 =>
 (fa P 32 r19.1 0 r19.2).bind fun r20 =>
 (ld P 3 r20.1 r20.2).bind fun r21 =>
 (vl r15.1 r21.2).bind fun r22 =>
 (bo P .neq 3 (.tmp 26) (.tmp 27) r21.1 r22.1 r22.2).bind fun r23 =>
 cnd r23.1 (
 (vl (.int .i64 (-1)) r23.2).bind fun r24 =>
 some (r24.1, r24.2)) (
 (vl r15.1 r23.2).bind fun r25 =>
 (bo P .add 3 (.tmp 29) (.const (.int .i64 1)) r25.1 (.int .i64 1) r25.2).bind fun r26 =>
 (vl r26.1 r26.2).bind fun r27 =>
 (vl (e 0) r27.2).bind fun r28 =>
 (vl (e 5) r28.2).bind fun r29 =>
 (ia P 47 r28.1 r29.1 r29.2).bind fun r30 =>
 (fa P 56 r30.1 1 r30.2).bind fun r31 =>
 (fa P 32 r31.1 1 r31.2).bind fun r32 =>
 (ld P 3 r32.1 r32.2).bind fun r33 =>
 (vl r27.1 r33.2).bind fun r34 =>
 (bo P .neq 3 (.tmp 36) (.tmp 37) r33.1 r34.1 r34.2).bind fun r35 =>
 cnd r35.1 (
 (vl (.int .i64 (-1)) r35.2).bind fun r36 =>
 some (r36.1, r36.2)) (
 (vl r27.1 r35.2).bind fun r37 =>
 (bo P .add 3 (.tmp 39) (.const (.int .i64 1)) r37.1 (.int .i64 1) r37.2).bind fun r38 =>
 (vl r38.1 r38.2).bind fun r39 =>
 (vl (e 0) r39.2).bind fun r40 =>
 (vl (e 5) r40.2).bind fun r41 =>
 (ia P 47 r40.1 r41.1 r41.2).bind fun r42 =>
 (fa P 56 r42.1 2 r42.2).bind fun r43 =>
 (fa P 25 r43.1 0 r43.2).bind fun r44 =>
 (ld P 23 r44.1 r44.2).bind fun r45 =>
 (vl r39.1 r45.2).bind fun r46 =>
 (EV P 68 #[r45.1, r46.1] r46.2).bind fun r47 =>
 (vl r47.1 r47.2).bind fun r48 =>
 (vl r48.1 r48.2).bind fun r49 =>
 (bo P .lss 3 (.tmp 49) (.const (.int .i64 0)) r49.1 (.int .i64 0) r49.2).bind fun r50 =>
 cnd r50.1 (
 (vl (.int .i64 (-1)) r50.2).bind fun r51 =>
 some (r51.1, r51.2)) (
 (vl (e 0) (dw r50.2)).bind fun r53 =>
 ifP (r53.2 = (dw r50.2)) <|
 (vl (e 5) (dw r50.2)).bind fun r54 =>
 ifP (r54.2 = (dw r50.2)) <|
 (ia P 47 r53.1 r54.1 (dw r50.2)).bind fun r55 =>
 ifP (r55.2 = (dw r50.2)) <|
 (fa P 56 r55.1 3 (dw r50.2)).bind fun r56 =>
 ifP (r56.2 = (dw r50.2)) <|
 (ld P 9 r56.1 (dw r50.2)).bind fun r57 =>
 ifP (r57.2 = (dw r50.2)) <|
 (vl r48.1 (dw r50.2)).bind fun r58 =>
 ifP (r58.2 = (dw r50.2)) <|
 (EV P 107 #[r58.1] (dw r50.2)).bind fun r59 =>
 ifP (ld P 9 r56.1 r59.2 = some (r57.1, r59.2) ∧ fa P 56 r55.1 3 r59.2 = some (r56.1, r59.2) ∧ ia P 47 r53.1 r54.1 r59.2 = some (r55.1, r59.2) ∧ True) <|
 (bo P .neq 9 (.tmp 55) (.tmp 57) r57.1 r59.1 r59.2).bind fun r60 =>
 ifP (r60.2 = r59.2) <|
 cnd r60.1 (
 (vl (.int .i64 (-1)) r59.2).bind fun r61 =>
 some (r61.1, r61.2)) (
 (vl r48.1 r59.2).bind fun r62 =>
 (bo P .add 3 (.tmp 59) (.const (.int .i64 1)) r62.1 (.int .i64 1) r62.2).bind fun r63 =>
 (vl r63.1 r63.2).bind fun r64 =>
 (vl (e 0) r64.2).bind fun r65 =>
 (vl (e 5) r65.2).bind fun r66 =>
 (ia P 47 r65.1 r66.1 r66.2).bind fun r67 =>
 (fa P 56 r67.1 4 r67.2).bind fun r68 =>
 (ld P 4 r68.1 r68.2).bind fun r69 =>
 (vl r64.1 r69.2).bind fun r70 =>
 (bo P .rem 3 (.tmp 66) (.const (.int .i64 3)) r70.1 (.int .i64 3) r70.2).bind fun r71 =>
 (bo P .eql 3 (.tmp 67) (.const (.int .i64 0)) r71.1 (.int .i64 0) r71.2).bind fun r72 =>
 (bo P .neq 4 (.tmp 65) (.tmp 68) r69.1 r72.1 r72.2).bind fun r73 =>
 cnd r73.1 (
 (vl (.int .i64 (-1)) r73.2).bind fun r74 =>
 some (r74.1, r74.2)) (
 (vl r64.1 r73.2).bind fun r75 =>
 (bo P .add 3 (.tmp 70) (.const (.int .i64 1)) r75.1 (.int .i64 1) r75.2).bind fun r76 =>
 (vl r76.1 r76.2).bind fun r77 =>
 (vl (e 5) r77.2).bind fun r78 =>
 (bo P .add 3 (.tmp 10) (.const (.int .i64 1)) r78.1 (.int .i64 1) r78.2).bind fun r79 =>
 (vl r79.1 r79.2).bind fun r80 =>
 laws_heldVerS_l1 (ups e [(6, r1.1), (7, r2.1), (8, r3.1), (9, r4.1), (12, r5.1), (13, r6.1), (14, r7.1), (15, r8.1), (16, r9.1), (17, r10.1), (18, r11.1), (19, r13.1), (20, r14.1), (1, r15.1), (21, r16.1), (22, r17.1), (23, r18.1), (24, r19.1), (25, r20.1), (26, r21.1), (27, r22.1), (28, r23.1), (29, r25.1), (30, r26.1), (1, r27.1), (31, r28.1), (32, r29.1), (33, r30.1), (34, r31.1), (35, r32.1), (36, r33.1), (37, r34.1), (38, r35.1), (39, r37.1), (40, r38.1), (1, r39.1), (41, r40.1), (42, r41.1), (43, r42.1), (44, r43.1), (45, r44.1), (46, r45.1), (47, r46.1), (48, r47.1), (1, r48.1), (49, r49.1), (50, r50.1), (51, r53.1), (52, r54.1), (53, r55.1), (54, r56.1), (55, r57.1), (56, r58.1), (57, r59.1), (58, r60.1), (59, r62.1), (60, r63.1), (1, r64.1), (61, r65.1), (62, r66.1), (63, r67.1), (64, r68.1), (65, r69.1), (66, r70.1), (67, r71.1), (68, r72.1), (69, r73.1), (70, r75.1), (71, r76.1), (1, r77.1), (10, r78.1), (11, r79.1), (5, r80.1)]) r80.2))))))) (
 (vl (e 1) r4.2).bind fun r81 =>
 (vl r81.1 r81.2).bind fun r82 =>
 some (r82.1, r82.2)) := (exC_loop P (EV P) 73 (cA (cA (cB (cA (cB (bodyOf P 92)))))) e w (kBlock 0 (kSeq P (EV P) 73 (cB (cB (bodyOf P 92))) (kFn P (fnOf P 92))))).trans (by kernel_rfl)
theorem laws_heldVerS_fn (x0 x1 : Value) (w : World) : fnC P (EV P) 92 #[x0, x1] w =
 (vl (.int .i64 0) w).bind fun r1 =>
 (vl (.int .i64 0) r1.2).bind fun r2 =>
 laws_heldVerS_l1 (ups (env0 #[x0, x1]) [(4, r1.1), (5, r2.1)]) r2.2 := by kernel_rfl

/-! laws_toTag -/
theorem laws_toTag_fn (x0 : Value) (w : World) : fnC P (EV P) 93 #[x0] w =
 (bx P 68 x0 w).bind fun r1 =>
 (al P 32 r1.2).bind fun r2 =>
 (al P 32 r2.2).bind fun r3 =>
 (fa P 68 r1.1 0 r3.2).bind fun r4 =>
 (ld P 3 r4.1 r4.2).bind fun r5 =>
 (fa P 32 r3.1 0 r5.2).bind fun r6 =>
 (st P 3 r6.1 r5.1 r6.2).bind fun r7 =>
 (fa P 68 r1.1 1 r7.2).bind fun r8 =>
 (ld P 3 r8.1 r8.2).bind fun r9 =>
 (fa P 32 r3.1 1 r9.2).bind fun r10 =>
 (st P 3 r10.1 r9.1 r10.2).bind fun r11 =>
 (ld P 32 r3.1 r11.2).bind fun r12 =>
 (st P 32 r2.1 r12.1 r12.2).bind fun r13 =>
 ((ld P 32 r2.1 r13.2).bind fun r14 => ifP (r14.2 = r13.2) (some r14.1)).bind fun v15 =>
 some (v15, r13.2) := by kernel_rfl

/-! laws_eqTag -/
theorem laws_eqTag_fn (x0 x1 : Value) (w : World) : fnC P (EV P) 94 #[x0, x1] w =
 (bx P 32 x0 w).bind fun r1 =>
 (bx P 32 x1 r1.2).bind fun r2 =>
 (vl (.bool false) r2.2).bind fun r3 =>
 (fa P 32 r1.1 0 r3.2).bind fun r4 =>
 (ld P 3 r4.1 r4.2).bind fun r5 =>
 (fa P 32 r2.1 0 r5.2).bind fun r6 =>
 (ld P 3 r6.1 r6.2).bind fun r7 =>
 (bo P .neq 3 (.tmp 6) (.tmp 8) r5.1 r7.1 r7.2).bind fun r8 =>
 cnd r8.1 (
 (vl (.bool false) r8.2).bind fun r9 =>
 some (r9.1, r9.2)) (
 (fa P 32 r1.1 1 r8.2).bind fun r10 =>
 (ld P 3 r10.1 r10.2).bind fun r11 =>
 (fa P 32 r2.1 1 r11.2).bind fun r12 =>
 (ld P 3 r12.1 r12.2).bind fun r13 =>
 (bo P .neq 3 (.tmp 11) (.tmp 13) r11.1 r13.1 r13.2).bind fun r14 =>
 cnd r14.1 (
 (vl (.bool false) r14.2).bind fun r15 =>
 some (r15.1, r15.2)) (
 (vl (.bool true) r14.2).bind fun r16 =>
 some (r16.1, r16.2))) := by kernel_rfl

/-! spec_l1None -/
theorem spec_l1None_fn (w : World) : fnC P (EV P) 95 #[] w =
 (al P 25 w).bind fun r1 =>
 (ms P 23 (.int .i64 4) (.int .i64 4) r1.2).bind fun r2 =>
 (bd P 25 #[(0, r2.1)] r2.2).bind fun r3 =>
 (st P 25 r1.1 r3.1 r3.2).bind fun r4 =>
 ((ld P 25 r1.1 r4.2).bind fun r5 => ifP (r5.2 = r4.2) (some r5.1)).bind fun v6 =>
 some (v6, r4.2) := by kernel_rfl

/-! spec_l20Tag -/
theorem spec_l20Tag_fn (x0 : Value) (w : World) : fnC P (EV P) 96 #[x0] w =
 (al P 32 w).bind fun r1 =>
 (vl x0 r1.2).bind fun r2 =>
 (EV P 62 #[r2.1, (.int .i64 3)] r2.2).bind fun r3 =>
 (bo P .eql 3 (.tmp 4) (.const (.int .i64 0)) r3.1 (.int .i64 0) r3.2).bind fun r4 =>
 cnd r4.1 (
 (bd P 32 #[] r4.2).bind fun r5 =>
 (st P 32 r1.1 r5.1 r5.2).bind fun r6 =>
 ((ld P 32 r1.1 r6.2).bind fun r7 => ifP (r7.2 = r6.2) (some r7.1)).bind fun v8 =>
 some (v8, r6.2)) (
 (vl x0 r4.2).bind fun r9 =>
 (EV P 62 #[r9.1, (.int .i64 9)] r9.2).bind fun r10 =>
 (bo P .add 3 (.const (.int .i64 1)) (.tmp 8) (.int .i64 1) r10.1 r10.2).bind fun r11 =>
 (vl x0 r11.2).bind fun r12 =>
 (EV P 62 #[r12.1, (.int .i64 3)] r12.2).bind fun r13 =>
 (bd P 32 #[(0, r11.1), (1, r13.1)] r13.2).bind fun r14 =>
 (st P 32 r1.1 r14.1 r14.2).bind fun r15 =>
 ((ld P 32 r1.1 r15.2).bind fun r16 => ifP (r16.2 = r15.2) (some r16.1)).bind fun v17 =>
 some (v17, r15.2)) := by kernel_rfl

/-! spec_l20AnyTag -/
theorem spec_l20AnyTag_fn (x0 : Value) (w : World) : fnC P (EV P) 97 #[x0] w =
 (al P 32 w).bind fun r1 =>
 (vl x0 r1.2).bind fun r2 =>
 (EV P 62 #[r2.1, (.int .i64 8)] r2.2).bind fun r3 =>
 (bo P .eql 3 (.tmp 4) (.const (.int .i64 0)) r3.1 (.int .i64 0) r3.2).bind fun r4 =>
 cnd r4.1 (
 (vl x0 r4.2).bind fun r5 =>
 (bs P 109 4 #[(0, (.int .i64 0)), (1, (.int .i64 (-1))), (2, (.int .i64 1000)), (3, (.int .i64 999))] r5.2).bind fun r6 =>
 (EV P 110 #[r5.1, r6.1] r6.2).bind fun r7 =>
 (vl x0 r7.2).bind fun r8 =>
 (bs P 109 4 #[(0, (.int .i64 0)), (1, (.int .i64 1)), (2, (.int .i64 3)), (3, (.int .i64 (-1)))] r8.2).bind fun r9 =>
 (EV P 110 #[r8.1, r9.1] r9.2).bind fun r10 =>
 (bd P 32 #[(0, r7.1), (1, r10.1)] r10.2).bind fun r11 =>
 (st P 32 r1.1 r11.1 r11.2).bind fun r12 =>
 ((ld P 32 r1.1 r12.2).bind fun r13 => ifP (r13.2 = r12.2) (some r13.1)).bind fun v14 =>
 some (v14, r12.2)) (
 (vl x0 r4.2).bind fun r15 =>
 (EV P 96 #[r15.1] r15.2).bind fun r16 =>
 (st P 32 r1.1 r16.1 r16.2).bind fun r17 =>
 ((ld P 32 r1.1 r17.2).bind fun r18 => ifP (r18.2 = r17.2) (some r18.1)).bind fun v19 =>
 some (v19, r17.2)) := by kernel_rfl

/-! impl_Past_copied -/
theorem impl_Past_copied_fn (x0 : Value) (w : World) : fnC P (EV P) 98 #[x0] w =
 (bx P 25 x0 w).bind fun r1 =>
 (al P 25 r1.2).bind fun r2 =>
 (fa P 25 r1.1 0 r2.2).bind fun r3 =>
 (ld P 23 r3.1 r3.2).bind fun r4 =>
 (EV P 120 #[r4.1] r4.2).bind fun r5 =>
 (EV P 119 #[r5.1] r5.2).bind fun r6 =>
 (bd P 25 #[(0, r6.1)] r6.2).bind fun r7 =>
 (st P 25 r2.1 r7.1 r7.2).bind fun r8 =>
 ((ld P 25 r2.1 r8.2).bind fun r9 => ifP (r9.2 = r8.2) (some r9.1)).bind fun v10 =>
 some (v10, r8.2) := by kernel_rfl

/-! spec_l1TagOk -/
theorem spec_l1TagOk_fn (x0 : Value) (w : World) : fnC P (EV P) 99 #[x0] w =
 (bx P 32 x0 w).bind fun r1 =>
 (vl (.bool false) r1.2).bind fun r2 =>
 (ld P 32 r1.1 r2.2).bind fun r3 =>
 (bd P 32 #[] r3.2).bind fun r4 =>
 (bo P .eql 32 (.tmp 3) (.tmp 4) r3.1 r4.1 r4.2).bind fun r5 =>
 (vl r5.1 r5.2).bind fun r6 =>
 (gif r6.1 false (fa P 32 r1.1 0 r6.2) r6.2).bind fun r7 =>
 (gif r6.1 false (ld P 3 r7.1 r7.2) r7.2).bind fun r8 =>
 (gif r6.1 false (EV P 113 #[r8.1, (.int .i64 1), (.int .i64 999)] r8.2) r8.2).bind fun r9 =>
 (gif r6.1 false (vl r9.1 r9.2) r9.2).bind fun r10 =>
 (gif r10.1 true (fa P 32 r1.1 1 r10.2) r10.2).bind fun r11 =>
 (gif r10.1 true (ld P 3 r11.1 r11.2) r11.2).bind fun r12 =>
 (gif r10.1 true (EV P 113 #[r12.1, (.int .i64 0), (.int .i64 2)] r12.2) r12.2).bind fun r13 =>
 (gif r6.1 false (pickV r10.1 r13.1 (.bool false) r13.2) r13.2).bind fun r14 =>
 (pickV r6.1 (.bool true) r14.1 r14.2).bind fun r15 =>
 (vl r15.1 r15.2).bind fun r16 =>
 some (r16.1, r16.2) := by kernel_rfl

/-! spec_l1Max -/
theorem spec_l1Max_fn (x0 x1 : Value) (w : World) : fnC P (EV P) 100 #[x0, x1] w =
 (bx P 32 x0 w).bind fun r1 =>
 (bx P 32 x1 r1.2).bind fun r2 =>
 (al P 32 r2.2).bind fun r3 =>
 (ld P 32 r1.1 r3.2).bind fun r4 =>
 (ld P 32 r2.1 r4.2).bind fun r5 =>
 (EV P 104 #[r4.1, r5.1] r5.2).bind fun r6 =>
 cnd r6.1 (
 (ld P 32 r2.1 r6.2).bind fun r7 =>
 (st P 32 r3.1 r7.1 r7.2).bind fun r8 =>
 ((ld P 32 r3.1 r8.2).bind fun r9 => ifP (r9.2 = r8.2) (some r9.1)).bind fun v10 =>
 some (v10, r8.2)) (
 (ld P 32 r1.1 r6.2).bind fun r11 =>
 (st P 32 r3.1 r11.1 r11.2).bind fun r12 =>
 ((ld P 32 r3.1 r12.2).bind fun r13 => ifP (r13.2 = r12.2) (some r13.1)).bind fun v14 =>
 some (v14, r12.2)) := by kernel_rfl

/-! slices_IndexFunc_Tag -/
noncomputable def slices_IndexFunc_Tag_l1 (e : Env) (w : World) : Option (Value × World) := exC P (EV P) 19 (.loop (cA (cA (cB (cA (cB (bodyOf P 101))))))) e w (kBlock 0 (kSeq P (EV P) 19 (cB (cB (bodyOf P 101))) (kFn P (fnOf P 101))))
theorem slices_IndexFunc_Tag_l1_eq (e : Env) (w : World) : slices_IndexFunc_Tag_l1 e w =
 (bo P .lss 3 (.tmp 8) (.tmp 7) (e 8) (e 7) w).bind fun r1 =>
 cnd r1.1 (
 (vl (e 8) r1.2).bind fun r2 =>
 (vl r2.1 r2.2).bind fun r3 =>
 (vl (e 1) r3.2).bind fun r4 =>
 (vl (e 0) r4.2).bind fun r5 =>
 (vl r3.1 r5.2).bind fun r6 =>
 (ia P 23 r5.1 r6.1 r6.2).bind fun r7 =>
 (ld P 32 r7.1 r7.2).bind fun r8 =>
 (clo P r4.1 #[r8.1] r8.2).bind fun r9 =>
 cnd r9.1 (
 (vl r3.1 r9.2).bind fun r10 =>
 (vl r10.1 r10.2).bind fun r11 =>
 some (r11.1, r11.2)) (
 (bo P .add 3 (.tmp 8) (.const (.int .i64 1)) (e 8) (.int .i64 1) r9.2).bind fun r12 =>
 (vl r12.1 r12.2).bind fun r13 =>
 slices_IndexFunc_Tag_l1 (ups e [(9, r1.1), (10, r2.1), (5, r3.1), (11, r4.1), (12, r5.1), (13, r6.1), (14, r7.1), (15, r8.1), (16, r9.1), (18, r12.1), (8, r13.1)]) r13.2)) (
 (vl (.int .i64 (-1)) r1.2).bind fun r14 =>
 some (r14.1, r14.2)) := (exC_loop P (EV P) 19 (cA (cA (cB (cA (cB (bodyOf P 101)))))) e w (kBlock 0 (kSeq P (EV P) 19 (cB (cB (bodyOf P 101))) (kFn P (fnOf P 101))))).trans (by kernel_rfl)
theorem slices_IndexFunc_Tag_fn (x0 x1 : Value) (w : World) : fnC P (EV P) 101 #[x0, x1] w =
 (vl (.int .i64 0) w).bind fun r1 =>
 (vl x0 r1.2).bind fun r2 =>
 (b_len P #[23] 3 #[r2.1] r2.2).bind fun r3 =>
 (vl (.int .i64 0) r3.2).bind fun r4 =>
 slices_IndexFunc_Tag_l1 (ups (env0 #[x0, x1]) [(4, r1.1), (6, r2.1), (7, r3.1), (8, r4.1)]) r4.2 := by kernel_rfl

/-! impl_within -/
theorem impl_within_fn (x0 x1 x2 : Value) (w : World) : fnC P (EV P) 102 #[x0, x1, x2] w =
 (vl (.bool false) w).bind fun r1 =>
 (vl x0 r1.2).bind fun r2 =>
 (vl x1 r2.2).bind fun r3 =>
 (bo P .geq 3 (.tmp 7) (.tmp 8) r2.1 r3.1 r3.2).bind fun r4 =>
 (vl r4.1 r4.2).bind fun r5 =>
 (gif r5.1 true (vl x0 r5.2) r5.2).bind fun r6 =>
 (gif r5.1 true (vl x2 r6.2) r6.2).bind fun r7 =>
 (gif r5.1 true (bo P .leq 3 (.tmp 11) (.tmp 12) r6.1 r7.1 r7.2) r7.2).bind fun r8 =>
 (pickV r5.1 r8.1 (.bool false) r8.2).bind fun r9 =>
 (vl r9.1 r9.2).bind fun r10 =>
 some (r10.1, r10.2) := by kernel_rfl

/-! impl_placeOk -/
theorem impl_placeOk_fn (x0 : Value) (w : World) : fnC P (EV P) 103 #[x0] w =
 (vl (.bool false) w).bind fun r1 =>
 (vl x0 r1.2).bind fun r2 =>
 (EV P 102 #[r2.1, (.int .i64 0), (.int .i64 2)] r2.2).bind fun r3 =>
 (vl r3.1 r3.2).bind fun r4 =>
 some (r4.1, r4.2) := by kernel_rfl

/-! spec_l1Less -/
theorem spec_l1Less_fn (x0 x1 : Value) (w : World) : fnC P (EV P) 104 #[x0, x1] w =
 (bx P 32 x0 w).bind fun r1 =>
 (bx P 32 x1 r1.2).bind fun r2 =>
 (vl (.bool false) r2.2).bind fun r3 =>
 (fa P 32 r1.1 0 r3.2).bind fun r4 =>
 (ld P 3 r4.1 r4.2).bind fun r5 =>
 (fa P 32 r2.1 0 r5.2).bind fun r6 =>
 (ld P 3 r6.1 r6.2).bind fun r7 =>
 (bo P .lss 3 (.tmp 6) (.tmp 8) r5.1 r7.1 r7.2).bind fun r8 =>
 (vl r8.1 r8.2).bind fun r9 =>
 (gif r9.1 false (fa P 32 r1.1 0 r9.2) r9.2).bind fun r10 =>
 (gif r9.1 false (ld P 3 r10.1 r10.2) r10.2).bind fun r11 =>
 (gif r9.1 false (fa P 32 r2.1 0 r11.2) r11.2).bind fun r12 =>
 (gif r9.1 false (ld P 3 r12.1 r12.2) r12.2).bind fun r13 =>
 (gif r9.1 false (bo P .eql 3 (.tmp 12) (.tmp 14) r11.1 r13.1 r13.2) r13.2).bind fun r14 =>
 (gif r9.1 false (vl r14.1 r14.2) r14.2).bind fun r15 =>
 (gif r15.1 true (fa P 32 r1.1 1 r15.2) r15.2).bind fun r16 =>
 (gif r15.1 true (ld P 3 r16.1 r16.2) r16.2).bind fun r17 =>
 (gif r15.1 true (fa P 32 r2.1 1 r17.2) r17.2).bind fun r18 =>
 (gif r15.1 true (ld P 3 r18.1 r18.2) r18.2).bind fun r19 =>
 (gif r15.1 true (bo P .lss 3 (.tmp 18) (.tmp 20) r17.1 r19.1 r19.2) r19.2).bind fun r20 =>
 (gif r9.1 false (pickV r15.1 r20.1 (.bool false) r20.2) r20.2).bind fun r21 =>
 (pickV r9.1 (.bool true) r21.1 r21.2).bind fun r22 =>
 (vl r22.1 r22.2).bind fun r23 =>
 some (r23.1, r23.2) := by kernel_rfl

/-! slices_Equal_Tag -/
noncomputable def slices_Equal_Tag_l1 (e : Env) (w : World) : Option (Value × World) := exC P (EV P) 26 (.loop (cA (cA (cB (cA (cB (cB (bodyOf P 105)))))))) e w (kBlock 0 (kSeq P (EV P) 26 (cB (cB (cB (bodyOf P 105)))) (kFn P (fnOf P 105))))
theorem slices_Equal_Tag_l1_eq (e : Env) (w : World) : slices_Equal_Tag_l1 e w =
 (bo P .lss 3 (.tmp 13) (.tmp 12) (e 13) (e 12) w).bind fun r1 =>
 cnd r1.1 (
 (vl (e 13) r1.2).bind fun r2 =>
 (vl r2.1 r2.2).bind fun r3 =>
 (vl (e 0) (dw r3.2)).bind fun r5 =>
 ifP (r5.2 = (dw r3.2)) <|
 (vl r3.1 (dw r3.2)).bind fun r6 =>
 ifP (r6.2 = (dw r3.2)) <|
 (ia P 23 r5.1 r6.1 (dw r3.2)).bind fun r7 =>
 ifP (r7.2 = (dw r3.2)) <|
 (ld P 32 r7.1 (dw r3.2)).bind fun r8 =>
 ifP (r8.2 = (dw r3.2)) <|
 (vl (e 1) (dw r3.2)).bind fun r9 =>
 ifP (r9.2 = (dw r3.2)) <|
 (vl r3.1 (dw r3.2)).bind fun r10 =>
 ifP (r10.2 = (dw r3.2)) <|
 (ia P 23 r9.1 r10.1 (dw r3.2)).bind fun r11 =>
 ifP (r11.2 = (dw r3.2)) <|
 (ld P 32 r11.1 (dw r3.2)).bind fun r12 =>
 ifP (r12.2 = (dw r3.2)) <|
 (bo P .neq 32 (.tmp 19) (.tmp 23) r8.1 r12.1 (dw r3.2)).bind fun r13 =>
 ifP (r13.2 = (dw r3.2)) <|
 cnd r13.1 (
 (vl (.bool false) (dw r3.2)).bind fun r14 =>
 some (r14.1, r14.2)) (
 (bo P .add 3 (.tmp 13) (.const (.int .i64 1)) (e 13) (.int .i64 1) (dw r3.2)).bind fun r15 =>
 (vl r15.1 r15.2).bind fun r16 =>
 slices_Equal_Tag_l1 (ups e [(14, r1.1), (15, r2.1), (5, r3.1), (16, r5.1), (17, r6.1), (18, r7.1), (19, r8.1), (20, r9.1), (21, r10.1), (22, r11.1), (23, r12.1), (24, r13.1), (25, r15.1), (13, r16.1)]) r16.2)) (
 (vl (.bool true) r1.2).bind fun r17 =>
 some (r17.1, r17.2)) := (exC_loop P (EV P) 26 (cA (cA (cB (cA (cB (cB (bodyOf P 105))))))) e w (kBlock 0 (kSeq P (EV P) 26 (cB (cB (cB (bodyOf P 105)))) (kFn P (fnOf P 105))))).trans (by kernel_rfl)
theorem slices_Equal_Tag_fn (x0 x1 : Value) (w : World) : fnC P (EV P) 105 #[x0, x1] w =
 (vl (.bool false) w).bind fun r1 =>
 (vl x0 r1.2).bind fun r2 =>
 (b_len P #[23] 3 #[r2.1] r2.2).bind fun r3 =>
 (vl x1 r3.2).bind fun r4 =>
 (b_len P #[23] 3 #[r4.1] r4.2).bind fun r5 =>
 (bo P .neq 3 (.tmp 7) (.tmp 9) r3.1 r5.1 r5.2).bind fun r6 =>
 cnd r6.1 (
 (vl (.bool false) r6.2).bind fun r7 =>
 some (r7.1, r7.2)) (
 (vl x0 r6.2).bind fun r8 =>
 (b_len P #[23] 3 #[r8.1] r8.2).bind fun r9 =>
 (vl (.int .i64 0) r9.2).bind fun r10 =>
 slices_Equal_Tag_l1 (ups (env0 #[x0, x1]) [(4, r1.1), (6, r2.1), (7, r3.1), (8, r4.1), (9, r5.1), (10, r6.1), (11, r8.1), (12, r9.1), (13, r10.1)]) r10.2) := by kernel_rfl

/-! slices_IndexFunc_Ver -/
noncomputable def slices_IndexFunc_Ver_l1 (e : Env) (w : World) : Option (Value × World) := exC P (EV P) 19 (.loop (cA (cA (cB (cA (cB (bodyOf P 106))))))) e w (kBlock 0 (kSeq P (EV P) 19 (cB (cB (bodyOf P 106))) (kFn P (fnOf P 106))))
theorem slices_IndexFunc_Ver_l1_eq (e : Env) (w : World) : slices_IndexFunc_Ver_l1 e w =
 (bo P .lss 3 (.tmp 8) (.tmp 7) (e 8) (e 7) w).bind fun r1 =>
 cnd r1.1 (
 (vl (e 8) r1.2).bind fun r2 =>
 (vl r2.1 r2.2).bind fun r3 =>
 (vl (e 1) r3.2).bind fun r4 =>
 (vl (e 0) r4.2).bind fun r5 =>
 (vl r3.1 r5.2).bind fun r6 =>
 (ia P 47 r5.1 r6.1 r6.2).bind fun r7 =>
 (ld P 56 r7.1 r7.2).bind fun r8 =>
 (clo P r4.1 #[r8.1] r8.2).bind fun r9 =>
 cnd r9.1 (
 (vl r3.1 r9.2).bind fun r10 =>
 (vl r10.1 r10.2).bind fun r11 =>
 some (r11.1, r11.2)) (
 (bo P .add 3 (.tmp 8) (.const (.int .i64 1)) (e 8) (.int .i64 1) r9.2).bind fun r12 =>
 (vl r12.1 r12.2).bind fun r13 =>
 slices_IndexFunc_Ver_l1 (ups e [(9, r1.1), (10, r2.1), (5, r3.1), (11, r4.1), (12, r5.1), (13, r6.1), (14, r7.1), (15, r8.1), (16, r9.1), (18, r12.1), (8, r13.1)]) r13.2)) (
 (vl (.int .i64 (-1)) r1.2).bind fun r14 =>
 some (r14.1, r14.2)) := (exC_loop P (EV P) 19 (cA (cA (cB (cA (cB (bodyOf P 106)))))) e w (kBlock 0 (kSeq P (EV P) 19 (cB (cB (bodyOf P 106))) (kFn P (fnOf P 106))))).trans (by kernel_rfl)
theorem slices_IndexFunc_Ver_fn (x0 x1 : Value) (w : World) : fnC P (EV P) 106 #[x0, x1] w =
 (vl (.int .i64 0) w).bind fun r1 =>
 (vl x0 r1.2).bind fun r2 =>
 (b_len P #[47] 3 #[r2.1] r2.2).bind fun r3 =>
 (vl (.int .i64 0) r3.2).bind fun r4 =>
 slices_IndexFunc_Ver_l1 (ups (env0 #[x0, x1]) [(4, r1.1), (6, r2.1), (7, r3.1), (8, r4.1)]) r4.2 := by kernel_rfl

/-! laws_markText -/
noncomputable def laws_markText_l1 (e : Env) (w : World) : Option (Value × World) := exC P (EV P) 20 (.loop (cA (cA (cA (cB (cB (cB (bodyOf P 107)))))))) e w (kBlock 0 (kSeq P (EV P) 20 (cB (cB (cB (cB (bodyOf P 107))))) (kFn P (fnOf P 107))))
theorem laws_markText_l1_eq (e : Env) (w : World) : laws_markText_l1 e w =
 (vl (e 0) w).bind fun r1 =>
 (bo P .gtr 3 (.tmp 6) (.const (.int .i64 0)) r1.1 (.int .i64 0) r1.2).bind fun r2 =>
 cnd r2.1 (
 (vl (e 0) r2.2).bind fun r3 =>
 (bo P .rem 3 (.tmp 8) (.const (.int .i64 10)) r3.1 (.int .i64 10) r3.2).bind fun r4 =>
 (bo P .add 3 (.const (.int .i64 48)) (.tmp 9) (.int .i64 48) r4.1 r4.2).bind fun r5 =>
 (cv P 3 5 r5.1 r5.2).bind fun r6 =>
 (bs P 22 1 #[(0, r6.1)] r6.2).bind fun r7 =>
 (cv P 22 9 r7.1 r7.2).bind fun r8 =>
 (vl (e 3) r8.2).bind fun r9 =>
 (bo P .add 9 (.tmp 13) (.tmp 14) r8.1 r9.1 r9.2).bind fun r10 =>
 (vl r10.1 r10.2).bind fun r11 =>
 (vl (e 0) r11.2).bind fun r12 =>
 (bo P .quo 3 (.tmp 16) (.const (.int .i64 10)) r12.1 (.int .i64 10) r12.2).bind fun r13 =>
 (vl r13.1 r13.2).bind fun r14 =>
 laws_markText_l1 (ups e [(6, r1.1), (7, r2.1), (8, r3.1), (9, r4.1), (10, r5.1), (11, r6.1), (12, r7.1), (13, r8.1), (14, r9.1), (15, r10.1), (3, r11.1), (16, r12.1), (17, r13.1), (0, r14.1)]) r14.2) (
 (vl (e 3) r2.2).bind fun r15 =>
 (bo P .add 9 (.const (Go.Value.string { data := #[109] })) (.tmp 18) (Go.Value.string { data := #[109] }) r15.1 r15.2).bind fun r16 =>
 (vl r16.1 r16.2).bind fun r17 =>
 some (r17.1, r17.2)) := (exC_loop P (EV P) 20 (cA (cA (cA (cB (cB (cB (bodyOf P 107))))))) e w (kBlock 0 (kSeq P (EV P) 20 (cB (cB (cB (cB (bodyOf P 107))))) (kFn P (fnOf P 107))))).trans (by kernel_rfl)
theorem laws_markText_fn (x0 : Value) (w : World) : fnC P (EV P) 107 #[x0] w =
 (vl (Go.Value.string { data := #[] }) w).bind fun r1 =>
 (vl x0 r1.2).bind fun r2 =>
 (bo P .leq 3 (.tmp 4) (.const (.int .i64 0)) r2.1 (.int .i64 0) r2.2).bind fun r3 =>
 cnd r3.1 (
 (vl (Go.Value.string { data := #[109, 48] }) r3.2).bind fun r4 =>
 some (r4.1, r4.2)) (
 (vl (Go.Value.string { data := #[] }) r3.2).bind fun r5 =>
 laws_markText_l1 (ups (env0 #[x0]) [(2, r1.1), (4, r2.1), (5, r3.1), (3, r5.1)]) r5.2) := by kernel_rfl

/-! spec_l20Store -/
noncomputable def spec_l20Store_l1 (e : Env) (w : World) : Option (Value × World) := exC P (EV P) 17 (.loop (cA (cA (cB (cA (cB (cB (bodyOf P 108)))))))) e w (kBlock 0 (kSeq P (EV P) 17 (cB (cB (cB (bodyOf P 108)))) (kFn P (fnOf P 108))))
theorem spec_l20Store_l1_eq (e : Env) (w : World) : spec_l20Store_l1 e w =
 (vl (e 4) w).bind fun r1 =>
 (bo P .gtr 3 (.tmp 8) (.const (.int .i64 0)) r1.1 (.int .i64 0) r1.2).bind fun r2 =>
 cnd r2.1 (
 (ld P 49 (e 3) (dw r2.2)).bind fun r4 =>
 ifP (r4.2 = (dw r2.2)) <|
 (vl (e 0) (dw r2.2)).bind fun r5 =>
 ifP (r5.2 = (dw r2.2)) <|
 (EV P 109 #[r5.1] (dw r2.2)).bind fun r6 =>
 ifP (ld P 49 (e 3) r6.2 = some (r4.1, r6.2) ∧ True) <|
 (EV P 87 #[r4.1, r6.1] r6.2).bind fun r7 =>
 ifP (True ∧ True) <|
 (st P 49 (e 3) r7.1 r7.2).bind fun r8 =>
 ifP (True ∧ True) <|
 (vl (e 4) r8.2).bind fun r9 =>
 (bo P .sub 3 (.tmp 10) (.const (.int .i64 1)) r9.1 (.int .i64 1) r9.2).bind fun r10 =>
 (vl r10.1 r10.2).bind fun r11 =>
 spec_l20Store_l1 (ups e [(8, r1.1), (9, r2.1), (12, r4.1), (13, r5.1), (14, r6.1), (15, r7.1), (10, r9.1), (11, r10.1), (4, r11.1)]) r11.2) (
 (ld P 49 (e 3) r2.2).bind fun r12 =>
 (st P 49 (e 2) r12.1 r12.2).bind fun r13 =>
 ((ld P 49 (e 2) r13.2).bind fun r14 => ifP (r14.2 = r13.2) (some r14.1)).bind fun v15 =>
 some (v15, r13.2)) := (exC_loop P (EV P) 17 (cA (cA (cB (cA (cB (cB (bodyOf P 108))))))) e w (kBlock 0 (kSeq P (EV P) 17 (cB (cB (cB (bodyOf P 108)))) (kFn P (fnOf P 108))))).trans (by kernel_rfl)
theorem spec_l20Store_fn (x0 : Value) (w : World) : fnC P (EV P) 108 #[x0] w =
 (al P 49 w).bind fun r1 =>
 (EV P 121 #[] r1.2).bind fun r2 =>
 (al P 49 r2.2).bind fun r3 =>
 (st P 49 r3.1 r2.1 r3.2).bind fun r4 =>
 (vl x0 r4.2).bind fun r5 =>
 (EV P 62 #[r5.1, (.int .i64 7)] r5.2).bind fun r6 =>
 (vl r6.1 r6.2).bind fun r7 =>
 spec_l20Store_l1 (ups (env0 #[x0]) [(2, r1.1), (5, r2.1), (3, r3.1), (6, r5.1), (7, r6.1), (4, r7.1)]) r7.2 := by kernel_rfl

/-! spec_l20Ver -/
noncomputable def spec_l20Ver_l1 (e : Env) (w : World) : Option (Value × World) := exC P (EV P) 54 (.loop (cA (cA (cB (cA (cB (cB (cB (bodyOf P 109))))))))) e w (kBlock 0 (kSeq P (EV P) 54 (cB (cB (cB (cB (bodyOf P 109))))) (kFn P (fnOf P 109))))
noncomputable def spec_l20Ver_j1 (e : Env) (w : World) : Option (Value × World) := exC P (EV P) 54 (cB (cB (cA (cA (cB (cA (cB (cB (cB (bodyOf P 109)))))))))) e w (kLoop P (EV P) 54 (cA (cA (cB (cA (cB (cB (cB (bodyOf P 109)))))))) (kBlock 0 (kSeq P (EV P) 54 (cB (cB (cB (cB (bodyOf P 109))))) (kFn P (fnOf P 109)))))
noncomputable def spec_l20Ver_j2 (e : Env) (w : World) : Option (Value × World) := exC P (EV P) 54 (cB (cB (cB (cB (cB (cB (bodyOf P 109))))))) e w (kFn P (fnOf P 109))
theorem spec_l20Ver_l1_eq (e : Env) (w : World) : spec_l20Ver_l1 e w =
 (vl (e 5) w).bind fun r1 =>
 (bo P .lss 3 (.tmp 12) (.const (.int .i64 4)) r1.1 (.int .i64 4) r1.2).bind fun r2 =>
 cnd r2.1 (
 (fa P 56 (e 3) 2 (dw r2.2)).bind fun r4 =>
 ifP (r4.2 = (dw r2.2)) <|
 (fa P 25 r4.1 0 (dw r2.2)).bind fun r5 =>
 ifP (r5.2 = (dw r2.2)) <|
 (ld P 23 r5.1 (dw r2.2)).bind fun r6 =>
 ifP (r6.2 = (dw r2.2)) <|
 (vl (e 5) (dw r2.2)).bind fun r7 =>
 ifP (r7.2 = (dw r2.2)) <|
 (vl (e 0) (dw r2.2)).bind fun r8 =>
 ifP (r8.2 = (dw r2.2)) <|
 (EV P 96 #[r8.1] (dw r2.2)).bind fun r9 =>
 ifP (ld P 23 r5.1 r9.2 = some (r6.1, r9.2) ∧ fa P 25 r4.1 0 r9.2 = some (r5.1, r9.2) ∧ fa P 56 (e 3) 2 r9.2 = some (r4.1, r9.2) ∧ True) <|
 (ia P 23 r6.1 r7.1 r9.2).bind fun r10 =>
 ifP (r10.2 = r9.2) <|
 (st P 32 r10.1 r9.1 r9.2).bind fun r11 =>
 ifP (True ∧ True ∧ True ∧ True ∧ True) <|
 (fa P 56 (e 3) 2 r11.2).bind fun r12 =>
 (fa P 25 r12.1 0 r12.2).bind fun r13 =>
 (ld P 23 r13.1 r13.2).bind fun r14 =>
 (vl (e 5) r14.2).bind fun r15 =>
 (ia P 23 r14.1 r15.1 r15.2).bind fun r16 =>
 (fa P 32 r16.1 0 r16.2).bind fun r17 =>
 (ld P 3 r17.1 r17.2).bind fun r18 =>
 (vl (e 4) r18.2).bind fun r19 =>
 (bo P .gtr 3 (.tmp 29) (.tmp 30) r18.1 r19.1 r19.2).bind fun r20 =>
 cnd r20.1 (
 (fa P 56 (e 3) 2 r20.2).bind fun r21 =>
 (fa P 25 r21.1 0 r21.2).bind fun r22 =>
 (ld P 23 r22.1 r22.2).bind fun r23 =>
 (vl (e 5) r23.2).bind fun r24 =>
 (ia P 23 r23.1 r24.1 r24.2).bind fun r25 =>
 (fa P 32 r25.1 0 r25.2).bind fun r26 =>
 (ld P 3 r26.1 r26.2).bind fun r27 =>
 (vl r27.1 r27.2).bind fun r28 =>
 spec_l20Ver_j1 (ups e [(12, r1.1), (13, r2.1), (16, r4.1), (17, r5.1), (18, r6.1), (19, r7.1), (20, r8.1), (21, r9.1), (22, r10.1), (23, r12.1), (24, r13.1), (25, r14.1), (26, r15.1), (27, r16.1), (28, r17.1), (29, r18.1), (30, r19.1), (31, r20.1), (32, r21.1), (33, r22.1), (34, r23.1), (35, r24.1), (36, r25.1), (37, r26.1), (38, r27.1), (4, r28.1)]) r28.2) (
 spec_l20Ver_j1 (ups e [(12, r1.1), (13, r2.1), (16, r4.1), (17, r5.1), (18, r6.1), (19, r7.1), (20, r8.1), (21, r9.1), (22, r10.1), (23, r12.1), (24, r13.1), (25, r14.1), (26, r15.1), (27, r16.1), (28, r17.1), (29, r18.1), (30, r19.1), (31, r20.1)]) r20.2)) (
 (vl (e 4) r2.2).bind fun r29 =>
 (bo P .add 3 (.tmp 39) (.const (.int .i64 1)) r29.1 (.int .i64 1) r29.2).bind fun r30 =>
 (vl (e 0) r30.2).bind fun r31 =>
 (EV P 62 #[r31.1, (.int .i64 3)] r31.2).bind fun r32 =>
 (bo P .add 3 (.tmp 40) (.tmp 42) r30.1 r32.1 r32.2).bind fun r33 =>
 (vl (e 0) r33.2).bind fun r34 =>
 (EV P 62 #[r34.1, (.int .i64 3)] r34.2).bind fun r35 =>
 (bd P 32 #[(0, r33.1), (1, r35.1)] r35.2).bind fun r36 =>
 (fa P 56 (e 3) 1 r36.2).bind fun r37 =>
 (st P 32 r37.1 r36.1 r37.2).bind fun r38 =>
 (vl (e 0) r38.2).bind fun r39 =>
 (EV P 62 #[r39.1, (.int .i64 6)] r39.2).bind fun r40 =>
 (bo P .eql 3 (.tmp 49) (.const (.int .i64 0)) r40.1 (.int .i64 0) r40.2).bind fun r41 =>
 cnd r41.1 (
 (fa P 56 (e 3) 3 r41.2).bind fun r42 =>
 (st P 9 r42.1 (Go.Value.string { data := #[] }) r42.2).bind fun r43 =>
 (fa P 56 (e 3) 4 r43.2).bind fun r44 =>
 (st P 4 r44.1 (.bool true) r44.2).bind fun r45 =>
 spec_l20Ver_j2 (ups e [(12, r1.1), (13, r2.1), (39, r29.1), (40, r30.1), (41, r31.1), (42, r32.1), (43, r33.1), (44, r34.1), (45, r35.1), (46, r36.1), (47, r37.1), (48, r39.1), (49, r40.1), (50, r41.1), (51, r42.1), (52, r44.1)]) r45.2) (
 spec_l20Ver_j2 (ups e [(12, r1.1), (13, r2.1), (39, r29.1), (40, r30.1), (41, r31.1), (42, r32.1), (43, r33.1), (44, r34.1), (45, r35.1), (46, r36.1), (47, r37.1), (48, r39.1), (49, r40.1), (50, r41.1)]) r41.2)) := (exC_loop P (EV P) 54 (cA (cA (cB (cA (cB (cB (cB (bodyOf P 109)))))))) e w (kBlock 0 (kSeq P (EV P) 54 (cB (cB (cB (cB (bodyOf P 109))))) (kFn P (fnOf P 109))))).trans (by kernel_rfl)
theorem spec_l20Ver_j1_eq (e : Env) (w : World) : spec_l20Ver_j1 e w =
 (vl (e 5) w).bind fun r1 =>
 (bo P .add 3 (.tmp 14) (.const (.int .i64 1)) r1.1 (.int .i64 1) r1.2).bind fun r2 =>
 (vl r2.1 r2.2).bind fun r3 =>
 spec_l20Ver_l1 (ups e [(14, r1.1), (15, r2.1), (5, r3.1)]) r3.2 := by kernel_rfl
theorem spec_l20Ver_j2_eq (e : Env) (w : World) : spec_l20Ver_j2 e w =
 (ld P 56 (e 3) w).bind fun r1 =>
 (st P 56 (e 2) r1.1 r1.2).bind fun r2 =>
 ((ld P 56 (e 2) r2.2).bind fun r3 => ifP (r3.2 = r2.2) (some r3.1)).bind fun v4 =>
 some (v4, r2.2) := by kernel_rfl
theorem spec_l20Ver_fn (x0 : Value) (w : World) : fnC P (EV P) 109 #[x0] w =
 (al P 56 w).bind fun r1 =>
 (vl x0 r1.2).bind fun r2 =>
 (EV P 62 #[r2.1, (.int .i64 4)] r2.2).bind fun r3 =>
 (EV P 95 #[] r3.2).bind fun r4 =>
 (vl x0 r4.2).bind fun r5 =>
 (EV P 122 #[r5.1] r5.2).bind fun r6 =>
 (bd P 56 #[(0, r3.1), (2, r4.1), (3, r6.1)] r6.2).bind fun r7 =>
 (al P 56 r7.2).bind fun r8 =>
 (st P 56 r8.1 r7.1 r8.2).bind fun r9 =>
 (vl (.int .i64 0) r9.2).bind fun r10 =>
 (vl (.int .i64 0) r10.2).bind fun r11 =>
 spec_l20Ver_l1 (ups (env0 #[x0]) [(2, r1.1), (6, r2.1), (7, r3.1), (8, r4.1), (9, r5.1), (10, r6.1), (11, r7.1), (3, r8.1), (4, r10.1), (5, r11.1)]) r11.2 := by kernel_rfl

/-! spec_l20Rd_one -/
theorem spec_l20Rd_one_fn (x0 x1 : Value) (w : World) : fnC P (EV P) 110 #[x0, x1] w =
 (vl (.int .i64 0) w).bind fun r1 =>
 (vl x1 r1.2).bind fun r2 =>
 (vl x0 r2.2).bind fun r3 =>
 (vl x1 r3.2).bind fun r4 =>
 (b_len P #[109] 3 #[r4.1] r4.2).bind fun r5 =>
 (EV P 62 #[r3.1, r5.1] r5.2).bind fun r6 =>
 (ia P 109 r2.1 r6.1 r6.2).bind fun r7 =>
 (ld P 3 r7.1 r7.2).bind fun r8 =>
 (vl r8.1 r8.2).bind fun r9 =>
 some (r9.1, r9.2) := by kernel_rfl

/-! spec_l20Rd_of -/
theorem spec_l20Rd_of_fn (x0 x1 : Value) (w : World) : fnC P (EV P) 111 #[x0, x1] w =
 (vl (Go.Value.string { data := #[] }) w).bind fun r1 =>
 (vl x1 r1.2).bind fun r2 =>
 (vl x0 r2.2).bind fun r3 =>
 (vl x1 r3.2).bind fun r4 =>
 (b_len P #[111] 3 #[r4.1] r4.2).bind fun r5 =>
 (EV P 62 #[r3.1, r5.1] r5.2).bind fun r6 =>
 (ia P 111 r2.1 r6.1 r6.2).bind fun r7 =>
 (ld P 9 r7.1 r7.2).bind fun r8 =>
 (vl r8.1 r8.2).bind fun r9 =>
 some (r9.1, r9.2) := by kernel_rfl

/-! impl_versCopied -/
noncomputable def impl_versCopied_l1 (e : Env) (w : World) : Option (Value × World) := exC P (EV P) 22 (.loop (cA (cA (cB (cA (cB (cB (bodyOf P 112)))))))) e w (kBlock 0 (kSeq P (EV P) 22 (cB (cB (cB (bodyOf P 112)))) (kFn P (fnOf P 112))))
theorem impl_versCopied_l1_eq (e : Env) (w : World) : impl_versCopied_l1 e w =
 (bo P .lss 3 (.tmp 11) (.tmp 10) (e 11) (e 10) w).bind fun r1 =>
 cnd r1.1 (
 (ia P 47 (e 9) (e 11) r1.2).bind fun r2 =>
 (ld P 56 r2.1 r2.2).bind fun r3 =>
 (al P 56 r3.2).bind fun r4 =>
 (st P 56 r4.1 r3.1 r4.2).bind fun r5 =>
 (vl (e 3) r5.2).bind fun r6 =>
 (ld P 56 r4.1 r6.2).bind fun r7 =>
 (EV P 84 #[r7.1] r7.2).bind fun r8 =>
 (bs P 47 1 #[(0, r8.1)] r8.2).bind fun r9 =>
 (b_append P #[47, 47] 47 #[r6.1, r9.1] r9.2).bind fun r10 =>
 (vl r10.1 r10.2).bind fun r11 =>
 (bo P .add 3 (.tmp 11) (.const (.int .i64 1)) (e 11) (.int .i64 1) r11.2).bind fun r12 =>
 (vl r12.1 r12.2).bind fun r13 =>
 impl_versCopied_l1 (ups e [(12, r1.1), (13, r2.1), (14, r3.1), (5, r4.1), (15, r6.1), (16, r7.1), (17, r8.1), (18, r9.1), (19, r10.1), (3, r11.1), (20, r12.1), (11, r13.1)]) r13.2) (
 (vl (e 3) r1.2).bind fun r14 =>
 (vl r14.1 r14.2).bind fun r15 =>
 some (r15.1, r15.2)) := (exC_loop P (EV P) 22 (cA (cA (cB (cA (cB (cB (bodyOf P 112))))))) e w (kBlock 0 (kSeq P (EV P) 22 (cB (cB (cB (bodyOf P 112)))) (kFn P (fnOf P 112))))).trans (by kernel_rfl)
theorem impl_versCopied_fn (x0 : Value) (w : World) : fnC P (EV P) 112 #[x0] w =
 (vl (Go.Value.slice none 0 0) w).bind fun r1 =>
 (vl x0 r1.2).bind fun r2 =>
 (b_len P #[47] 3 #[r2.1] r2.2).bind fun r3 =>
 (ms P 47 (.int .i64 0) r3.1 r3.2).bind fun r4 =>
 (vl r4.1 r4.2).bind fun r5 =>
 (vl x0 r5.2).bind fun r6 =>
 (b_len P #[47] 3 #[r6.1] r6.2).bind fun r7 =>
 (vl (.int .i64 0) r7.2).bind fun r8 =>
 impl_versCopied_l1 (ups (env0 #[x0]) [(2, r1.1), (6, r2.1), (7, r3.1), (8, r4.1), (3, r5.1), (9, r6.1), (10, r7.1), (11, r8.1)]) r8.2 := by kernel_rfl

/-! spec_l1In -/
theorem spec_l1In_fn (x0 x1 x2 : Value) (w : World) : fnC P (EV P) 113 #[x0, x1, x2] w =
 (vl (.bool false) w).bind fun r1 =>
 (vl x0 r1.2).bind fun r2 =>
 (vl x1 r2.2).bind fun r3 =>
 (bo P .geq 3 (.tmp 7) (.tmp 8) r2.1 r3.1 r3.2).bind fun r4 =>
 (vl r4.1 r4.2).bind fun r5 =>
 (gif r5.1 true (vl x0 r5.2) r5.2).bind fun r6 =>
 (gif r5.1 true (vl x2 r6.2) r6.2).bind fun r7 =>
 (gif r5.1 true (bo P .leq 3 (.tmp 11) (.tmp 12) r6.1 r7.1 r7.2) r7.2).bind fun r8 =>
 (pickV r5.1 r8.1 (.bool false) r8.2).bind fun r9 =>
 (vl r9.1 r9.2).bind fun r10 =>
 some (r10.1, r10.2) := by kernel_rfl

/-! spec_l2TextOk -/
noncomputable def spec_l2TextOk_l1 (e : Env) (w : World) : Option (Value × World) := exC P (EV P) 23 (.loop (cA (cA (cB (cA (cB (bodyOf P 114))))))) e w (kBlock 0 (kSeq P (EV P) 23 (cB (cB (bodyOf P 114))) (kFn P (fnOf P 114))))
theorem spec_l2TextOk_l1_eq (e : Env) (w : World) : spec_l2TextOk_l1 e w =
 (vl (e 3) w).bind fun r1 =>
 (vl (e 0) r1.2).bind fun r2 =>
 (b_len P #[9] 3 #[r2.1] r2.2).bind fun r3 =>
 (bo P .lss 3 (.tmp 4) (.tmp 6) r1.1 r3.1 r3.2).bind fun r4 =>
 cnd r4.1 (
 (vl (e 0) r4.2).bind fun r5 =>
 (vl (e 3) r5.2).bind fun r6 =>
 (ix P 9 r5.1 r6.1 r6.2).bind fun r7 =>
 (bo P .lss 5 (.tmp 12) (.const (.int .u8 33)) r7.1 (.int .u8 33) r7.2).bind fun r8 =>
 (vl r8.1 r8.2).bind fun r9 =>
 (gif r9.1 false (vl (e 0) r9.2) r9.2).bind fun r10 =>
 (gif r9.1 false (vl (e 3) r10.2) r10.2).bind fun r11 =>
 (gif r9.1 false (ix P 9 r10.1 r11.1 r11.2) r11.2).bind fun r12 =>
 (gif r9.1 false (bo P .gtr 5 (.tmp 17) (.const (.int .u8 126)) r12.1 (.int .u8 126) r12.2) r12.2).bind fun r13 =>
 (pickV r9.1 (.bool true) r13.1 r13.2).bind fun r14 =>
 cnd r14.1 (
 (vl (.bool false) r14.2).bind fun r15 =>
 some (r15.1, r15.2)) (
 (vl (e 3) r14.2).bind fun r16 =>
 (bo P .add 3 (.tmp 8) (.const (.int .i64 1)) r16.1 (.int .i64 1) r16.2).bind fun r17 =>
 (vl r17.1 r17.2).bind fun r18 =>
 spec_l2TextOk_l1 (ups e [(4, r1.1), (5, r2.1), (6, r3.1), (7, r4.1), (10, r5.1), (11, r6.1), (12, r7.1), (13, r8.1), (14, r9.1), (15, r10.1), (16, r11.1), (17, r12.1), (18, r13.1), (19, r14.1), (8, r16.1), (9, r17.1), (3, r18.1)]) r18.2)) (
 (vl (e 0) r4.2).bind fun r19 =>
 (b_len P #[9] 3 #[r19.1] r19.2).bind fun r20 =>
 (bo P .leq 3 (.tmp 21) (.const (.int .i64 8)) r20.1 (.int .i64 8) r20.2).bind fun r21 =>
 (vl r21.1 r21.2).bind fun r22 =>
 some (r22.1, r22.2)) := (exC_loop P (EV P) 23 (cA (cA (cB (cA (cB (bodyOf P 114)))))) e w (kBlock 0 (kSeq P (EV P) 23 (cB (cB (bodyOf P 114))) (kFn P (fnOf P 114))))).trans (by kernel_rfl)
theorem spec_l2TextOk_fn (x0 : Value) (w : World) : fnC P (EV P) 114 #[x0] w =
 (vl (.bool false) w).bind fun r1 =>
 (vl (.int .i64 0) r1.2).bind fun r2 =>
 spec_l2TextOk_l1 (ups (env0 #[x0]) [(2, r1.1), (3, r2.1)]) r2.2 := by kernel_rfl

/-! spec_l2Copy -/
theorem spec_l2Copy_fn (x0 : Value) (w : World) : fnC P (EV P) 115 #[x0] w =
 (bx P 56 x0 w).bind fun r1 =>
 (al P 56 r1.2).bind fun r2 =>
 (bs P 23 0 #[] r2.2).bind fun r3 =>
 (fa P 56 r1.1 2 r3.2).bind fun r4 =>
 (fa P 25 r4.1 0 r4.2).bind fun r5 =>
 (ld P 23 r5.1 r5.2).bind fun r6 =>
 (b_append P #[23, 23] 23 #[r3.1, r6.1] r6.2).bind fun r7 =>
 (bd P 25 #[(0, r7.1)] r7.2).bind fun r8 =>
 (fa P 56 r1.1 2 r8.2).bind fun r9 =>
 (st P 25 r9.1 r8.1 r9.2).bind fun r10 =>
 (ld P 56 r1.1 r10.2).bind fun r11 =>
 (st P 56 r2.1 r11.1 r11.2).bind fun r12 =>
 ((ld P 56 r2.1 r12.2).bind fun r13 => ifP (r13.2 = r12.2) (some r13.1)).bind fun v14 =>
 some (v14, r12.2) := by kernel_rfl

/-! impl_keyOk -/
theorem impl_keyOk_fn (x0 : Value) (w : World) : fnC P (EV P) 116 #[x0] w =
 (vl (.bool false) w).bind fun r1 =>
 (vl x0 r1.2).bind fun r2 =>
 (EV P 102 #[r2.1, (.int .i64 0), (.int .i64 3)] r2.2).bind fun r3 =>
 (vl r3.1 r3.2).bind fun r4 =>
 some (r4.1, r4.2) := by kernel_rfl

/-! impl_textOk -/
noncomputable def impl_textOk_l1 (e : Env) (w : World) : Option (Value × World) := exC P (EV P) 19 (.loop (cA (cA (cB (cA (cB (bodyOf P 117))))))) e w (kBlock 0 (kSeq P (EV P) 19 (cB (cB (bodyOf P 117))) (kFn P (fnOf P 117))))
theorem impl_textOk_l1_eq (e : Env) (w : World) : impl_textOk_l1 e w =
 (bo P .lss 3 (.tmp 6) (.tmp 5) (e 6) (e 5) w).bind fun r1 =>
 cnd r1.1 (
 (vl (e 6) r1.2).bind fun r2 =>
 (vl r2.1 r2.2).bind fun r3 =>
 (vl (e 0) r3.2).bind fun r4 =>
 (vl r3.1 r4.2).bind fun r5 =>
 (ix P 9 r4.1 r5.1 r5.2).bind fun r6 =>
 (cv P 5 3 r6.1 r6.2).bind fun r7 =>
 (EV P 102 #[r7.1, (.int .i64 33), (.int .i64 126)] r7.2).bind fun r8 =>
 (uo P .not r8.1 r8.2).bind fun r9 =>
 cnd r9.1 (
 (vl (.bool false) r9.2).bind fun r10 =>
 some (r10.1, r10.2)) (
 (bo P .add 3 (.tmp 6) (.const (.int .i64 1)) (e 6) (.int .i64 1) r9.2).bind fun r11 =>
 (vl r11.1 r11.2).bind fun r12 =>
 impl_textOk_l1 (ups e [(7, r1.1), (8, r2.1), (3, r3.1), (9, r4.1), (10, r5.1), (11, r6.1), (12, r7.1), (13, r8.1), (14, r9.1), (15, r11.1), (6, r12.1)]) r12.2)) (
 (vl (e 0) r1.2).bind fun r13 =>
 (b_len P #[9] 3 #[r13.1] r13.2).bind fun r14 =>
 (bo P .leq 3 (.tmp 17) (.const (.int .i64 8)) r14.1 (.int .i64 8) r14.2).bind fun r15 =>
 (vl r15.1 r15.2).bind fun r16 =>
 some (r16.1, r16.2)) := (exC_loop P (EV P) 19 (cA (cA (cB (cA (cB (bodyOf P 117)))))) e w (kBlock 0 (kSeq P (EV P) 19 (cB (cB (bodyOf P 117))) (kFn P (fnOf P 117))))).trans (by kernel_rfl)
theorem impl_textOk_fn (x0 : Value) (w : World) : fnC P (EV P) 117 #[x0] w =
 (vl (.bool false) w).bind fun r1 =>
 (vl x0 r1.2).bind fun r2 =>
 (b_len P #[9] 3 #[r2.1] r2.2).bind fun r3 =>
 (vl (.int .i64 0) r3.2).bind fun r4 =>
 impl_textOk_l1 (ups (env0 #[x0]) [(2, r1.1), (4, r2.1), (5, r3.1), (6, r4.1)]) r4.2 := by kernel_rfl

/-! impl_Tag_compare -/
theorem impl_Tag_compare_fn (x0 x1 : Value) (w : World) : fnC P (EV P) 118 #[x0, x1] w =
 (bx P 32 x0 w).bind fun r1 =>
 (bx P 32 x1 r1.2).bind fun r2 =>
 (vl (.int .i64 0) r2.2).bind fun r3 =>
 (fa P 32 r1.1 0 (dw r3.2)).bind fun r5 =>
 ifP (r5.2 = (dw r3.2)) <|
 (ld P 3 r5.1 (dw r3.2)).bind fun r6 =>
 ifP (r6.2 = (dw r3.2)) <|
 (fa P 32 r2.1 0 (dw r3.2)).bind fun r7 =>
 ifP (r7.2 = (dw r3.2)) <|
 (ld P 3 r7.1 (dw r3.2)).bind fun r8 =>
 ifP (r8.2 = (dw r3.2)) <|
 (fa P 32 r1.1 1 (dw r3.2)).bind fun r9 =>
 ifP (r9.2 = (dw r3.2)) <|
 (ld P 3 r9.1 (dw r3.2)).bind fun r10 =>
 ifP (r10.2 = (dw r3.2)) <|
 (fa P 32 r2.1 1 (dw r3.2)).bind fun r11 =>
 ifP (r11.2 = (dw r3.2)) <|
 (ld P 3 r11.1 (dw r3.2)).bind fun r12 =>
 ifP (r12.2 = (dw r3.2)) <|
 (EV P 124 #[r6.1, r8.1] (dw r3.2)).bind fun r13 =>
 ifP (ld P 3 r11.1 r13.2 = some (r12.1, r13.2) ∧ fa P 32 r2.1 1 r13.2 = some (r11.1, r13.2) ∧ ld P 3 r9.1 r13.2 = some (r10.1, r13.2) ∧ fa P 32 r1.1 1 r13.2 = some (r9.1, r13.2) ∧ True ∧ True ∧ True ∧ True ∧ True) <|
 (EV P 124 #[r10.1, r12.1] r13.2).bind fun r14 =>
 ifP (True ∧ True ∧ True ∧ True ∧ True ∧ True ∧ True ∧ True ∧ True) <|
 (bs P 109 2 #[(0, r13.1), (1, r14.1)] r14.2).bind fun r15 =>
 ifP (True ∧ True ∧ True ∧ True ∧ True ∧ True ∧ True ∧ True ∧ True) <|
 (EV P 123 #[r15.1] r15.2).bind fun r16 =>
 ifP (True ∧ True ∧ True ∧ True ∧ True ∧ True ∧ True ∧ True ∧ True) <|
 (vl r16.1 r16.2).bind fun r17 =>
 ifP (r17.2 = r16.2) <|
 some (r17.1, r16.2) := by kernel_rfl

/-! slices_Clip_Tag -/
theorem slices_Clip_Tag_fn (x0 : Value) (w : World) : fnC P (EV P) 119 #[x0] w =
 (vl (Go.Value.slice none 0 0) w).bind fun r1 =>
 (vl x0 r1.2).bind fun r2 =>
 (vl x0 r2.2).bind fun r3 =>
 (b_len P #[23] 3 #[r3.1] r3.2).bind fun r4 =>
 (vl x0 r4.2).bind fun r5 =>
 (b_len P #[23] 3 #[r5.1] r5.2).bind fun r6 =>
 (sl P 23 r2.1 none (some r4.1) (some r6.1) r6.2).bind fun r7 =>
 (vl r7.1 r7.2).bind fun r8 =>
 some (r8.1, r8.2) := by kernel_rfl

/-! slices_Clone_Tag -/
theorem slices_Clone_Tag_fn (x0 : Value) (w : World) : fnC P (EV P) 120 #[x0] w =
 (vl (Go.Value.slice none 0 0) w).bind fun r1 =>
 (vl x0 r1.2).bind fun r2 =>
 (bo P .eql 23 (.tmp 3) (.const (Go.Value.slice none 0 0)) r2.1 (Go.Value.slice none 0 0) r2.2).bind fun r3 =>
 cnd r3.1 (
 (vl (Go.Value.slice none 0 0) r3.2).bind fun r4 =>
 some (r4.1, r4.2)) (
 (bs P 23 0 #[] r3.2).bind fun r5 =>
 (vl x0 r5.2).bind fun r6 =>
 (b_append P #[23, 23] 23 #[r5.1, r6.1] r6.2).bind fun r7 =>
 (vl r7.1 r7.2).bind fun r8 =>
 some (r8.1, r8.2)) := by kernel_rfl

/-! spec_l2New -/
theorem spec_l2New_fn (w : World) : fnC P (EV P) 121 #[] w =
 (al P 49 w).bind fun r1 =>
 (ms P 47 (.int .i64 4) (.int .i64 4) r1.2).bind fun r2 =>
 (bd P 49 #[(0, r2.1)] r2.2).bind fun r3 =>
 (st P 49 r1.1 r3.1 r3.2).bind fun r4 =>
 ((ld P 49 r1.1 r4.2).bind fun r5 => ifP (r5.2 = r4.2) (some r5.1)).bind fun v6 =>
 some (v6, r4.2) := by kernel_rfl

/-! spec_l20Text -/
theorem spec_l20Text_fn (x0 : Value) (w : World) : fnC P (EV P) 122 #[x0] w =
 (vl (Go.Value.string { data := #[] }) w).bind fun r1 =>
 (vl x0 r1.2).bind fun r2 =>
 (bs P 111 8 #[(0, (Go.Value.string { data := #[] })), (1, (Go.Value.string { data := #[97] })), (2, (Go.Value.string { data := #[98] })), (3, (Go.Value.string { data := #[120, 35, 49] })), (4, (Go.Value.string { data := #[61] })), (5, (Go.Value.string { data := #[45] })), (6, (Go.Value.string { data := #[108, 111, 110, 103, 116, 101, 120, 116] })), (7, (Go.Value.string { data := #[122, 122] }))] r2.2).bind fun r3 =>
 (EV P 111 #[r2.1, r3.1] r3.2).bind fun r4 =>
 (vl r4.1 r4.2).bind fun r5 =>
 some (r5.1, r5.2) := by kernel_rfl

/-! cmp_Or_int -/
noncomputable def cmp_Or_int_l1 (e : Env) (w : World) : Option (Value × World) := exC P (EV P) 18 (.loop (cA (cA (cB (cA (cB (cB (bodyOf P 123)))))))) e w (kBlock 0 (kSeq P (EV P) 18 (cB (cB (cB (bodyOf P 123)))) (kFn P (fnOf P 123))))
theorem cmp_Or_int_l1_eq (e : Env) (w : World) : cmp_Or_int_l1 e w =
 (bo P .lss 3 (.tmp 8) (.tmp 7) (e 8) (e 7) w).bind fun r1 =>
 cnd r1.1 (
 (ia P 109 (e 6) (e 8) r1.2).bind fun r2 =>
 (ld P 3 r2.1 r2.2).bind fun r3 =>
 (vl r3.1 r3.2).bind fun r4 =>
 (vl r4.1 r4.2).bind fun r5 =>
 (vl (e 3) r5.2).bind fun r6 =>
 (bo P .neq 3 (.tmp 12) (.tmp 13) r5.1 r6.1 r6.2).bind fun r7 =>
 cnd r7.1 (
 (vl r4.1 r7.2).bind fun r8 =>
 (vl r8.1 r8.2).bind fun r9 =>
 some (r9.1, r9.2)) (
 (bo P .add 3 (.tmp 8) (.const (.int .i64 1)) (e 8) (.int .i64 1) r7.2).bind fun r10 =>
 (vl r10.1 r10.2).bind fun r11 =>
 cmp_Or_int_l1 (ups e [(9, r1.1), (10, r2.1), (11, r3.1), (5, r4.1), (12, r5.1), (13, r6.1), (14, r7.1), (16, r10.1), (8, r11.1)]) r11.2)) (
 (vl (e 3) r1.2).bind fun r12 =>
 (vl r12.1 r12.2).bind fun r13 =>
 some (r13.1, r13.2)) := (exC_loop P (EV P) 18 (cA (cA (cB (cA (cB (cB (bodyOf P 123))))))) e w (kBlock 0 (kSeq P (EV P) 18 (cB (cB (cB (bodyOf P 123)))) (kFn P (fnOf P 123))))).trans (by kernel_rfl)
theorem cmp_Or_int_fn (x0 : Value) (w : World) : fnC P (EV P) 123 #[x0] w =
 (vl (.int .i64 0) w).bind fun r1 =>
 (vl (.int .i64 0) r1.2).bind fun r2 =>
 (vl x0 r2.2).bind fun r3 =>
 (b_len P #[109] 3 #[r3.1] r3.2).bind fun r4 =>
 (vl (.int .i64 0) r4.2).bind fun r5 =>
 cmp_Or_int_l1 (ups (env0 #[x0]) [(2, r1.1), (3, r2.1), (6, r3.1), (7, r4.1), (8, r5.1)]) r5.2 := by kernel_rfl

/-! cmp_Compare_int -/
theorem cmp_Compare_int_fn (x0 x1 : Value) (w : World) : fnC P (EV P) 124 #[x0, x1] w =
 (vl (.int .i64 0) w).bind fun r1 =>
 (vl x0 r1.2).bind fun r2 =>
 (EV P 125 #[r2.1] r2.2).bind fun r3 =>
 (vl r3.1 r3.2).bind fun r4 =>
 (vl x1 r4.2).bind fun r5 =>
 (EV P 125 #[r5.1] r5.2).bind fun r6 =>
 (vl r6.1 r6.2).bind fun r7 =>
 (vl r4.1 r7.2).bind fun r8 =>
 cnd r8.1 (
 (vl r7.1 r8.2).bind fun r9 =>
 cnd r9.1 (
 (vl (.int .i64 0) r9.2).bind fun r10 =>
 some (r10.1, r10.2)) (
 (vl (.int .i64 (-1)) r9.2).bind fun r11 =>
 some (r11.1, r11.2))) (
 (vl r7.1 r8.2).bind fun r12 =>
 cnd r12.1 (
 (vl (.int .i64 1) r12.2).bind fun r13 =>
 some (r13.1, r13.2)) (
 (vl x0 r12.2).bind fun r14 =>
 (vl x1 r14.2).bind fun r15 =>
 (bo P .lss 3 (.tmp 14) (.tmp 15) r14.1 r15.1 r15.2).bind fun r16 =>
 cnd r16.1 (
 (vl (.int .i64 (-1)) r16.2).bind fun r17 =>
 some (r17.1, r17.2)) (
 (vl x0 r16.2).bind fun r18 =>
 (vl x1 r18.2).bind fun r19 =>
 (bo P .gtr 3 (.tmp 17) (.tmp 18) r18.1 r19.1 r19.2).bind fun r20 =>
 cnd r20.1 (
 (vl (.int .i64 1) r20.2).bind fun r21 =>
 some (r21.1, r21.2)) (
 (vl (.int .i64 0) r20.2).bind fun r22 =>
 some (r22.1, r22.2))))) := by kernel_rfl

/-! cmp_isNaN_int -/
theorem cmp_isNaN_int_fn (x0 : Value) (w : World) : fnC P (EV P) 125 #[x0] w =
 (vl (.bool false) w).bind fun r1 =>
 (vl x0 r1.2).bind fun r2 =>
 (vl x0 r2.2).bind fun r3 =>
 (bo P .neq 3 (.tmp 3) (.tmp 4) r2.1 r3.1 r3.2).bind fun r4 =>
 (vl r4.1 r4.2).bind fun r5 =>
 some (r5.1, r5.2) := by kernel_rfl

end Go.Proofs.Ytjpacbedcocohaa.X
