/- A part of the proof: an evaluator of the model, its laws, and contracts of functions; no condition. -/
import Derived.Test.YtjagkbamkohnoaaGreatEvT
set_option linter.unusedVariables false
set_option maxRecDepth 100000
namespace Go.Proofs.YtjagkbamkohnoaaGreat.X
open Go Go.Ev
noncomputable def spec_l3Fall_j1 (e : Env) (w : World) : Option (Value × World) := exC P (EV P) 72 56 (cB (cB (cB (cB (Yi P 72))))) e w (kFn P (fnOf P 72))
theorem spec_l3Fall_j1_eq (e : Env) (w : World) : spec_l3Fall_j1 e w =
 (fa P 25 (e 2) 0 w).bind fun r1 =>
 (ld P 23 r1.1 r1.2).bind fun r2 =>
 (vl (e 5) r2.2).bind fun r3 =>
 (bo P .sub 3 (.tmp 51) (.const (.int .i64 1)) r3.1 (.int .i64 1) r3.2).bind fun r4 =>
 (ia P 23 r2.1 r4.1 r4.2).bind fun r5 =>
 (fa P 36 r5.1 1 r5.2).bind fun r6 =>
 (st P 32 r6.1 (Go.Value.slice none 0 0) r6.2).bind fun r7 =>
 (ld P 25 (e 2) r7.2).bind fun r8 =>
 (st P 25 (e 4) r8.1 r8.2).bind fun r9 =>
 ((ld P 25 (e 4) r9.2).bind fun r10 => ifP (r10.2 = r9.2) (some r10.1)).bind fun v11 =>
 some (v11, r9.2) := by kernel_rfl
theorem spec_l3Fall_fn (x0 x1 : Value) (w : World) : fnC P (EV P) 72 #[x0, x1] w =
 (bx P 25 x0 w).bind fun r1 =>
 (al P 25 r1.2).bind fun r2 =>
 (fa P 25 r1.1 0 (dw r2.2)).bind fun r4 =>
 ifP (r4.2 = (dw r2.2)) <|
 (ld P 23 r4.1 (dw r2.2)).bind fun r5 =>
 ifP (r5.2 = (dw r2.2)) <|
 (vl x1 (dw r2.2)).bind fun r6 =>
 ifP (r6.2 = (dw r2.2)) <|
 (sl P 23 r5.1 none (some r6.1) none (dw r2.2)).bind fun r7 =>
 ifP (r7.2 = (dw r2.2)) <|
 (fa P 25 r1.1 0 (dw r2.2)).bind fun r8 =>
 ifP (r8.2 = (dw r2.2)) <|
 (ld P 23 r8.1 (dw r2.2)).bind fun r9 =>
 ifP (r9.2 = (dw r2.2)) <|
 (vl x1 (dw r2.2)).bind fun r10 =>
 ifP (r10.2 = (dw r2.2)) <|
 (bo P .add 3 (.tmp 14) (.const (.int .i64 1)) r10.1 (.int .i64 1) (dw r2.2)).bind fun r11 =>
 ifP (r11.2 = (dw r2.2)) <|
 (sl P 23 r9.1 (some r11.1) none none (dw r2.2)).bind fun r12 =>
 ifP (r12.2 = (dw r2.2)) <|
 (bs P 23 0 #[] (dw r2.2)).bind fun r13 =>
 ifP (sl P 23 r9.1 (some r11.1) none none r13.2 = some (r12.1, r13.2) ∧ bo P .add 3 (.tmp 14) (.const (.int .i64 1)) r10.1 (.int .i64 1) r13.2 = some (r11.1, r13.2) ∧ ld P 23 r8.1 r13.2 = some (r9.1, r13.2) ∧ fa P 25 r1.1 0 r13.2 = some (r8.1, r13.2) ∧ sl P 23 r5.1 none (some r6.1) none r13.2 = some (r7.1, r13.2) ∧ ld P 23 r4.1 r13.2 = some (r5.1, r13.2) ∧ fa P 25 r1.1 0 r13.2 = some (r4.1, r13.2) ∧ True) <|
 (b_append P #[23, 23] 23 #[r13.1, r7.1] r13.2).bind fun r14 =>
 ifP (sl P 23 r9.1 (some r11.1) none none r14.2 = some (r12.1, r14.2) ∧ bo P .add 3 (.tmp 14) (.const (.int .i64 1)) r10.1 (.int .i64 1) r14.2 = some (r11.1, r14.2) ∧ ld P 23 r8.1 r14.2 = some (r9.1, r14.2) ∧ fa P 25 r1.1 0 r14.2 = some (r8.1, r14.2) ∧ True ∧ True ∧ True ∧ True) <|
 (b_append P #[23, 23] 23 #[r14.1, r12.1] r14.2).bind fun r15 =>
 ifP (True ∧ True ∧ True ∧ True ∧ True ∧ True ∧ True ∧ True) <|
 (fa P 25 r1.1 0 r15.2).bind fun r16 =>
 ifP (r16.2 = r15.2) <|
 (st P 23 r16.1 r15.1 r15.2).bind fun r17 =>
 ifP (True ∧ True ∧ True ∧ True ∧ True ∧ True ∧ True ∧ True ∧ True) <|
 (fa P 25 r1.1 0 r17.2).bind fun r18 =>
 (ld P 23 r18.1 r18.2).bind fun r19 =>
 (Yp P #[23] 3 #[r19.1] r19.2).bind fun r20 =>
 (vl r20.1 r20.2).bind fun r21 =>
 (vl x1 r21.2).bind fun r22 =>
 (bo P .gtr 3 (.tmp 22) (.const (.int .i64 0)) r22.1 (.int .i64 0) r22.2).bind fun r23 =>
 (vl r23.1 r23.2).bind fun r24 =>
 (gif r24.1 true (vl x1 r24.2) r24.2).bind fun r25 =>
 (gif r24.1 true (vl r21.1 r25.2) r25.2).bind fun r26 =>
 (gif r24.1 true (bo P .lss 3 (.tmp 25) (.tmp 26) r25.1 r26.1 r26.2) r26.2).bind fun r27 =>
 (pickV r24.1 r27.1 (.bool false) r27.2).bind fun r28 =>
 cnd r28.1 (
 (fa P 25 r1.1 0 (dw r28.2)).bind fun r30 =>
 ifP (r30.2 = (dw r28.2)) <|
 (ld P 23 r30.1 (dw r28.2)).bind fun r31 =>
 ifP (r31.2 = (dw r28.2)) <|
 (vl x1 (dw r28.2)).bind fun r32 =>
 ifP (r32.2 = (dw r28.2)) <|
 (bo P .sub 3 (.tmp 31) (.const (.int .i64 1)) r32.1 (.int .i64 1) (dw r28.2)).bind fun r33 =>
 ifP (r33.2 = (dw r28.2)) <|
 (fa P 25 r1.1 0 (dw r28.2)).bind fun r34 =>
 ifP (r34.2 = (dw r28.2)) <|
 (ld P 23 r34.1 (dw r28.2)).bind fun r35 =>
 ifP (r35.2 = (dw r28.2)) <|
 (vl x1 (dw r28.2)).bind fun r36 =>
 ifP (r36.2 = (dw r28.2)) <|
 (bo P .sub 3 (.tmp 35) (.const (.int .i64 1)) r36.1 (.int .i64 1) (dw r28.2)).bind fun r37 =>
 ifP (r37.2 = (dw r28.2)) <|
 (ia P 23 r35.1 r37.1 (dw r28.2)).bind fun r38 =>
 ifP (r38.2 = (dw r28.2)) <|
 (fa P 36 r38.1 0 (dw r28.2)).bind fun r39 =>
 ifP (r39.2 = (dw r28.2)) <|
 (ld P 34 r39.1 (dw r28.2)).bind fun r40 =>
 ifP (r40.2 = (dw r28.2)) <|
 (fa P 25 r1.1 0 (dw r28.2)).bind fun r41 =>
 ifP (r41.2 = (dw r28.2)) <|
 (ld P 23 r41.1 (dw r28.2)).bind fun r42 =>
 ifP (r42.2 = (dw r28.2)) <|
 (vl x1 (dw r28.2)).bind fun r43 =>
 ifP (r43.2 = (dw r28.2)) <|
 (ia P 23 r42.1 r43.1 (dw r28.2)).bind fun r44 =>
 ifP (r44.2 = (dw r28.2)) <|
 (fa P 36 r44.1 0 (dw r28.2)).bind fun r45 =>
 ifP (r45.2 = (dw r28.2)) <|
 (ld P 34 r45.1 (dw r28.2)).bind fun r46 =>
 ifP (r46.2 = (dw r28.2)) <|
 (EV P 96 #[r40.1, r46.1] (dw r28.2)).bind fun r47 =>
 ifP (True ∧ True ∧ True ∧ True ∧ True ∧ True ∧ True ∧ True ∧ True ∧ True ∧ True ∧ bo P .sub 3 (.tmp 31) (.const (.int .i64 1)) r32.1 (.int .i64 1) r47.2 = some (r33.1, r47.2) ∧ ld P 23 r30.1 r47.2 = some (r31.1, r47.2) ∧ fa P 25 r1.1 0 r47.2 = some (r30.1, r47.2) ∧ True) <|
 (ia P 23 r31.1 r33.1 r47.2).bind fun r48 =>
 ifP (r48.2 = r47.2) <|
 (fa P 36 r48.1 1 r47.2).bind fun r49 =>
 ifP (r49.2 = r47.2) <|
 (st P 32 r49.1 r47.1 r47.2).bind fun r50 =>
 ifP (True ∧ True ∧ True ∧ True ∧ True ∧ True ∧ True ∧ True ∧ True ∧ True ∧ True ∧ True ∧ True ∧ True ∧ True ∧ True ∧ True) <|
 spec_l3Fall_j1 (ups (env0 #[x0, x1]) [(2, r1.1), (4, r2.1), (7, r4.1), (8, r5.1), (9, r6.1), (10, r7.1), (12, r8.1), (13, r9.1), (14, r10.1), (15, r11.1), (16, r12.1), (6, r13.1), (11, r14.1), (17, r15.1), (18, r16.1), (19, r18.1), (20, r19.1), (21, r20.1), (5, r21.1), (22, r22.1), (23, r23.1), (24, r24.1), (25, r25.1), (26, r26.1), (27, r27.1), (28, r28.1), (29, r30.1), (30, r31.1), (31, r32.1), (32, r33.1), (33, r34.1), (34, r35.1), (35, r36.1), (36, r37.1), (37, r38.1), (38, r39.1), (39, r40.1), (40, r41.1), (41, r42.1), (42, r43.1), (43, r44.1), (44, r45.1), (45, r46.1), (46, r47.1), (47, r48.1), (48, r49.1)]) r50.2) (
 spec_l3Fall_j1 (ups (env0 #[x0, x1]) [(2, r1.1), (4, r2.1), (7, r4.1), (8, r5.1), (9, r6.1), (10, r7.1), (12, r8.1), (13, r9.1), (14, r10.1), (15, r11.1), (16, r12.1), (6, r13.1), (11, r14.1), (17, r15.1), (18, r16.1), (19, r18.1), (20, r19.1), (21, r20.1), (5, r21.1), (22, r22.1), (23, r23.1), (24, r24.1), (25, r25.1), (26, r26.1), (27, r27.1), (28, r28.1)]) r28.2) := by kernel_rfl
theorem spec_l3Join_fn (x0 : Value) (w : World) : fnC P (EV P) 73 #[x0] w =
 (bx P 25 x0 w).bind fun r1 =>
 (al P 25 r1.2).bind fun r2 =>
 (fa P 25 r1.1 0 r2.2).bind fun r3 =>
 (ld P 23 r3.1 r3.2).bind fun r4 =>
 (Yp P #[23] 3 #[r4.1] r4.2).bind fun r5 =>
 (vl r5.1 r5.2).bind fun r6 =>
 (fa P 25 r1.1 0 (dw r6.2)).bind fun r8 =>
 ifP (r8.2 = (dw r6.2)) <|
 (ld P 23 r8.1 (dw r6.2)).bind fun r9 =>
 ifP (r9.2 = (dw r6.2)) <|
 (fa P 25 r1.1 0 (dw r6.2)).bind fun r10 =>
 ifP (r10.2 = (dw r6.2)) <|
 (ld P 23 r10.1 (dw r6.2)).bind fun r11 =>
 ifP (r11.2 = (dw r6.2)) <|
 (vl r6.1 (dw r6.2)).bind fun r12 =>
 ifP (r12.2 = (dw r6.2)) <|
 (bo P .sub 3 (.tmp 11) (.const (.int .i64 1)) r12.1 (.int .i64 1) (dw r6.2)).bind fun r13 =>
 ifP (r13.2 = (dw r6.2)) <|
 (ia P 23 r11.1 r13.1 (dw r6.2)).bind fun r14 =>
 ifP (r14.2 = (dw r6.2)) <|
 (fa P 36 r14.1 0 (dw r6.2)).bind fun r15 =>
 ifP (r15.2 = (dw r6.2)) <|
 (ld P 34 r15.1 (dw r6.2)).bind fun r16 =>
 ifP (r16.2 = (dw r6.2)) <|
 (EV P 53 #[r16.1] (dw r6.2)).bind fun r17 =>
 ifP (True ∧ True ∧ True ∧ True ∧ True ∧ True ∧ ld P 23 r8.1 r17.2 = some (r9.1, r17.2) ∧ fa P 25 r1.1 0 r17.2 = some (r8.1, r17.2) ∧ True) <|
 (bd P 36 #[(0, r17.1)] r17.2).bind fun r18 =>
 ifP (r18.2 = r17.2) <|
 (bs P 23 1 #[(0, r18.1)] r17.2).bind fun r19 =>
 ifP (True ∧ True ∧ True ∧ True ∧ True ∧ True ∧ True ∧ ld P 23 r8.1 r19.2 = some (r9.1, r19.2) ∧ fa P 25 r1.1 0 r19.2 = some (r8.1, r19.2) ∧ True) <|
 (b_append P #[23, 23] 23 #[r9.1, r19.1] r19.2).bind fun r20 =>
 ifP (True ∧ True ∧ True ∧ True ∧ True ∧ True ∧ True ∧ True ∧ True ∧ True) <|
 (fa P 25 r1.1 0 r20.2).bind fun r21 =>
 ifP (r21.2 = r20.2) <|
 (st P 23 r21.1 r20.1 r20.2).bind fun r22 =>
 ifP (True ∧ True ∧ True ∧ True ∧ True ∧ True ∧ True ∧ True ∧ True ∧ True ∧ True) <|
 (ld P 25 r1.1 r22.2).bind fun r23 =>
 (st P 25 r2.1 r23.1 r23.2).bind fun r24 =>
 ((ld P 25 r2.1 r24.2).bind fun r25 => ifP (r25.2 = r24.2) (some r25.1)).bind fun v26 =>
 some (v26, r24.2) := by kernel_rfl
noncomputable def spec_l20Store_l1 (e : Env) (w : World) : Option (Value × World) := exC P (EV P) 74 17 (.loop (cA (cA (cB (cA (cB (cB (Yi P 74)))))))) e w (Yj 0 (kSeq P (EV P) 74 17 (cB (cB (cB (Yi P 74)))) (kFn P (fnOf P 74))))
theorem spec_l20Store_l1_eq (e : Env) (w : World) : spec_l20Store_l1 e w =
 (vl (e 4) w).bind fun r1 =>
 (bo P .gtr 3 (.tmp 8) (.const (.int .i64 0)) r1.1 (.int .i64 0) r1.2).bind fun r2 =>
 cnd r2.1 (
 (ld P 34 (e 3) (dw r2.2)).bind fun r4 =>
 ifP (r4.2 = (dw r2.2)) <|
 (vl (e 0) (dw r2.2)).bind fun r5 =>
 ifP (r5.2 = (dw r2.2)) <|
 (EV P 71 #[r5.1] (dw r2.2)).bind fun r6 =>
 ifP (ld P 34 (e 3) r6.2 = some (r4.1, r6.2) ∧ True) <|
 (EV P 81 #[r4.1, r6.1] r6.2).bind fun r7 =>
 ifP (True ∧ True) <|
 (st P 34 (e 3) r7.1 r7.2).bind fun r8 =>
 ifP (True ∧ True) <|
 (vl (e 4) r8.2).bind fun r9 =>
 (bo P .sub 3 (.tmp 10) (.const (.int .i64 1)) r9.1 (.int .i64 1) r9.2).bind fun r10 =>
 (vl r10.1 r10.2).bind fun r11 =>
 spec_l20Store_l1 (ups e [(8, r1.1), (9, r2.1), (12, r4.1), (13, r5.1), (14, r6.1), (15, r7.1), (10, r9.1), (11, r10.1), (4, r11.1)]) r11.2) (
 (ld P 34 (e 3) r2.2).bind fun r12 =>
 (st P 34 (e 2) r12.1 r12.2).bind fun r13 =>
 ((ld P 34 (e 2) r13.2).bind fun r14 => ifP (r14.2 = r13.2) (some r14.1)).bind fun v15 =>
 some (v15, r13.2)) := (exC_loop P (EV P) 74 17 (cA (cA (cB (cA (cB (cB (Yi P 74))))))) e w (Yj 0 (kSeq P (EV P) 74 17 (cB (cB (cB (Yi P 74)))) (kFn P (fnOf P 74))))).trans (by kernel_rfl)
theorem spec_l20Store_fn (x0 : Value) (w : World) : fnC P (EV P) 74 #[x0] w =
 (al P 34 w).bind fun r1 =>
 (EV P 92 #[] r1.2).bind fun r2 =>
 (al P 34 r2.2).bind fun r3 =>
 (st P 34 r3.1 r2.1 r3.2).bind fun r4 =>
 (vl x0 r4.2).bind fun r5 =>
 (EV P 40 #[r5.1, (.int .i64 7)] r5.2).bind fun r6 =>
 (vl r6.1 r6.2).bind fun r7 =>
 spec_l20Store_l1 (ups (env0 #[x0]) [(2, r1.1), (5, r2.1), (3, r3.1), (6, r5.1), (7, r6.1), (4, r7.1)]) r7.2 := by kernel_rfl
theorem spec_l20Rd_of_fn (x0 x1 : Value) (w : World) : fnC P (EV P) 75 #[x0, x1] w =
 (vl (Go.Value.string { data := #[] }) w).bind fun r1 =>
 (vl x1 r1.2).bind fun r2 =>
 (vl x0 r2.2).bind fun r3 =>
 (vl x1 r3.2).bind fun r4 =>
 (Yp P #[92] 3 #[r4.1] r4.2).bind fun r5 =>
 (EV P 40 #[r3.1, r5.1] r5.2).bind fun r6 =>
 (ia P 92 r2.1 r6.1 r6.2).bind fun r7 =>
 (ld P 9 r7.1 r7.2).bind fun r8 =>
 (vl r8.1 r8.2).bind fun r9 =>
 some (r9.1, r9.2) := by kernel_rfl
theorem spec_l20AnyTag_fn (x0 : Value) (w : World) : fnC P (EV P) 76 #[x0] w =
 (al P 40 w).bind fun r1 =>
 (vl x0 r1.2).bind fun r2 =>
 (EV P 40 #[r2.1, (.int .i64 8)] r2.2).bind fun r3 =>
 (bo P .eql 3 (.tmp 4) (.const (.int .i64 0)) r3.1 (.int .i64 0) r3.2).bind fun r4 =>
 cnd r4.1 (
 (vl x0 r4.2).bind fun r5 =>
 (bs P 53 4 #[(0, (.int .i64 0)), (1, (.int .i64 (-1))), (2, (.int .i64 1000)), (3, (.int .i64 999))] r5.2).bind fun r6 =>
 (EV P 15 #[r5.1, r6.1] r6.2).bind fun r7 =>
 (vl x0 r7.2).bind fun r8 =>
 (bs P 53 4 #[(0, (.int .i64 0)), (1, (.int .i64 1)), (2, (.int .i64 3)), (3, (.int .i64 (-1)))] r8.2).bind fun r9 =>
 (EV P 15 #[r8.1, r9.1] r9.2).bind fun r10 =>
 (bd P 40 #[(0, r7.1), (1, r10.1)] r10.2).bind fun r11 =>
 (st P 40 r1.1 r11.1 r11.2).bind fun r12 =>
 ((ld P 40 r1.1 r12.2).bind fun r13 => ifP (r13.2 = r12.2) (some r13.1)).bind fun v14 =>
 some (v14, r12.2)) (
 (vl x0 r4.2).bind fun r15 =>
 (EV P 95 #[r15.1] r15.2).bind fun r16 =>
 (st P 40 r1.1 r16.1 r16.2).bind fun r17 =>
 ((ld P 40 r1.1 r17.2).bind fun r18 => ifP (r18.2 = r17.2) (some r18.1)).bind fun v19 =>
 some (v19, r17.2)) := by kernel_rfl
noncomputable def spec_l2TextOk_l1 (e : Env) (w : World) : Option (Value × World) := exC P (EV P) 77 23 (.loop (cA (cA (cB (cA (cB (Yi P 77))))))) e w (Yj 0 (kSeq P (EV P) 77 23 (cB (cB (Yi P 77))) (kFn P (fnOf P 77))))
theorem spec_l2TextOk_l1_eq (e : Env) (w : World) : spec_l2TextOk_l1 e w =
 (vl (e 3) w).bind fun r1 =>
 (vl (e 0) r1.2).bind fun r2 =>
 (Yp P #[9] 3 #[r2.1] r2.2).bind fun r3 =>
 (bo P .lss 3 (.tmp 4) (.tmp 6) r1.1 r3.1 r3.2).bind fun r4 =>
 cnd r4.1 (
 (vl (e 0) r4.2).bind fun r5 =>
 (vl (e 3) r5.2).bind fun r6 =>
 (ix P 9 r5.1 r6.1 r6.2).bind fun r7 =>
 (bo P .lss 5 (.tmp 12) (.const (.int .u8 33)) r7.1 (.int .u8 33) r7.2).bind fun r8 =>
 (vl r8.1 r8.2).bind fun r9 =>
 (gif r9.1 false (vl (e 0) r9.2) r9.2).bind fun r10 =>
 (gif r9.1 false (vl (e 3) r10.2) r10.2).bind fun r11 =>
 (gif r9.1 false (ix P 9 r10.1 r11.1 r11.2) r11.2).bind fun r12 =>
 (gif r9.1 false (bo P .gtr 5 (.tmp 17) (.const (.int .u8 126)) r12.1 (.int .u8 126) r12.2) r12.2).bind fun r13 =>
 (pickV r9.1 (.bool true) r13.1 r13.2).bind fun r14 =>
 cnd r14.1 (
 (vl (.bool false) r14.2).bind fun r15 =>
 some (r15.1, r15.2)) (
 (vl (e 3) r14.2).bind fun r16 =>
 (bo P .add 3 (.tmp 8) (.const (.int .i64 1)) r16.1 (.int .i64 1) r16.2).bind fun r17 =>
 (vl r17.1 r17.2).bind fun r18 =>
 spec_l2TextOk_l1 (ups e [(4, r1.1), (5, r2.1), (6, r3.1), (7, r4.1), (10, r5.1), (11, r6.1), (12, r7.1), (13, r8.1), (14, r9.1), (15, r10.1), (16, r11.1), (17, r12.1), (18, r13.1), (19, r14.1), (8, r16.1), (9, r17.1), (3, r18.1)]) r18.2)) (
 (vl (e 0) r4.2).bind fun r19 =>
 (Yp P #[9] 3 #[r19.1] r19.2).bind fun r20 =>
 (bo P .leq 3 (.tmp 21) (.const (.int .i64 8)) r20.1 (.int .i64 8) r20.2).bind fun r21 =>
 (vl r21.1 r21.2).bind fun r22 =>
 some (r22.1, r22.2)) := (exC_loop P (EV P) 77 23 (cA (cA (cB (cA (cB (Yi P 77)))))) e w (Yj 0 (kSeq P (EV P) 77 23 (cB (cB (Yi P 77))) (kFn P (fnOf P 77))))).trans (by kernel_rfl)
theorem spec_l2TextOk_fn (x0 : Value) (w : World) : fnC P (EV P) 77 #[x0] w =
 (vl (.bool false) w).bind fun r1 =>
 (vl (.int .i64 0) r1.2).bind fun r2 =>
 spec_l2TextOk_l1 (ups (env0 #[x0]) [(2, r1.1), (3, r2.1)]) r2.2 := by kernel_rfl
theorem spec_l1TagOk_fn (x0 : Value) (w : World) : fnC P (EV P) 78 #[x0] w =
 (bx P 40 x0 w).bind fun r1 =>
 (vl (.bool false) r1.2).bind fun r2 =>
 (ld P 40 r1.1 r2.2).bind fun r3 =>
 (bd P 40 #[] r3.2).bind fun r4 =>
 (bo P .eql 40 (.tmp 3) (.tmp 4) r3.1 r4.1 r4.2).bind fun r5 =>
 (vl r5.1 r5.2).bind fun r6 =>
 (gif r6.1 false (fa P 40 r1.1 0 r6.2) r6.2).bind fun r7 =>
 (gif r6.1 false (ld P 3 r7.1 r7.2) r7.2).bind fun r8 =>
 (gif r6.1 false (EV P 52 #[r8.1, (.int .i64 1), (.int .i64 999)] r8.2) r8.2).bind fun r9 =>
 (gif r6.1 false (vl r9.1 r9.2) r9.2).bind fun r10 =>
 (gif r10.1 true (fa P 40 r1.1 1 r10.2) r10.2).bind fun r11 =>
 (gif r10.1 true (ld P 3 r11.1 r11.2) r11.2).bind fun r12 =>
 (gif r10.1 true (EV P 52 #[r12.1, (.int .i64 0), (.int .i64 2)] r12.2) r12.2).bind fun r13 =>
 (gif r6.1 false (pickV r10.1 r13.1 (.bool false) r13.2) r13.2).bind fun r14 =>
 (pickV r6.1 (.bool true) r14.1 r14.2).bind fun r15 =>
 (vl r15.1 r15.2).bind fun r16 =>
 some (r16.1, r16.2) := by kernel_rfl
noncomputable def spec_l1PastOk_l1 (e : Env) (w : World) : Option (Value × World) := exC P (EV P) 79 22 (.loop (cA (cA (cB (cA (cB (Yi P 79))))))) e w (Yj 0 (kSeq P (EV P) 79 22 (cB (cB (Yi P 79))) (kFn P (fnOf P 79))))
theorem spec_l1PastOk_l1_eq (e : Env) (w : World) : spec_l1PastOk_l1 e w =
 (vl (e 3) w).bind fun r1 =>
 (fa P 43 (e 1) 0 r1.2).bind fun r2 =>
 (ld P 41 r2.1 r2.2).bind fun r3 =>
 (Yp P #[41] 3 #[r3.1] r3.2).bind fun r4 =>
 (bo P .lss 3 (.tmp 4) (.tmp 7) r1.1 r4.1 r4.2).bind fun r5 =>
 cnd r5.1 (
 (fa P 43 (e 1) 0 r5.2).bind fun r6 =>
 (ld P 41 r6.1 r6.2).bind fun r7 =>
 (vl (e 3) r7.2).bind fun r8 =>
 (ia P 41 r7.1 r8.1 r8.2).bind fun r9 =>
 (ld P 40 r9.1 r9.2).bind fun r10 =>
 (EV P 78 #[r10.1] r10.2).bind fun r11 =>
 (uo P .not r11.1 r11.2).bind fun r12 =>
 cnd r12.1 (
 (vl (.bool false) r12.2).bind fun r13 =>
 some (r13.1, r13.2)) (
 (vl (e 3) r12.2).bind fun r14 =>
 (bo P .add 3 (.tmp 9) (.const (.int .i64 1)) r14.1 (.int .i64 1) r14.2).bind fun r15 =>
 (vl r15.1 r15.2).bind fun r16 =>
 spec_l1PastOk_l1 (ups e [(4, r1.1), (5, r2.1), (6, r3.1), (7, r4.1), (8, r5.1), (11, r6.1), (12, r7.1), (13, r8.1), (14, r9.1), (15, r10.1), (16, r11.1), (17, r12.1), (9, r14.1), (10, r15.1), (3, r16.1)]) r16.2)) (
 (fa P 43 (e 1) 0 r5.2).bind fun r17 =>
 (ld P 41 r17.1 r17.2).bind fun r18 =>
 (Yp P #[41] 3 #[r18.1] r18.2).bind fun r19 =>
 (bo P .eql 3 (.tmp 20) (.const (.int .i64 4)) r19.1 (.int .i64 4) r19.2).bind fun r20 =>
 (vl r20.1 r20.2).bind fun r21 =>
 some (r21.1, r21.2)) := (exC_loop P (EV P) 79 22 (cA (cA (cB (cA (cB (Yi P 79)))))) e w (Yj 0 (kSeq P (EV P) 79 22 (cB (cB (Yi P 79))) (kFn P (fnOf P 79))))).trans (by kernel_rfl)
theorem spec_l1PastOk_fn (x0 : Value) (w : World) : fnC P (EV P) 79 #[x0] w =
 (bx P 43 x0 w).bind fun r1 =>
 (vl (.bool false) r1.2).bind fun r2 =>
 (vl (.int .i64 0) r2.2).bind fun r3 =>
 spec_l1PastOk_l1 (ups (env0 #[x0]) [(1, r1.1), (2, r2.1), (3, r3.1)]) r3.2 := by kernel_rfl
theorem spec_l1Less_fn (x0 x1 : Value) (w : World) : fnC P (EV P) 80 #[x0, x1] w =
 (bx P 40 x0 w).bind fun r1 =>
 (bx P 40 x1 r1.2).bind fun r2 =>
 (vl (.bool false) r2.2).bind fun r3 =>
 (fa P 40 r1.1 0 r3.2).bind fun r4 =>
 (ld P 3 r4.1 r4.2).bind fun r5 =>
 (fa P 40 r2.1 0 r5.2).bind fun r6 =>
 (ld P 3 r6.1 r6.2).bind fun r7 =>
 (bo P .lss 3 (.tmp 6) (.tmp 8) r5.1 r7.1 r7.2).bind fun r8 =>
 (vl r8.1 r8.2).bind fun r9 =>
 (gif r9.1 false (fa P 40 r1.1 0 r9.2) r9.2).bind fun r10 =>
 (gif r9.1 false (ld P 3 r10.1 r10.2) r10.2).bind fun r11 =>
 (gif r9.1 false (fa P 40 r2.1 0 r11.2) r11.2).bind fun r12 =>
 (gif r9.1 false (ld P 3 r12.1 r12.2) r12.2).bind fun r13 =>
 (gif r9.1 false (bo P .eql 3 (.tmp 12) (.tmp 14) r11.1 r13.1 r13.2) r13.2).bind fun r14 =>
 (gif r9.1 false (vl r14.1 r14.2) r14.2).bind fun r15 =>
 (gif r15.1 true (fa P 40 r1.1 1 r15.2) r15.2).bind fun r16 =>
 (gif r15.1 true (ld P 3 r16.1 r16.2) r16.2).bind fun r17 =>
 (gif r15.1 true (fa P 40 r2.1 1 r17.2) r17.2).bind fun r18 =>
 (gif r15.1 true (ld P 3 r18.1 r18.2) r18.2).bind fun r19 =>
 (gif r15.1 true (bo P .lss 3 (.tmp 18) (.tmp 20) r17.1 r19.1 r19.2) r19.2).bind fun r20 =>
 (gif r9.1 false (pickV r15.1 r20.1 (.bool false) r20.2) r20.2).bind fun r21 =>
 (pickV r9.1 (.bool true) r21.1 r21.2).bind fun r22 =>
 (vl r22.1 r22.2).bind fun r23 =>
 some (r23.1, r23.2) := by kernel_rfl
noncomputable def spec_l2Add_j1 (e : Env) (w : World) : Option (Value × World) := exC P (EV P) 81 23 (cB (cB (Yi P 81))) e w (kFn P (fnOf P 81))
theorem spec_l2Add_j1_eq (e : Env) (w : World) : spec_l2Add_j1 e w =
 (ld P 34 (e 2) w).bind fun r1 =>
 (st P 34 (e 4) r1.1 r1.2).bind fun r2 =>
 ((ld P 34 (e 4) r2.2).bind fun r3 => ifP (r3.2 = r2.2) (some r3.1)).bind fun v4 =>
 some (v4, r2.2) := by kernel_rfl
theorem spec_l2Add_fn (x0 x1 : Value) (w : World) : fnC P (EV P) 81 #[x0, x1] w =
 (bx P 34 x0 w).bind fun r1 =>
 (bx P 45 x1 r1.2).bind fun r2 =>
 (al P 34 r2.2).bind fun r3 =>
 (fa P 34 r1.1 0 (dw r3.2)).bind fun r5 =>
 ifP (r5.2 = (dw r3.2)) <|
 (ld P 32 r5.1 (dw r3.2)).bind fun r6 =>
 ifP (r6.2 = (dw r3.2)) <|
 (fa P 45 r2.1 0 (dw r3.2)).bind fun r7 =>
 ifP (r7.2 = (dw r3.2)) <|
 (ld P 3 r7.1 (dw r3.2)).bind fun r8 =>
 ifP (r8.2 = (dw r3.2)) <|
 (ia P 32 r6.1 r8.1 (dw r3.2)).bind fun r9 =>
 ifP (r9.2 = (dw r3.2)) <|
 (fa P 45 r9.1 1 (dw r3.2)).bind fun r10 =>
 ifP (r10.2 = (dw r3.2)) <|
 (ld P 40 r10.1 (dw r3.2)).bind fun r11 =>
 ifP (r11.2 = (dw r3.2)) <|
 (fa P 45 r2.1 1 (dw r3.2)).bind fun r12 =>
 ifP (r12.2 = (dw r3.2)) <|
 (ld P 40 r12.1 (dw r3.2)).bind fun r13 =>
 ifP (r13.2 = (dw r3.2)) <|
 (EV P 80 #[r11.1, r13.1] (dw r3.2)).bind fun r14 =>
 ifP (True ∧ True ∧ True ∧ True ∧ True ∧ True ∧ True ∧ True ∧ True ∧ True) <|
 cnd r14.1 (
 (fa P 34 r1.1 0 (dw r14.2)).bind fun r16 =>
 ifP (r16.2 = (dw r14.2)) <|
 (ld P 32 r16.1 (dw r14.2)).bind fun r17 =>
 ifP (r17.2 = (dw r14.2)) <|
 (fa P 45 r2.1 0 (dw r14.2)).bind fun r18 =>
 ifP (r18.2 = (dw r14.2)) <|
 (ld P 3 r18.1 (dw r14.2)).bind fun r19 =>
 ifP (r19.2 = (dw r14.2)) <|
 (ld P 45 r2.1 (dw r14.2)).bind fun r20 =>
 ifP (r20.2 = (dw r14.2)) <|
 (EV P 54 #[r20.1] (dw r14.2)).bind fun r21 =>
 ifP (True ∧ ld P 3 r18.1 r21.2 = some (r19.1, r21.2) ∧ fa P 45 r2.1 0 r21.2 = some (r18.1, r21.2) ∧ ld P 32 r16.1 r21.2 = some (r17.1, r21.2) ∧ fa P 34 r1.1 0 r21.2 = some (r16.1, r21.2) ∧ True) <|
 (ia P 32 r17.1 r19.1 r21.2).bind fun r22 =>
 ifP (r22.2 = r21.2) <|
 (st P 45 r22.1 r21.1 r21.2).bind fun r23 =>
 ifP (True ∧ True ∧ True ∧ True ∧ True ∧ True ∧ True) <|
 spec_l2Add_j1 (ups (env0 #[x0, x1]) [(2, r1.1), (3, r2.1), (4, r3.1), (5, r5.1), (6, r6.1), (7, r7.1), (8, r8.1), (9, r9.1), (10, r10.1), (11, r11.1), (12, r12.1), (13, r13.1), (14, r14.1), (15, r16.1), (16, r17.1), (17, r18.1), (18, r19.1), (19, r20.1), (20, r21.1), (21, r22.1)]) r23.2) (
 spec_l2Add_j1 (ups (env0 #[x0, x1]) [(2, r1.1), (3, r2.1), (4, r3.1), (5, r5.1), (6, r6.1), (7, r7.1), (8, r8.1), (9, r9.1), (10, r10.1), (11, r11.1), (12, r12.1), (13, r13.1), (14, r14.1)]) r14.2) := by kernel_rfl
noncomputable def spec_l3SameStore_l1 (e : Env) (w : World) : Option (Value × World) := exC P (EV P) 82 47 (.loop (cA (cA (cB (cA (cB (Yi P 82))))))) e w (Yj 0 (kSeq P (EV P) 82 47 (cB (cB (Yi P 82))) (kFn P (fnOf P 82))))
theorem spec_l3SameStore_l1_eq (e : Env) (w : World) : spec_l3SameStore_l1 e w =
 (vl (e 5) w).bind fun r1 =>
 (bo P .lss 3 (.tmp 6) (.const (.int .i64 4)) r1.1 (.int .i64 4) r1.2).bind fun r2 =>
 cnd r2.1 (
 (fa P 34 (e 2) 0 (dw r2.2)).bind fun r4 =>
 ifP (r4.2 = (dw r2.2)) <|
 (ld P 32 r4.1 (dw r2.2)).bind fun r5 =>
 ifP (r5.2 = (dw r2.2)) <|
 (vl (e 5) (dw r2.2)).bind fun r6 =>
 ifP (r6.2 = (dw r2.2)) <|
 (ia P 32 r5.1 r6.1 (dw r2.2)).bind fun r7 =>
 ifP (r7.2 = (dw r2.2)) <|
 (fa P 45 r7.1 1 (dw r2.2)).bind fun r8 =>
 ifP (r8.2 = (dw r2.2)) <|
 (ld P 40 r8.1 (dw r2.2)).bind fun r9 =>
 ifP (r9.2 = (dw r2.2)) <|
 (fa P 34 (e 3) 0 (dw r2.2)).bind fun r10 =>
 ifP (r10.2 = (dw r2.2)) <|
 (ld P 32 r10.1 (dw r2.2)).bind fun r11 =>
 ifP (r11.2 = (dw r2.2)) <|
 (vl (e 5) (dw r2.2)).bind fun r12 =>
 ifP (r12.2 = (dw r2.2)) <|
 (ia P 32 r11.1 r12.1 (dw r2.2)).bind fun r13 =>
 ifP (r13.2 = (dw r2.2)) <|
 (fa P 45 r13.1 1 (dw r2.2)).bind fun r14 =>
 ifP (r14.2 = (dw r2.2)) <|
 (ld P 40 r14.1 (dw r2.2)).bind fun r15 =>
 ifP (r15.2 = (dw r2.2)) <|
 (bo P .neq 40 (.tmp 15) (.tmp 21) r9.1 r15.1 (dw r2.2)).bind fun r16 =>
 ifP (r16.2 = (dw r2.2)) <|
 (vl r16.1 (dw r2.2)).bind fun r17 =>
 ifP (r17.2 = (dw r2.2)) <|
 (gif r17.1 false (fa P 34 (e 2) 0 (dw r2.2)) (dw r2.2)).bind fun r18 =>
 ifP (r18.2 = (dw r2.2)) <|
 (gif r17.1 false (ld P 32 r18.1 (dw r2.2)) (dw r2.2)).bind fun r19 =>
 ifP (r19.2 = (dw r2.2)) <|
 (gif r17.1 false (vl (e 5) (dw r2.2)) (dw r2.2)).bind fun r20 =>
 ifP (r20.2 = (dw r2.2)) <|
 (gif r17.1 false (ia P 32 r19.1 r20.1 (dw r2.2)) (dw r2.2)).bind fun r21 =>
 ifP (r21.2 = (dw r2.2)) <|
 (gif r17.1 false (fa P 45 r21.1 1 (dw r2.2)) (dw r2.2)).bind fun r22 =>
 ifP (r22.2 = (dw r2.2)) <|
 (gif r17.1 false (fa P 40 r22.1 0 (dw r2.2)) (dw r2.2)).bind fun r23 =>
 ifP (r23.2 = (dw r2.2)) <|
 (gif r17.1 false (ld P 3 r23.1 (dw r2.2)) (dw r2.2)).bind fun r24 =>
 ifP (r24.2 = (dw r2.2)) <|
 (gif r17.1 false (bo P .gtr 3 (.tmp 30) (.const (.int .i64 0)) r24.1 (.int .i64 0) (dw r2.2)) (dw r2.2)).bind fun r25 =>
 ifP (r25.2 = (dw r2.2)) <|
 (gif r17.1 false (vl r25.1 (dw r2.2)) (dw r2.2)).bind fun r26 =>
 ifP (r26.2 = (dw r2.2)) <|
 (gif r26.1 true (fa P 34 (e 2) 0 (dw r2.2)) (dw r2.2)).bind fun r27 =>
 ifP (r27.2 = (dw r2.2)) <|
 (gif r26.1 true (ld P 32 r27.1 (dw r2.2)) (dw r2.2)).bind fun r28 =>
 ifP (r28.2 = (dw r2.2)) <|
 (gif r26.1 true (vl (e 5) (dw r2.2)) (dw r2.2)).bind fun r29 =>
 ifP (r29.2 = (dw r2.2)) <|
 (gif r26.1 true (ia P 32 r28.1 r29.1 (dw r2.2)) (dw r2.2)).bind fun r30 =>
 ifP (r30.2 = (dw r2.2)) <|
 (gif r26.1 true (ld P 45 r30.1 (dw r2.2)) (dw r2.2)).bind fun r31 =>
 ifP (r31.2 = (dw r2.2)) <|
 (gif r26.1 true (fa P 34 (e 3) 0 (dw r2.2)) (dw r2.2)).bind fun r32 =>
 ifP (r32.2 = (dw r2.2)) <|
 (gif r26.1 true (ld P 32 r32.1 (dw r2.2)) (dw r2.2)).bind fun r33 =>
 ifP (r33.2 = (dw r2.2)) <|
 (gif r26.1 true (vl (e 5) (dw r2.2)) (dw r2.2)).bind fun r34 =>
 ifP (r34.2 = (dw r2.2)) <|
 (gif r26.1 true (ia P 32 r33.1 r34.1 (dw r2.2)) (dw r2.2)).bind fun r35 =>
 ifP (r35.2 = (dw r2.2)) <|
 (gif r26.1 true (ld P 45 r35.1 (dw r2.2)) (dw r2.2)).bind fun r36 =>
 ifP (r36.2 = (dw r2.2)) <|
 (gif r26.1 true (EV P 97 #[r31.1, r36.1] (dw r2.2)) (dw r2.2)).bind fun r37 =>
 ifP (True ∧ True ∧ True ∧ True ∧ True ∧ True ∧ True ∧ True ∧ True ∧ True ∧ True ∧ True ∧ True ∧ True ∧ True ∧ True ∧ True ∧ True ∧ True ∧ True ∧ True ∧ True ∧ True ∧ True ∧ True ∧ True ∧ True) <|
 (gif r26.1 true (uo P .not r37.1 r37.2) r37.2).bind fun r38 =>
 ifP (r38.2 = r37.2) <|
 (gif r17.1 false (pickV r26.1 r38.1 (.bool false) r37.2) r37.2).bind fun r39 =>
 ifP (r39.2 = r37.2) <|
 (pickV r17.1 (.bool true) r39.1 r37.2).bind fun r40 =>
 ifP (r40.2 = r37.2) <|
 cnd r40.1 (
 (vl (.bool false) r37.2).bind fun r41 =>
 some (r41.1, r41.2)) (
 (vl (e 5) r37.2).bind fun r42 =>
 (bo P .add 3 (.tmp 8) (.const (.int .i64 1)) r42.1 (.int .i64 1) r42.2).bind fun r43 =>
 (vl r43.1 r43.2).bind fun r44 =>
 spec_l3SameStore_l1 (ups e [(6, r1.1), (7, r2.1), (10, r4.1), (11, r5.1), (12, r6.1), (13, r7.1), (14, r8.1), (15, r9.1), (16, r10.1), (17, r11.1), (18, r12.1), (19, r13.1), (20, r14.1), (21, r15.1), (22, r16.1), (23, r17.1), (24, r18.1), (25, r19.1), (26, r20.1), (27, r21.1), (28, r22.1), (29, r23.1), (30, r24.1), (31, r25.1), (32, r26.1), (33, r27.1), (34, r28.1), (35, r29.1), (36, r30.1), (37, r31.1), (38, r32.1), (39, r33.1), (40, r34.1), (41, r35.1), (42, r36.1), (43, r37.1), (44, r38.1), (45, r39.1), (46, r40.1), (8, r42.1), (9, r43.1), (5, r44.1)]) r44.2)) (
 (vl (.bool true) r2.2).bind fun r45 =>
 some (r45.1, r45.2)) := (exC_loop P (EV P) 82 47 (cA (cA (cB (cA (cB (Yi P 82)))))) e w (Yj 0 (kSeq P (EV P) 82 47 (cB (cB (Yi P 82))) (kFn P (fnOf P 82))))).trans (by kernel_rfl)
theorem spec_l3SameStore_fn (x0 x1 : Value) (w : World) : fnC P (EV P) 82 #[x0, x1] w =
 (bx P 34 x0 w).bind fun r1 =>
 (bx P 34 x1 r1.2).bind fun r2 =>
 (vl (.bool false) r2.2).bind fun r3 =>
 (vl (.int .i64 0) r3.2).bind fun r4 =>
 spec_l3SameStore_l1 (ups (env0 #[x0, x1]) [(2, r1.1), (3, r2.1), (4, r3.1), (5, r4.1)]) r4.2 := by kernel_rfl
noncomputable def slices_Equal_Tag_l1 (e : Env) (w : World) : Option (Value × World) := exC P (EV P) 83 26 (.loop (cA (cA (cB (cA (cB (cB (Yi P 83)))))))) e w (Yj 0 (kSeq P (EV P) 83 26 (cB (cB (cB (Yi P 83)))) (kFn P (fnOf P 83))))
theorem slices_Equal_Tag_l1_eq (e : Env) (w : World) : slices_Equal_Tag_l1 e w =
 (bo P .lss 3 (.tmp 13) (.tmp 12) (e 13) (e 12) w).bind fun r1 =>
 cnd r1.1 (
 (vl (e 13) r1.2).bind fun r2 =>
 (vl r2.1 r2.2).bind fun r3 =>
 (vl (e 0) (dw r3.2)).bind fun r5 =>
 ifP (r5.2 = (dw r3.2)) <|
 (vl r3.1 (dw r3.2)).bind fun r6 =>
 ifP (r6.2 = (dw r3.2)) <|
 (ia P 41 r5.1 r6.1 (dw r3.2)).bind fun r7 =>
 ifP (r7.2 = (dw r3.2)) <|
 (ld P 40 r7.1 (dw r3.2)).bind fun r8 =>
 ifP (r8.2 = (dw r3.2)) <|
 (vl (e 1) (dw r3.2)).bind fun r9 =>
 ifP (r9.2 = (dw r3.2)) <|
 (vl r3.1 (dw r3.2)).bind fun r10 =>
 ifP (r10.2 = (dw r3.2)) <|
 (ia P 41 r9.1 r10.1 (dw r3.2)).bind fun r11 =>
 ifP (r11.2 = (dw r3.2)) <|
 (ld P 40 r11.1 (dw r3.2)).bind fun r12 =>
 ifP (r12.2 = (dw r3.2)) <|
 (bo P .neq 40 (.tmp 19) (.tmp 23) r8.1 r12.1 (dw r3.2)).bind fun r13 =>
 ifP (r13.2 = (dw r3.2)) <|
 cnd r13.1 (
 (vl (.bool false) (dw r3.2)).bind fun r14 =>
 some (r14.1, r14.2)) (
 (bo P .add 3 (.tmp 13) (.const (.int .i64 1)) (e 13) (.int .i64 1) (dw r3.2)).bind fun r15 =>
 (vl r15.1 r15.2).bind fun r16 =>
 slices_Equal_Tag_l1 (ups e [(14, r1.1), (15, r2.1), (5, r3.1), (16, r5.1), (17, r6.1), (18, r7.1), (19, r8.1), (20, r9.1), (21, r10.1), (22, r11.1), (23, r12.1), (24, r13.1), (25, r15.1), (13, r16.1)]) r16.2)) (
 (vl (.bool true) r1.2).bind fun r17 =>
 some (r17.1, r17.2)) := (exC_loop P (EV P) 83 26 (cA (cA (cB (cA (cB (cB (Yi P 83))))))) e w (Yj 0 (kSeq P (EV P) 83 26 (cB (cB (cB (Yi P 83)))) (kFn P (fnOf P 83))))).trans (by kernel_rfl)
theorem slices_Equal_Tag_fn (x0 x1 : Value) (w : World) : fnC P (EV P) 83 #[x0, x1] w =
 (vl (.bool false) w).bind fun r1 =>
 (vl x0 r1.2).bind fun r2 =>
 (Yp P #[41] 3 #[r2.1] r2.2).bind fun r3 =>
 (vl x1 r3.2).bind fun r4 =>
 (Yp P #[41] 3 #[r4.1] r4.2).bind fun r5 =>
 (bo P .neq 3 (.tmp 7) (.tmp 9) r3.1 r5.1 r5.2).bind fun r6 =>
 cnd r6.1 (
 (vl (.bool false) r6.2).bind fun r7 =>
 some (r7.1, r7.2)) (
 (vl x0 r6.2).bind fun r8 =>
 (Yp P #[41] 3 #[r8.1] r8.2).bind fun r9 =>
 (vl (.int .i64 0) r9.2).bind fun r10 =>
 slices_Equal_Tag_l1 (ups (env0 #[x0, x1]) [(4, r1.1), (6, r2.1), (7, r3.1), (8, r4.1), (9, r5.1), (10, r6.1), (11, r8.1), (12, r9.1), (13, r10.1)]) r10.2) := by kernel_rfl
theorem impl_keyOk_fn (x0 : Value) (w : World) : fnC P (EV P) 84 #[x0] w =
 (vl (.bool false) w).bind fun r1 =>
 (vl x0 r1.2).bind fun r2 =>
 (EV P 44 #[r2.1, (.int .i64 0), (.int .i64 3)] r2.2).bind fun r3 =>
 (vl r3.1 r3.2).bind fun r4 =>
 some (r4.1, r4.2) := by kernel_rfl
noncomputable def impl_textOk_l1 (e : Env) (w : World) : Option (Value × World) := exC P (EV P) 85 19 (.loop (cA (cA (cB (cA (cB (Yi P 85))))))) e w (Yj 0 (kSeq P (EV P) 85 19 (cB (cB (Yi P 85))) (kFn P (fnOf P 85))))
theorem impl_textOk_l1_eq (e : Env) (w : World) : impl_textOk_l1 e w =
 (bo P .lss 3 (.tmp 6) (.tmp 5) (e 6) (e 5) w).bind fun r1 =>
 cnd r1.1 (
 (vl (e 6) r1.2).bind fun r2 =>
 (vl r2.1 r2.2).bind fun r3 =>
 (vl (e 0) r3.2).bind fun r4 =>
 (vl r3.1 r4.2).bind fun r5 =>
 (ix P 9 r4.1 r5.1 r5.2).bind fun r6 =>
 (cv P 5 3 r6.1 r6.2).bind fun r7 =>
 (EV P 44 #[r7.1, (.int .i64 33), (.int .i64 126)] r7.2).bind fun r8 =>
 (uo P .not r8.1 r8.2).bind fun r9 =>
 cnd r9.1 (
 (vl (.bool false) r9.2).bind fun r10 =>
 some (r10.1, r10.2)) (
 (bo P .add 3 (.tmp 6) (.const (.int .i64 1)) (e 6) (.int .i64 1) r9.2).bind fun r11 =>
 (vl r11.1 r11.2).bind fun r12 =>
 impl_textOk_l1 (ups e [(7, r1.1), (8, r2.1), (3, r3.1), (9, r4.1), (10, r5.1), (11, r6.1), (12, r7.1), (13, r8.1), (14, r9.1), (15, r11.1), (6, r12.1)]) r12.2)) (
 (vl (e 0) r1.2).bind fun r13 =>
 (Yp P #[9] 3 #[r13.1] r13.2).bind fun r14 =>
 (bo P .leq 3 (.tmp 17) (.const (.int .i64 8)) r14.1 (.int .i64 8) r14.2).bind fun r15 =>
 (vl r15.1 r15.2).bind fun r16 =>
 some (r16.1, r16.2)) := (exC_loop P (EV P) 85 19 (cA (cA (cB (cA (cB (Yi P 85)))))) e w (Yj 0 (kSeq P (EV P) 85 19 (cB (cB (Yi P 85))) (kFn P (fnOf P 85))))).trans (by kernel_rfl)
theorem impl_textOk_fn (x0 : Value) (w : World) : fnC P (EV P) 85 #[x0] w =
 (vl (.bool false) w).bind fun r1 =>
 (vl x0 r1.2).bind fun r2 =>
 (Yp P #[9] 3 #[r2.1] r2.2).bind fun r3 =>
 (vl (.int .i64 0) r3.2).bind fun r4 =>
 impl_textOk_l1 (ups (env0 #[x0]) [(2, r1.1), (4, r2.1), (5, r3.1), (6, r4.1)]) r4.2 := by kernel_rfl
theorem impl_placeOk_fn (x0 : Value) (w : World) : fnC P (EV P) 86 #[x0] w =
 (vl (.bool false) w).bind fun r1 =>
 (vl x0 r1.2).bind fun r2 =>
 (EV P 44 #[r2.1, (.int .i64 0), (.int .i64 2)] r2.2).bind fun r3 =>
 (vl r3.1 r3.2).bind fun r4 =>
 some (r4.1, r4.2) := by kernel_rfl
noncomputable def slices_EqualFunc_Ver_l1 (e : Env) (w : World) : Option (Value × World) := exC P (EV P) 87 32 (.loop (cA (cA (cB (cA (cB (cB (Yi P 87)))))))) e w (Yj 0 (kSeq P (EV P) 87 32 (cB (cB (cB (Yi P 87)))) (kFn P (fnOf P 87))))
theorem slices_EqualFunc_Ver_l1_eq (e : Env) (w : World) : slices_EqualFunc_Ver_l1 e w =
 (bo P .lss 3 (.tmp 17) (.tmp 16) (e 17) (e 16) w).bind fun r1 =>
 cnd r1.1 (
 (vl (e 17) r1.2).bind fun r2 =>
 (ia P 32 (e 15) (e 17) r2.2).bind fun r3 =>
 (ld P 45 r3.1 r3.2).bind fun r4 =>
 (al P 45 r4.2).bind fun r5 =>
 (vl r2.1 r5.2).bind fun r6 =>
 (st P 45 r5.1 r4.1 r6.2).bind fun r7 =>
 (vl (e 1) r7.2).bind fun r8 =>
 (vl r6.1 r8.2).bind fun r9 =>
 (ia P 32 r8.1 r9.1 r9.2).bind fun r10 =>
 (ld P 45 r10.1 r10.2).bind fun r11 =>
 (al P 45 r11.2).bind fun r12 =>
 (st P 45 r12.1 r11.1 r12.2).bind fun r13 =>
 (vl (e 2) r13.2).bind fun r14 =>
 (ld P 45 r5.1 r14.2).bind fun r15 =>
 (ld P 45 r12.1 r15.2).bind fun r16 =>
 (clo P r14.1 #[r15.1, r16.1] r16.2).bind fun r17 =>
 (uo P .not r17.1 r17.2).bind fun r18 =>
 cnd r18.1 (
 (vl (.bool false) r18.2).bind fun r19 =>
 some (r19.1, r19.2)) (
 (bo P .add 3 (.tmp 17) (.const (.int .i64 1)) (e 17) (.int .i64 1) r18.2).bind fun r20 =>
 (vl r20.1 r20.2).bind fun r21 =>
 slices_EqualFunc_Ver_l1 (ups e [(18, r1.1), (19, r2.1), (20, r3.1), (21, r4.1), (8, r5.1), (7, r6.1), (22, r8.1), (23, r9.1), (24, r10.1), (25, r11.1), (9, r12.1), (26, r14.1), (27, r15.1), (28, r16.1), (29, r17.1), (30, r18.1), (31, r20.1), (17, r21.1)]) r21.2)) (
 (vl (.bool true) r1.2).bind fun r22 =>
 some (r22.1, r22.2)) := (exC_loop P (EV P) 87 32 (cA (cA (cB (cA (cB (cB (Yi P 87))))))) e w (Yj 0 (kSeq P (EV P) 87 32 (cB (cB (cB (Yi P 87)))) (kFn P (fnOf P 87))))).trans (by kernel_rfl)
theorem slices_EqualFunc_Ver_fn (x0 x1 x2 : Value) (w : World) : fnC P (EV P) 87 #[x0, x1, x2] w =
 (vl (.bool false) w).bind fun r1 =>
 (vl x0 r1.2).bind fun r2 =>
 (Yp P #[32] 3 #[r2.1] r2.2).bind fun r3 =>
 (vl x1 r3.2).bind fun r4 =>
 (Yp P #[32] 3 #[r4.1] r4.2).bind fun r5 =>
 (bo P .neq 3 (.tmp 11) (.tmp 13) r3.1 r5.1 r5.2).bind fun r6 =>
 cnd r6.1 (
 (vl (.bool false) r6.2).bind fun r7 =>
 some (r7.1, r7.2)) (
 (vl x0 r6.2).bind fun r8 =>
 (Yp P #[32] 3 #[r8.1] r8.2).bind fun r9 =>
 (vl (.int .i64 0) r9.2).bind fun r10 =>
 slices_EqualFunc_Ver_l1 (ups (env0 #[x0, x1, x2]) [(6, r1.1), (10, r2.1), (11, r3.1), (12, r4.1), (13, r5.1), (14, r6.1), (15, r8.1), (16, r9.1), (17, r10.1)]) r10.2) := by kernel_rfl
theorem impl_Tag_compare_fn (x0 x1 : Value) (w : World) : fnC P (EV P) 88 #[x0, x1] w =
 (bx P 40 x0 w).bind fun r1 =>
 (bx P 40 x1 r1.2).bind fun r2 =>
 (vl (.int .i64 0) r2.2).bind fun r3 =>
 (fa P 40 r1.1 0 (dw r3.2)).bind fun r5 =>
 ifP (r5.2 = (dw r3.2)) <|
 (ld P 3 r5.1 (dw r3.2)).bind fun r6 =>
 ifP (r6.2 = (dw r3.2)) <|
 (fa P 40 r2.1 0 (dw r3.2)).bind fun r7 =>
 ifP (r7.2 = (dw r3.2)) <|
 (ld P 3 r7.1 (dw r3.2)).bind fun r8 =>
 ifP (r8.2 = (dw r3.2)) <|
 (fa P 40 r1.1 1 (dw r3.2)).bind fun r9 =>
 ifP (r9.2 = (dw r3.2)) <|
 (ld P 3 r9.1 (dw r3.2)).bind fun r10 =>
 ifP (r10.2 = (dw r3.2)) <|
 (fa P 40 r2.1 1 (dw r3.2)).bind fun r11 =>
 ifP (r11.2 = (dw r3.2)) <|
 (ld P 3 r11.1 (dw r3.2)).bind fun r12 =>
 ifP (r12.2 = (dw r3.2)) <|
 (EV P 99 #[r6.1, r8.1] (dw r3.2)).bind fun r13 =>
 ifP (ld P 3 r11.1 r13.2 = some (r12.1, r13.2) ∧ fa P 40 r2.1 1 r13.2 = some (r11.1, r13.2) ∧ ld P 3 r9.1 r13.2 = some (r10.1, r13.2) ∧ fa P 40 r1.1 1 r13.2 = some (r9.1, r13.2) ∧ True ∧ True ∧ True ∧ True ∧ True) <|
 (EV P 99 #[r10.1, r12.1] r13.2).bind fun r14 =>
 ifP (True ∧ True ∧ True ∧ True ∧ True ∧ True ∧ True ∧ True ∧ True) <|
 (bs P 53 2 #[(0, r13.1), (1, r14.1)] r14.2).bind fun r15 =>
 ifP (True ∧ True ∧ True ∧ True ∧ True ∧ True ∧ True ∧ True ∧ True) <|
 (EV P 98 #[r15.1] r15.2).bind fun r16 =>
 ifP (True ∧ True ∧ True ∧ True ∧ True ∧ True ∧ True ∧ True ∧ True) <|
 (vl r16.1 r16.2).bind fun r17 =>
 ifP (r17.2 = r16.2) <|
 some (r17.1, r16.2) := by kernel_rfl
theorem slices_Clip_Tag_fn (x0 : Value) (w : World) : fnC P (EV P) 89 #[x0] w =
 (vl (Go.Value.slice none 0 0) w).bind fun r1 =>
 (vl x0 r1.2).bind fun r2 =>
 (vl x0 r2.2).bind fun r3 =>
 (Yp P #[41] 3 #[r3.1] r3.2).bind fun r4 =>
 (vl x0 r4.2).bind fun r5 =>
 (Yp P #[41] 3 #[r5.1] r5.2).bind fun r6 =>
 (sl P 41 r2.1 none (some r4.1) (some r6.1) r6.2).bind fun r7 =>
 (vl r7.1 r7.2).bind fun r8 =>
 some (r8.1, r8.2) := by kernel_rfl
theorem slices_Clone_Tag_fn (x0 : Value) (w : World) : fnC P (EV P) 90 #[x0] w =
 (vl (Go.Value.slice none 0 0) w).bind fun r1 =>
 (vl x0 r1.2).bind fun r2 =>
 (bo P .eql 41 (.tmp 3) (.const (Go.Value.slice none 0 0)) r2.1 (Go.Value.slice none 0 0) r2.2).bind fun r3 =>
 cnd r3.1 (
 (vl (Go.Value.slice none 0 0) r3.2).bind fun r4 =>
 some (r4.1, r4.2)) (
 (bs P 41 0 #[] r3.2).bind fun r5 =>
 (vl x0 r5.2).bind fun r6 =>
 (b_append P #[41, 41] 41 #[r5.1, r6.1] r6.2).bind fun r7 =>
 (vl r7.1 r7.2).bind fun r8 =>
 some (r8.1, r8.2)) := by kernel_rfl
noncomputable def slices_IndexFunc_Tag_l1 (e : Env) (w : World) : Option (Value × World) := exC P (EV P) 91 19 (.loop (cA (cA (cB (cA (cB (Yi P 91))))))) e w (Yj 0 (kSeq P (EV P) 91 19 (cB (cB (Yi P 91))) (kFn P (fnOf P 91))))
theorem slices_IndexFunc_Tag_l1_eq (e : Env) (w : World) : slices_IndexFunc_Tag_l1 e w =
 (bo P .lss 3 (.tmp 8) (.tmp 7) (e 8) (e 7) w).bind fun r1 =>
 cnd r1.1 (
 (vl (e 8) r1.2).bind fun r2 =>
 (vl r2.1 r2.2).bind fun r3 =>
 (vl (e 1) r3.2).bind fun r4 =>
 (vl (e 0) r4.2).bind fun r5 =>
 (vl r3.1 r5.2).bind fun r6 =>
 (ia P 41 r5.1 r6.1 r6.2).bind fun r7 =>
 (ld P 40 r7.1 r7.2).bind fun r8 =>
 (clo P r4.1 #[r8.1] r8.2).bind fun r9 =>
 cnd r9.1 (
 (vl r3.1 r9.2).bind fun r10 =>
 (vl r10.1 r10.2).bind fun r11 =>
 some (r11.1, r11.2)) (
 (bo P .add 3 (.tmp 8) (.const (.int .i64 1)) (e 8) (.int .i64 1) r9.2).bind fun r12 =>
 (vl r12.1 r12.2).bind fun r13 =>
 slices_IndexFunc_Tag_l1 (ups e [(9, r1.1), (10, r2.1), (5, r3.1), (11, r4.1), (12, r5.1), (13, r6.1), (14, r7.1), (15, r8.1), (16, r9.1), (18, r12.1), (8, r13.1)]) r13.2)) (
 (vl (.int .i64 (-1)) r1.2).bind fun r14 =>
 some (r14.1, r14.2)) := (exC_loop P (EV P) 91 19 (cA (cA (cB (cA (cB (Yi P 91)))))) e w (Yj 0 (kSeq P (EV P) 91 19 (cB (cB (Yi P 91))) (kFn P (fnOf P 91))))).trans (by kernel_rfl)
theorem slices_IndexFunc_Tag_fn (x0 x1 : Value) (w : World) : fnC P (EV P) 91 #[x0, x1] w =
 (vl (.int .i64 0) w).bind fun r1 =>
 (vl x0 r1.2).bind fun r2 =>
 (Yp P #[41] 3 #[r2.1] r2.2).bind fun r3 =>
 (vl (.int .i64 0) r3.2).bind fun r4 =>
 slices_IndexFunc_Tag_l1 (ups (env0 #[x0, x1]) [(4, r1.1), (6, r2.1), (7, r3.1), (8, r4.1)]) r4.2 := by kernel_rfl
theorem spec_l2New_fn (w : World) : fnC P (EV P) 92 #[] w =
 (al P 34 w).bind fun r1 =>
 (ms P 32 (.int .i64 4) (.int .i64 4) r1.2).bind fun r2 =>
 (bd P 34 #[(0, r2.1)] r2.2).bind fun r3 =>
 (st P 34 r1.1 r3.1 r3.2).bind fun r4 =>
 ((ld P 34 r1.1 r4.2).bind fun r5 => ifP (r5.2 = r4.2) (some r5.1)).bind fun v6 =>
 some (v6, r4.2) := by kernel_rfl
theorem spec_l1None_fn (w : World) : fnC P (EV P) 93 #[] w =
 (al P 43 w).bind fun r1 =>
 (ms P 41 (.int .i64 4) (.int .i64 4) r1.2).bind fun r2 =>
 (bd P 43 #[(0, r2.1)] r2.2).bind fun r3 =>
 (st P 43 r1.1 r3.1 r3.2).bind fun r4 =>
 ((ld P 43 r1.1 r4.2).bind fun r5 => ifP (r5.2 = r4.2) (some r5.1)).bind fun v6 =>
 some (v6, r4.2) := by kernel_rfl
theorem spec_l20Text_fn (x0 : Value) (w : World) : fnC P (EV P) 94 #[x0] w =
 (vl (Go.Value.string { data := #[] }) w).bind fun r1 =>
 (vl x0 r1.2).bind fun r2 =>
 (bs P 92 8 #[(0, (Go.Value.string { data := #[] })), (1, (Go.Value.string { data := #[97] })), (2, (Go.Value.string { data := #[98] })), (3, (Go.Value.string { data := #[120, 35, 49] })), (4, (Go.Value.string { data := #[61] })), (5, (Go.Value.string { data := #[45] })), (6, (Go.Value.string { data := #[108, 111, 110, 103, 116, 101, 120, 116] })), (7, (Go.Value.string { data := #[122, 122] }))] r2.2).bind fun r3 =>
 (EV P 75 #[r2.1, r3.1] r3.2).bind fun r4 =>
 (vl r4.1 r4.2).bind fun r5 =>
 some (r5.1, r5.2) := by kernel_rfl
theorem spec_l20Tag_fn (x0 : Value) (w : World) : fnC P (EV P) 95 #[x0] w =
 (al P 40 w).bind fun r1 =>
 (vl x0 r1.2).bind fun r2 =>
 (EV P 40 #[r2.1, (.int .i64 3)] r2.2).bind fun r3 =>
 (bo P .eql 3 (.tmp 4) (.const (.int .i64 0)) r3.1 (.int .i64 0) r3.2).bind fun r4 =>
 cnd r4.1 (
 (bd P 40 #[] r4.2).bind fun r5 =>
 (st P 40 r1.1 r5.1 r5.2).bind fun r6 =>
 ((ld P 40 r1.1 r6.2).bind fun r7 => ifP (r7.2 = r6.2) (some r7.1)).bind fun v8 =>
 some (v8, r6.2)) (
 (vl x0 r4.2).bind fun r9 =>
 (EV P 40 #[r9.1, (.int .i64 9)] r9.2).bind fun r10 =>
 (bo P .add 3 (.const (.int .i64 1)) (.tmp 8) (.int .i64 1) r10.1 r10.2).bind fun r11 =>
 (vl x0 r11.2).bind fun r12 =>
 (EV P 40 #[r12.1, (.int .i64 3)] r12.2).bind fun r13 =>
 (bd P 40 #[(0, r11.1), (1, r13.1)] r13.2).bind fun r14 =>
 (st P 40 r1.1 r14.1 r14.2).bind fun r15 =>
 ((ld P 40 r1.1 r15.2).bind fun r16 => ifP (r16.2 = r15.2) (some r16.1)).bind fun v17 =>
 some (v17, r15.2)) := by kernel_rfl
noncomputable def spec_l3Lack_l1 (e : Env) (w : World) : Option (Value × World) := exC P (EV P) 96 68 (.loop (cA (cA (cB (cA (cB (cB (Yi P 96)))))))) e w (Yj 0 (kSeq P (EV P) 96 68 (cB (cB (cB (Yi P 96)))) (kFn P (fnOf P 96))))
noncomputable def spec_l3Lack_j1 (e : Env) (w : World) : Option (Value × World) := exC P (EV P) 96 68 (cB (cB (cA (cA (cB (cA (cB (cB (Yi P 96))))))))) e w (kLoop P (EV P) 96 68 (cA (cA (cB (cA (cB (cB (Yi P 96))))))) (Yj 0 (kSeq P (EV P) 96 68 (cB (cB (cB (Yi P 96)))) (kFn P (fnOf P 96)))))
noncomputable def spec_l3Lack_l3 (e : Env) (w : World) : Option (Value × World) := exC P (EV P) 96 68 (.loop (cA (cA (cA (cB (cB (cA (cA (cB (cA (cA (cB (cA (cB (cB (Yi P 96)))))))))))))))) e w (Yj 2 (kSeq P (EV P) 96 68 (cB (cB (cB (cA (cA (cB (cA (cA (cB (cA (cB (cB (Yi P 96))))))))))))) (Yj 1 (kSeq P (EV P) 96 68 (cB (cB (cA (cA (cB (cA (cB (cB (Yi P 96))))))))) (kLoop P (EV P) 96 68 (cA (cA (cB (cA (cB (cB (Yi P 96))))))) (Yj 0 (kSeq P (EV P) 96 68 (cB (cB (cB (Yi P 96)))) (kFn P (fnOf P 96)))))))))
theorem spec_l3Lack_l1_eq (e : Env) (w : World) : spec_l3Lack_l1 e w =
 (vl (e 6) w).bind fun r1 =>
 (bo P .lss 3 (.tmp 10) (.const (.int .i64 4)) r1.1 (.int .i64 4) r1.2).bind fun r2 =>
 cnd r2.1 (
 (fa P 34 (e 3) 0 (dw r2.2)).bind fun r4 =>
 ifP (r4.2 = (dw r2.2)) <|
 (ld P 32 r4.1 (dw r2.2)).bind fun r5 =>
 ifP (r5.2 = (dw r2.2)) <|
 (vl (e 6) (dw r2.2)).bind fun r6 =>
 ifP (r6.2 = (dw r2.2)) <|
 (ia P 32 r5.1 r6.1 (dw r2.2)).bind fun r7 =>
 ifP (r7.2 = (dw r2.2)) <|
 (fa P 45 r7.1 1 (dw r2.2)).bind fun r8 =>
 ifP (r8.2 = (dw r2.2)) <|
 (ld P 40 r8.1 (dw r2.2)).bind fun r9 =>
 ifP (r9.2 = (dw r2.2)) <|
 (fa P 34 (e 2) 0 (dw r2.2)).bind fun r10 =>
 ifP (r10.2 = (dw r2.2)) <|
 (ld P 32 r10.1 (dw r2.2)).bind fun r11 =>
 ifP (r11.2 = (dw r2.2)) <|
 (vl (e 6) (dw r2.2)).bind fun r12 =>
 ifP (r12.2 = (dw r2.2)) <|
 (ia P 32 r11.1 r12.1 (dw r2.2)).bind fun r13 =>
 ifP (r13.2 = (dw r2.2)) <|
 (fa P 45 r13.1 1 (dw r2.2)).bind fun r14 =>
 ifP (r14.2 = (dw r2.2)) <|
 (ld P 40 r14.1 (dw r2.2)).bind fun r15 =>
 ifP (r15.2 = (dw r2.2)) <|
 (EV P 80 #[r9.1, r15.1] (dw r2.2)).bind fun r16 =>
 ifP (True ∧ True ∧ True ∧ True ∧ True ∧ True ∧ True ∧ True ∧ True ∧ True ∧ True) <|
 (uo P .not r16.1 r16.2).bind fun r17 =>
 ifP (r17.2 = r16.2) <|
 cnd r17.1 (
 spec_l3Lack_j1 (ups e [(10, r1.1), (11, r2.1), (14, r4.1), (15, r5.1), (16, r6.1), (17, r7.1), (18, r8.1), (19, r9.1), (20, r10.1), (21, r11.1), (22, r12.1), (23, r13.1), (24, r14.1), (25, r15.1), (26, r16.1), (27, r17.1)]) r16.2) (
 (vl (.int .i64 0) r16.2).bind fun r18 =>
 spec_l3Lack_l3 (ups e [(10, r1.1), (11, r2.1), (14, r4.1), (15, r5.1), (16, r6.1), (17, r7.1), (18, r8.1), (19, r9.1), (20, r10.1), (21, r11.1), (22, r12.1), (23, r13.1), (24, r14.1), (25, r15.1), (26, r16.1), (27, r17.1), (7, r18.1)]) r18.2)) (
 (vl (e 5) r2.2).bind fun r19 =>
 (vl r19.1 r19.2).bind fun r20 =>
 some (r20.1, r20.2)) := (exC_loop P (EV P) 96 68 (cA (cA (cB (cA (cB (cB (Yi P 96))))))) e w (Yj 0 (kSeq P (EV P) 96 68 (cB (cB (cB (Yi P 96)))) (kFn P (fnOf P 96))))).trans (by kernel_rfl)
theorem spec_l3Lack_j1_eq (e : Env) (w : World) : spec_l3Lack_j1 e w =
 (vl (e 6) w).bind fun r1 =>
 (bo P .add 3 (.tmp 12) (.const (.int .i64 1)) r1.1 (.int .i64 1) r1.2).bind fun r2 =>
 (vl r2.1 r2.2).bind fun r3 =>
 spec_l3Lack_l1 (ups e [(12, r1.1), (13, r2.1), (6, r3.1)]) r3.2 := by kernel_rfl
theorem spec_l3Lack_l3_eq (e : Env) (w : World) : spec_l3Lack_l3 e w =
 (vl (e 7) (dw w)).bind fun r2 =>
 ifP (r2.2 = (dw w)) <|
 (vl (e 5) (dw w)).bind fun r3 =>
 ifP (r3.2 = (dw w)) <|
 (Yp P #[32] 3 #[r3.1] (dw w)).bind fun r4 =>
 ifP (r4.2 = (dw w)) <|
 (bo P .lss 3 (.tmp 28) (.tmp 30) r2.1 r4.1 (dw w)).bind fun r5 =>
 ifP (r5.2 = (dw w)) <|
 (vl r5.1 (dw w)).bind fun r6 =>
 ifP (r6.2 = (dw w)) <|
 (gif r6.1 true (vl (e 5) (dw w)) (dw w)).bind fun r7 =>
 ifP (r7.2 = (dw w)) <|
 (gif r6.1 true (vl (e 7) (dw w)) (dw w)).bind fun r8 =>
 ifP (r8.2 = (dw w)) <|
 (gif r6.1 true (ia P 32 r7.1 r8.1 (dw w)) (dw w)).bind fun r9 =>
 ifP (r9.2 = (dw w)) <|
 (gif r6.1 true (fa P 45 r9.1 1 (dw w)) (dw w)).bind fun r10 =>
 ifP (r10.2 = (dw w)) <|
 (gif r6.1 true (ld P 40 r10.1 (dw w)) (dw w)).bind fun r11 =>
 ifP (r11.2 = (dw w)) <|
 (gif r6.1 true (fa P 34 (e 2) 0 (dw w)) (dw w)).bind fun r12 =>
 ifP (r12.2 = (dw w)) <|
 (gif r6.1 true (ld P 32 r12.1 (dw w)) (dw w)).bind fun r13 =>
 ifP (r13.2 = (dw w)) <|
 (gif r6.1 true (vl (e 6) (dw w)) (dw w)).bind fun r14 =>
 ifP (r14.2 = (dw w)) <|
 (gif r6.1 true (ia P 32 r13.1 r14.1 (dw w)) (dw w)).bind fun r15 =>
 ifP (r15.2 = (dw w)) <|
 (gif r6.1 true (fa P 45 r15.1 1 (dw w)) (dw w)).bind fun r16 =>
 ifP (r16.2 = (dw w)) <|
 (gif r6.1 true (ld P 40 r16.1 (dw w)) (dw w)).bind fun r17 =>
 ifP (r17.2 = (dw w)) <|
 (gif r6.1 true (EV P 80 #[r11.1, r17.1] (dw w)) (dw w)).bind fun r18 =>
 ifP (True ∧ True ∧ True ∧ True ∧ True ∧ True ∧ True ∧ True ∧ True ∧ True ∧ True) <|
 (pickV r6.1 r18.1 (.bool false) r18.2).bind fun r19 =>
 ifP (r19.2 = r18.2) <|
 cnd r19.1 (
 (vl (e 7) r18.2).bind fun r20 =>
 (bo P .add 3 (.tmp 46) (.const (.int .i64 1)) r20.1 (.int .i64 1) r20.2).bind fun r21 =>
 (vl r21.1 r21.2).bind fun r22 =>
 spec_l3Lack_l3 (ups e [(28, r2.1), (29, r3.1), (30, r4.1), (31, r5.1), (32, r6.1), (33, r7.1), (34, r8.1), (35, r9.1), (36, r10.1), (37, r11.1), (38, r12.1), (39, r13.1), (40, r14.1), (41, r15.1), (42, r16.1), (43, r17.1), (44, r18.1), (45, r19.1), (46, r20.1), (47, r21.1), (7, r22.1)]) r22.2) (
 (bs P 32 0 #[] r18.2).bind fun r23 =>
 (vl (e 5) r23.2).bind fun r24 =>
 (vl (e 7) r24.2).bind fun r25 =>
 (sl P 32 r24.1 none (some r25.1) none r25.2).bind fun r26 =>
 (b_append P #[32, 32] 32 #[r23.1, r26.1] r26.2).bind fun r27 =>
 (vl r27.1 r27.2).bind fun r28 =>
 (vl r28.1 r28.2).bind fun r29 =>
 (fa P 34 (e 2) 0 r29.2).bind fun r30 =>
 (ld P 32 r30.1 r30.2).bind fun r31 =>
 (vl (e 6) r31.2).bind fun r32 =>
 (ia P 32 r31.1 r32.1 r32.2).bind fun r33 =>
 (ld P 45 r33.1 r33.2).bind fun r34 =>
 (EV P 54 #[r34.1] r34.2).bind fun r35 =>
 (bs P 32 1 #[(0, r35.1)] r35.2).bind fun r36 =>
 (b_append P #[32, 32] 32 #[r29.1, r36.1] r36.2).bind fun r37 =>
 (vl r37.1 r37.2).bind fun r38 =>
 (vl r38.1 r38.2).bind fun r39 =>
 (vl (e 5) r39.2).bind fun r40 =>
 (vl (e 7) r40.2).bind fun r41 =>
 (sl P 32 r40.1 (some r41.1) none none r41.2).bind fun r42 =>
 (b_append P #[32, 32] 32 #[r39.1, r42.1] r42.2).bind fun r43 =>
 (vl r43.1 r43.2).bind fun r44 =>
 spec_l3Lack_j1 (ups e [(28, r2.1), (29, r3.1), (30, r4.1), (31, r5.1), (32, r6.1), (33, r7.1), (34, r8.1), (35, r9.1), (36, r10.1), (37, r11.1), (38, r12.1), (39, r13.1), (40, r14.1), (41, r15.1), (42, r16.1), (43, r17.1), (44, r18.1), (45, r19.1), (48, r23.1), (49, r24.1), (50, r25.1), (51, r26.1), (52, r27.1), (8, r28.1), (53, r29.1), (54, r30.1), (55, r31.1), (56, r32.1), (57, r33.1), (58, r34.1), (59, r35.1), (60, r36.1), (61, r37.1), (8, r38.1), (62, r39.1), (63, r40.1), (64, r41.1), (65, r42.1), (66, r43.1), (5, r44.1)]) r44.2) := (exC_loop P (EV P) 96 68 (cA (cA (cA (cB (cB (cA (cA (cB (cA (cA (cB (cA (cB (cB (Yi P 96))))))))))))))) e w (Yj 2 (kSeq P (EV P) 96 68 (cB (cB (cB (cA (cA (cB (cA (cA (cB (cA (cB (cB (Yi P 96))))))))))))) (Yj 1 (kSeq P (EV P) 96 68 (cB (cB (cA (cA (cB (cA (cB (cB (Yi P 96))))))))) (kLoop P (EV P) 96 68 (cA (cA (cB (cA (cB (cB (Yi P 96))))))) (Yj 0 (kSeq P (EV P) 96 68 (cB (cB (cB (Yi P 96)))) (kFn P (fnOf P 96)))))))))).trans (by kernel_rfl)
theorem spec_l3Lack_fn (x0 x1 : Value) (w : World) : fnC P (EV P) 96 #[x0, x1] w =
 (bx P 34 x0 w).bind fun r1 =>
 (bx P 34 x1 r1.2).bind fun r2 =>
 (vl (Go.Value.slice none 0 0) r2.2).bind fun r3 =>
 (bs P 32 0 #[] r3.2).bind fun r4 =>
 (vl r4.1 r4.2).bind fun r5 =>
 (vl (.int .i64 0) r5.2).bind fun r6 =>
 spec_l3Lack_l1 (ups (env0 #[x0, x1]) [(2, r1.1), (3, r2.1), (4, r3.1), (9, r4.1), (5, r5.1), (6, r6.1)]) r6.2 := by kernel_rfl
theorem spec_l2Same_fn (x0 x1 : Value) (w : World) : fnC P (EV P) 97 #[x0, x1] w =
 (bx P 45 x0 w).bind fun r1 =>
 (bx P 45 x1 r1.2).bind fun r2 =>
 (vl (.bool false) r2.2).bind fun r3 =>
 (ld P 45 r1.1 (dw r3.2)).bind fun r5 =>
 ifP (r5.2 = (dw r3.2)) <|
 (ld P 45 r2.1 (dw r3.2)).bind fun r6 =>
 ifP (r6.2 = (dw r3.2)) <|
 (EV P 100 #[r5.1] (dw r3.2)).bind fun r7 =>
 ifP (ld P 45 r2.1 r7.2 = some (r6.1, r7.2) ∧ True ∧ True) <|
 (EV P 100 #[r6.1] r7.2).bind fun r8 =>
 ifP (True ∧ True ∧ True) <|
 (bo P .eql 9 (.tmp 6) (.tmp 8) r7.1 r8.1 r8.2).bind fun r9 =>
 ifP (r9.2 = r8.2) <|
 (vl r9.1 r8.2).bind fun r10 =>
 ifP (r10.2 = r8.2) <|
 some (r10.1, r8.2) := by kernel_rfl
noncomputable def cmp_Or_int_l1 (e : Env) (w : World) : Option (Value × World) := exC P (EV P) 98 18 (.loop (cA (cA (cB (cA (cB (cB (Yi P 98)))))))) e w (Yj 0 (kSeq P (EV P) 98 18 (cB (cB (cB (Yi P 98)))) (kFn P (fnOf P 98))))
theorem cmp_Or_int_l1_eq (e : Env) (w : World) : cmp_Or_int_l1 e w =
 (bo P .lss 3 (.tmp 8) (.tmp 7) (e 8) (e 7) w).bind fun r1 =>
 cnd r1.1 (
 (ia P 53 (e 6) (e 8) r1.2).bind fun r2 =>
 (ld P 3 r2.1 r2.2).bind fun r3 =>
 (vl r3.1 r3.2).bind fun r4 =>
 (vl r4.1 r4.2).bind fun r5 =>
 (vl (e 3) r5.2).bind fun r6 =>
 (bo P .neq 3 (.tmp 12) (.tmp 13) r5.1 r6.1 r6.2).bind fun r7 =>
 cnd r7.1 (
 (vl r4.1 r7.2).bind fun r8 =>
 (vl r8.1 r8.2).bind fun r9 =>
 some (r9.1, r9.2)) (
 (bo P .add 3 (.tmp 8) (.const (.int .i64 1)) (e 8) (.int .i64 1) r7.2).bind fun r10 =>
 (vl r10.1 r10.2).bind fun r11 =>
 cmp_Or_int_l1 (ups e [(9, r1.1), (10, r2.1), (11, r3.1), (5, r4.1), (12, r5.1), (13, r6.1), (14, r7.1), (16, r10.1), (8, r11.1)]) r11.2)) (
 (vl (e 3) r1.2).bind fun r12 =>
 (vl r12.1 r12.2).bind fun r13 =>
 some (r13.1, r13.2)) := (exC_loop P (EV P) 98 18 (cA (cA (cB (cA (cB (cB (Yi P 98))))))) e w (Yj 0 (kSeq P (EV P) 98 18 (cB (cB (cB (Yi P 98)))) (kFn P (fnOf P 98))))).trans (by kernel_rfl)
theorem cmp_Or_int_fn (x0 : Value) (w : World) : fnC P (EV P) 98 #[x0] w =
 (vl (.int .i64 0) w).bind fun r1 =>
 (vl (.int .i64 0) r1.2).bind fun r2 =>
 (vl x0 r2.2).bind fun r3 =>
 (Yp P #[53] 3 #[r3.1] r3.2).bind fun r4 =>
 (vl (.int .i64 0) r4.2).bind fun r5 =>
 cmp_Or_int_l1 (ups (env0 #[x0]) [(2, r1.1), (3, r2.1), (6, r3.1), (7, r4.1), (8, r5.1)]) r5.2 := by kernel_rfl
theorem cmp_Compare_int_fn (x0 x1 : Value) (w : World) : fnC P (EV P) 99 #[x0, x1] w =
 (vl (.int .i64 0) w).bind fun r1 =>
 (vl x0 r1.2).bind fun r2 =>
 (EV P 101 #[r2.1] r2.2).bind fun r3 =>
 (vl r3.1 r3.2).bind fun r4 =>
 (vl x1 r4.2).bind fun r5 =>
 (EV P 101 #[r5.1] r5.2).bind fun r6 =>
 (vl r6.1 r6.2).bind fun r7 =>
 (vl r4.1 r7.2).bind fun r8 =>
 cnd r8.1 (
 (vl r7.1 r8.2).bind fun r9 =>
 cnd r9.1 (
 (vl (.int .i64 0) r9.2).bind fun r10 =>
 some (r10.1, r10.2)) (
 (vl (.int .i64 (-1)) r9.2).bind fun r11 =>
 some (r11.1, r11.2))) (
 (vl r7.1 r8.2).bind fun r12 =>
 cnd r12.1 (
 (vl (.int .i64 1) r12.2).bind fun r13 =>
 some (r13.1, r13.2)) (
 (vl x0 r12.2).bind fun r14 =>
 (vl x1 r14.2).bind fun r15 =>
 (bo P .lss 3 (.tmp 14) (.tmp 15) r14.1 r15.1 r15.2).bind fun r16 =>
 cnd r16.1 (
 (vl (.int .i64 (-1)) r16.2).bind fun r17 =>
 some (r17.1, r17.2)) (
 (vl x0 r16.2).bind fun r18 =>
 (vl x1 r18.2).bind fun r19 =>
 (bo P .gtr 3 (.tmp 17) (.tmp 18) r18.1 r19.1 r19.2).bind fun r20 =>
 cnd r20.1 (
 (vl (.int .i64 1) r20.2).bind fun r21 =>
 some (r21.1, r21.2)) (
 (vl (.int .i64 0) r20.2).bind fun r22 =>
 some (r22.1, r22.2))))) := by kernel_rfl
noncomputable def spec_l2Put_j1 (e : Env) (w : World) : Option (Value × World) := exC P (EV P) 100 24 (cB (cB (cB (Yi P 100)))) e w (kFn P (fnOf P 100))
theorem spec_l2Put_j1_eq (e : Env) (w : World) : spec_l2Put_j1 e w =
 (fa P 45 (e 1) 0 (dw w)).bind fun r2 =>
 ifP (r2.2 = (dw w)) <|
 (ld P 3 r2.1 (dw w)).bind fun r3 =>
 ifP (r3.2 = (dw w)) <|
 (fa P 45 (e 1) 1 (dw w)).bind fun r4 =>
 ifP (r4.2 = (dw w)) <|
 (ld P 40 r4.1 (dw w)).bind fun r5 =>
 ifP (r5.2 = (dw w)) <|
 (fa P 45 (e 1) 2 (dw w)).bind fun r6 =>
 ifP (r6.2 = (dw w)) <|
 (ld P 43 r6.1 (dw w)).bind fun r7 =>
 ifP (r7.2 = (dw w)) <|
 (vl (e 3) (dw w)).bind fun r8 =>
 ifP (r8.2 = (dw w)) <|
 (EV P 102 #[r3.1] (dw w)).bind fun r9 =>
 ifP (ld P 43 r6.1 r9.2 = some (r7.1, r9.2) ∧ fa P 45 (e 1) 2 r9.2 = some (r6.1, r9.2) ∧ ld P 40 r4.1 r9.2 = some (r5.1, r9.2) ∧ fa P 45 (e 1) 1 r9.2 = some (r4.1, r9.2) ∧ True ∧ True ∧ True) <|
 (bo P .add 9 (.tmp 11) (.const (Go.Value.string { data := #[32] })) r9.1 (Go.Value.string { data := #[32] }) r9.2).bind fun r10 =>
 ifP (r10.2 = r9.2) <|
 (EV P 103 #[r5.1] r9.2).bind fun r11 =>
 ifP (bo P .add 9 (.tmp 11) (.const (Go.Value.string { data := #[32] })) r9.1 (Go.Value.string { data := #[32] }) r11.2 = some (r10.1, r11.2) ∧ ld P 43 r6.1 r11.2 = some (r7.1, r11.2) ∧ fa P 45 (e 1) 2 r11.2 = some (r6.1, r11.2) ∧ True ∧ True ∧ True ∧ True ∧ True) <|
 (bo P .add 9 (.tmp 12) (.tmp 15) r10.1 r11.1 r11.2).bind fun r12 =>
 ifP (r12.2 = r11.2) <|
 (EV P 104 #[r7.1] r11.2).bind fun r13 =>
 ifP (bo P .add 9 (.tmp 12) (.tmp 15) r10.1 r11.1 r13.2 = some (r12.1, r13.2) ∧ bo P .add 9 (.tmp 11) (.const (Go.Value.string { data := #[32] })) r9.1 (Go.Value.string { data := #[32] }) r13.2 = some (r10.1, r13.2) ∧ True ∧ True ∧ True ∧ True ∧ True ∧ True ∧ True) <|
 (bo P .add 9 (.tmp 16) (.tmp 19) r12.1 r13.1 r13.2).bind fun r14 =>
 ifP (r14.2 = r13.2) <|
 (bo P .add 9 (.tmp 20) (.const (Go.Value.string { data := #[32] })) r14.1 (Go.Value.string { data := #[32] }) r13.2).bind fun r15 =>
 ifP (r15.2 = r13.2) <|
 (bo P .add 9 (.tmp 21) (.tmp 22) r15.1 r8.1 r13.2).bind fun r16 =>
 ifP (r16.2 = r13.2) <|
 (vl r16.1 r13.2).bind fun r17 =>
 ifP (r17.2 = r13.2) <|
 some (r17.1, r13.2) := by kernel_rfl
theorem spec_l2Put_fn (x0 : Value) (w : World) : fnC P (EV P) 100 #[x0] w =
 (bx P 45 x0 w).bind fun r1 =>
 (vl (Go.Value.string { data := #[] }) r1.2).bind fun r2 =>
 (fa P 45 r1.1 3 r2.2).bind fun r3 =>
 (ld P 9 r3.1 r3.2).bind fun r4 =>
 (bo P .add 9 (.const (Go.Value.string { data := #[61] })) (.tmp 5) (Go.Value.string { data := #[61] }) r4.1 r4.2).bind fun r5 =>
 (vl r5.1 r5.2).bind fun r6 =>
 (fa P 45 r1.1 4 r6.2).bind fun r7 =>
 (ld P 4 r7.1 r7.2).bind fun r8 =>
 cnd r8.1 (
 (vl (Go.Value.string { data := #[45] }) r8.2).bind fun r9 =>
 spec_l2Put_j1 (ups (env0 #[x0]) [(1, r1.1), (2, r2.1), (4, r3.1), (5, r4.1), (6, r5.1), (3, r6.1), (7, r7.1), (8, r8.1), (3, r9.1)]) r9.2) (
 spec_l2Put_j1 (ups (env0 #[x0]) [(1, r1.1), (2, r2.1), (4, r3.1), (5, r4.1), (6, r5.1), (3, r6.1), (7, r7.1), (8, r8.1)]) r8.2) := by kernel_rfl
theorem cmp_isNaN_int_fn (x0 : Value) (w : World) : fnC P (EV P) 101 #[x0] w =
 (vl (.bool false) w).bind fun r1 =>
 (vl x0 r1.2).bind fun r2 =>
 (vl x0 r2.2).bind fun r3 =>
 (bo P .neq 3 (.tmp 3) (.tmp 4) r2.1 r3.1 r3.2).bind fun r4 =>
 (vl r4.1 r4.2).bind fun r5 =>
 some (r5.1, r5.2) := by kernel_rfl
noncomputable def spec_l1Dec_a1 (e : Env) (w : World) : Option (Value × World) := exC P (EV P) 102 28 (cA (cB (cB (cB (cB (Yi P 102)))))) e w (kSeq P (EV P) 102 28 (cB (cB (cB (cB (cB (Yi P 102)))))) (kFn P (fnOf P 102)))
noncomputable def spec_l1Dec_j1 (e : Env) (w : World) : Option (Value × World) := exC P (EV P) 102 28 (cB (cB (cB (cB (cB (Yi P 102)))))) e w (kFn P (fnOf P 102))
theorem spec_l1Dec_a1_any (e : Env) (w : World) {Q : Value × World → Prop} (h :
 (Ret (vl (e 0) (dw w)) fun r1 => r1.2 = (dw w) ∧
 (Ret (bo P .quo 3 (.tmp 18) (.const (.int .i64 10)) r1.1 (.int .i64 10) (dw w)) fun r2 => r2.2 = (dw w) ∧
 (Ret (vl (e 0) (dw w)) fun r3 => r3.2 = (dw w) ∧
 (Ret (bo P .rem 3 (.tmp 21) (.const (.int .i64 10)) r3.1 (.int .i64 10) (dw w)) fun r4 => r4.2 = (dw w) ∧
 (Ret (bo P .add 3 (.const (.int .i64 48)) (.tmp 22) (.int .i64 48) r4.1 (dw w)) fun r5 => r5.2 = (dw w) ∧
 (Ret (cv P 3 5 r5.1 (dw w)) fun r6 => r6.2 = (dw w) ∧
 ((Ret (EV P 102 #[r2.1] (dw w)) fun r7 => (cv P 3 5 r5.1 r7.2 = some (r6.1, r7.2) ∧ bo P .add 3 (.const (.int .i64 48)) (.tmp 22) (.int .i64 48) r4.1 r7.2 = some (r5.1, r7.2) ∧ bo P .rem 3 (.tmp 21) (.const (.int .i64 10)) r3.1 (.int .i64 10) r7.2 = some (r4.1, r7.2) ∧ True ∧ True) ∧
 ((Ret (bs P 22 1 #[(0, r6.1)] r7.2) fun r8 => (True ∧ True ∧ True ∧ bo P .quo 3 (.tmp 18) (.const (.int .i64 10)) r1.1 (.int .i64 10) r8.2 = some (r2.1, r8.2) ∧ True) ∧
 (Ret (cv P 22 9 r8.1 r8.2) fun r9 => r9.2 = r8.2 ∧
 (Ret (bo P .add 9 (.tmp 20) (.tmp 26) r7.1 r9.1 r8.2) fun r10 => r10.2 = r8.2 ∧
 (Ret (vl r10.1 r8.2) fun r11 => r11.2 = r8.2 ∧
 Ret (spec_l1Dec_j1 (ups e [(18, r1.1), (19, r2.1), (21, r3.1), (22, r4.1), (23, r5.1), (24, r6.1), (20, r7.1), (25, r8.1), (26, r9.1), (27, r10.1), (2, r11.1)]) r8.2) Q)))))) ∧
 (Ret (bs P 22 1 #[(0, r6.1)] (dw w)) fun r12 => (True ∧ True ∧ True ∧ bo P .quo 3 (.tmp 18) (.const (.int .i64 10)) r1.1 (.int .i64 10) r12.2 = some (r2.1, r12.2) ∧ True) ∧
 (Ret (cv P 22 9 r12.1 r12.2) fun r13 => r13.2 = r12.2 ∧
 ((Ret (EV P 102 #[r2.1] r12.2) fun r14 => (cv P 22 9 r12.1 r14.2 = some (r13.1, r14.2) ∧ cv P 3 5 r5.1 r14.2 = some (r6.1, r14.2) ∧ bo P .add 3 (.const (.int .i64 48)) (.tmp 22) (.int .i64 48) r4.1 r14.2 = some (r5.1, r14.2) ∧ bo P .rem 3 (.tmp 21) (.const (.int .i64 10)) r3.1 (.int .i64 10) r14.2 = some (r4.1, r14.2) ∧ True ∧ True) ∧
 (Ret (bo P .add 9 (.tmp 20) (.tmp 26) r14.1 r13.1 r14.2) fun r15 => r15.2 = r14.2 ∧
 (Ret (vl r15.1 r14.2) fun r16 => r16.2 = r14.2 ∧
 Ret (spec_l1Dec_j1 (ups e [(18, r1.1), (19, r2.1), (21, r3.1), (22, r4.1), (23, r5.1), (24, r6.1), (25, r12.1), (26, r13.1), (20, r14.1), (27, r15.1), (2, r16.1)]) r14.2) Q)))))))))))))) : Ret (spec_l1Dec_a1 e w) Q := exC_any (id := 7) (ops := opsOf (cA (cB (cB (cB (cB (Yi P 102))))))) (by kernel_rfl) (by kernel_rfl) (Eq.mpr (by kernel_rfl) h)
theorem spec_l1Dec_j1_eq (e : Env) (w : World) : spec_l1Dec_j1 e w =
 some ((e 2), w) := by kernel_rfl
theorem spec_l1Dec_fn (x0 : Value) (w : World) : fnC P (EV P) 102 #[x0] w =
 (vl (Go.Value.string { data := #[] }) w).bind fun r1 =>
 (vl x0 r1.2).bind fun r2 =>
 (bo P .lss 3 (.tmp 3) (.const (.int .i64 (-9223372036854775807))) r2.1 (.int .i64 (-9223372036854775807)) r2.2).bind fun r3 =>
 cnd r3.1 (
 (vl (Go.Value.string { data := #[45, 57, 50, 50, 51, 51, 55, 50, 48, 51, 54, 56, 53, 52, 55, 55, 53, 56, 48, 56] }) r3.2).bind fun r4 =>
 some (r4.1, r4.2)) (
 (vl x0 r3.2).bind fun r5 =>
 (bo P .lss 3 (.tmp 5) (.const (.int .i64 0)) r5.1 (.int .i64 0) r5.2).bind fun r6 =>
 cnd r6.1 (
 (vl x0 r6.2).bind fun r7 =>
 (uo P .neg r7.1 r7.2).bind fun r8 =>
 (EV P 102 #[r8.1] r8.2).bind fun r9 =>
 (bo P .add 9 (.const (Go.Value.string { data := #[45] })) (.tmp 9) (Go.Value.string { data := #[45] }) r9.1 r9.2).bind fun r10 =>
 (vl r10.1 r10.2).bind fun r11 =>
 some (r11.1, r11.2)) (
 (vl x0 r6.2).bind fun r12 =>
 (bo P .lss 3 (.tmp 11) (.const (.int .i64 10)) r12.1 (.int .i64 10) r12.2).bind fun r13 =>
 cnd r13.1 (
 (vl x0 r13.2).bind fun r14 =>
 (bo P .add 3 (.const (.int .i64 48)) (.tmp 13) (.int .i64 48) r14.1 r14.2).bind fun r15 =>
 (cv P 3 5 r15.1 r15.2).bind fun r16 =>
 (bs P 22 1 #[(0, r16.1)] r16.2).bind fun r17 =>
 (cv P 22 9 r17.1 r17.2).bind fun r18 =>
 (vl r18.1 r18.2).bind fun r19 =>
 some (r19.1, r19.2)) (
 spec_l1Dec_a1 (ups (env0 #[x0]) [(2, r1.1), (3, r2.1), (4, r3.1), (5, r5.1), (6, r6.1), (11, r12.1), (12, r13.1)]) r13.2))) := by kernel_rfl
theorem spec_l1Put_fn (x0 : Value) (w : World) : fnC P (EV P) 103 #[x0] w =
 (bx P 40 x0 w).bind fun r1 =>
 (vl (Go.Value.string { data := #[] }) r1.2).bind fun r2 =>
 (fa P 40 r1.1 0 (dw r2.2)).bind fun r4 =>
 ifP (r4.2 = (dw r2.2)) <|
 (ld P 3 r4.1 (dw r2.2)).bind fun r5 =>
 ifP (r5.2 = (dw r2.2)) <|
 (fa P 40 r1.1 1 (dw r2.2)).bind fun r6 =>
 ifP (r6.2 = (dw r2.2)) <|
 (ld P 3 r6.1 (dw r2.2)).bind fun r7 =>
 ifP (r7.2 = (dw r2.2)) <|
 (EV P 102 #[r5.1] (dw r2.2)).bind fun r8 =>
 ifP (ld P 3 r6.1 r8.2 = some (r7.1, r8.2) ∧ fa P 40 r1.1 1 r8.2 = some (r6.1, r8.2) ∧ True ∧ True ∧ True) <|
 (bo P .add 9 (.tmp 5) (.const (Go.Value.string { data := #[46] })) r8.1 (Go.Value.string { data := #[46] }) r8.2).bind fun r9 =>
 ifP (r9.2 = r8.2) <|
 (EV P 102 #[r7.1] r8.2).bind fun r10 =>
 ifP (bo P .add 9 (.tmp 5) (.const (Go.Value.string { data := #[46] })) r8.1 (Go.Value.string { data := #[46] }) r10.2 = some (r9.1, r10.2) ∧ True ∧ True ∧ True ∧ True ∧ True) <|
 (bo P .add 9 (.tmp 6) (.tmp 9) r9.1 r10.1 r10.2).bind fun r11 =>
 ifP (r11.2 = r10.2) <|
 (vl r11.1 r10.2).bind fun r12 =>
 ifP (r12.2 = r10.2) <|
 some (r12.1, r10.2) := by kernel_rfl
noncomputable def spec_l2Past_l1 (e : Env) (w : World) : Option (Value × World) := exC P (EV P) 104 22 (.loop (cA (cA (cB (cA (cB (cB (Yi P 104)))))))) e w (Yj 0 (kSeq P (EV P) 104 22 (cB (cB (cB (Yi P 104)))) (kFn P (fnOf P 104))))
theorem spec_l2Past_l1_eq (e : Env) (w : World) : spec_l2Past_l1 e w =
 (vl (e 4) w).bind fun r1 =>
 (fa P 43 (e 1) 0 r1.2).bind fun r2 =>
 (ld P 41 r2.1 r2.2).bind fun r3 =>
 (Yp P #[41] 3 #[r3.1] r3.2).bind fun r4 =>
 (bo P .lss 3 (.tmp 5) (.tmp 8) r1.1 r4.1 r4.2).bind fun r5 =>
 cnd r5.1 (
 (vl (e 3) r5.2).bind fun r6 =>
 (bo P .add 9 (.tmp 12) (.const (Go.Value.string { data := #[32] })) r6.1 (Go.Value.string { data := #[32] }) r6.2).bind fun r7 =>
 (fa P 43 (e 1) 0 r7.2).bind fun r8 =>
 (ld P 41 r8.1 r8.2).bind fun r9 =>
 (vl (e 4) r9.2).bind fun r10 =>
 (ia P 41 r9.1 r10.1 r10.2).bind fun r11 =>
 (ld P 40 r11.1 r11.2).bind fun r12 =>
 (EV P 103 #[r12.1] r12.2).bind fun r13 =>
 (bo P .add 9 (.tmp 13) (.tmp 19) r7.1 r13.1 r13.2).bind fun r14 =>
 (vl r14.1 r14.2).bind fun r15 =>
 (vl (e 4) r15.2).bind fun r16 =>
 (bo P .add 3 (.tmp 10) (.const (.int .i64 1)) r16.1 (.int .i64 1) r16.2).bind fun r17 =>
 (vl r17.1 r17.2).bind fun r18 =>
 spec_l2Past_l1 (ups e [(5, r1.1), (6, r2.1), (7, r3.1), (8, r4.1), (9, r5.1), (12, r6.1), (13, r7.1), (14, r8.1), (15, r9.1), (16, r10.1), (17, r11.1), (18, r12.1), (19, r13.1), (20, r14.1), (3, r15.1), (10, r16.1), (11, r17.1), (4, r18.1)]) r18.2) (
 (vl (e 3) r5.2).bind fun r19 =>
 (vl r19.1 r19.2).bind fun r20 =>
 some (r20.1, r20.2)) := (exC_loop P (EV P) 104 22 (cA (cA (cB (cA (cB (cB (Yi P 104))))))) e w (Yj 0 (kSeq P (EV P) 104 22 (cB (cB (cB (Yi P 104)))) (kFn P (fnOf P 104))))).trans (by kernel_rfl)
theorem spec_l2Past_fn (x0 : Value) (w : World) : fnC P (EV P) 104 #[x0] w =
 (bx P 43 x0 w).bind fun r1 =>
 (vl (Go.Value.string { data := #[] }) r1.2).bind fun r2 =>
 (vl (Go.Value.string { data := #[] }) r2.2).bind fun r3 =>
 (vl (.int .i64 0) r3.2).bind fun r4 =>
 spec_l2Past_l1 (ups (env0 #[x0]) [(1, r1.1), (2, r2.1), (3, r3.1), (4, r4.1)]) r4.2 := by kernel_rfl
end Go.Proofs.YtjagkbamkohnoaaGreat.X
