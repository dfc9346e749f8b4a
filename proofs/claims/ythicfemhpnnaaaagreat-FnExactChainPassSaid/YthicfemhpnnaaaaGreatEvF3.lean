/- A part of the proof: an evaluator of the model, its laws, and contracts of functions; no condition. -/
import Derived.Test.YthicfemhpnnaaaaGreatEvT
set_option linter.unusedVariables false
set_option maxRecDepth 100000
namespace Go.Proofs.YthicfemhpnnaaaaGreat.X
open Go Go.Ev
noncomputable def spec_l3SameStore_l1 (e : Env) (w : World) : Option (Value × World) := exC P (EV P) 117 47 (.loop (cA (cA (cB (cA (cB (bodyOf P 117))))))) e w (kBlock 0 (kSeq P (EV P) 117 47 (cB (cB (bodyOf P 117))) (kFn P (fnOf P 117))))
theorem spec_l3SameStore_l1_eq (e : Env) (w : World) : spec_l3SameStore_l1 e w =
 (vl (e 5) w).bind fun r1 =>
 (bo P .lss 3 (.tmp 6) (.const (.int .i64 4)) r1.1 (.int .i64 4) r1.2).bind fun r2 =>
 cnd r2.1 (
 (fa P 34 (e 2) 0 (dw r2.2)).bind fun r4 =>
 ifP (r4.2 = (dw r2.2)) <|
 (ld P 32 r4.1 (dw r2.2)).bind fun r5 =>
 ifP (r5.2 = (dw r2.2)) <|
 (vl (e 5) (dw r2.2)).bind fun r6 =>
 ifP (r6.2 = (dw r2.2)) <|
 (ia P 32 r5.1 r6.1 (dw r2.2)).bind fun r7 =>
 ifP (r7.2 = (dw r2.2)) <|
 (fa P 45 r7.1 1 (dw r2.2)).bind fun r8 =>
 ifP (r8.2 = (dw r2.2)) <|
 (ld P 40 r8.1 (dw r2.2)).bind fun r9 =>
 ifP (r9.2 = (dw r2.2)) <|
 (fa P 34 (e 3) 0 (dw r2.2)).bind fun r10 =>
 ifP (r10.2 = (dw r2.2)) <|
 (ld P 32 r10.1 (dw r2.2)).bind fun r11 =>
 ifP (r11.2 = (dw r2.2)) <|
 (vl (e 5) (dw r2.2)).bind fun r12 =>
 ifP (r12.2 = (dw r2.2)) <|
 (ia P 32 r11.1 r12.1 (dw r2.2)).bind fun r13 =>
 ifP (r13.2 = (dw r2.2)) <|
 (fa P 45 r13.1 1 (dw r2.2)).bind fun r14 =>
 ifP (r14.2 = (dw r2.2)) <|
 (ld P 40 r14.1 (dw r2.2)).bind fun r15 =>
 ifP (r15.2 = (dw r2.2)) <|
 (bo P .neq 40 (.tmp 15) (.tmp 21) r9.1 r15.1 (dw r2.2)).bind fun r16 =>
 ifP (r16.2 = (dw r2.2)) <|
 (vl r16.1 (dw r2.2)).bind fun r17 =>
 ifP (r17.2 = (dw r2.2)) <|
 (gif r17.1 false (fa P 34 (e 2) 0 (dw r2.2)) (dw r2.2)).bind fun r18 =>
 ifP (r18.2 = (dw r2.2)) <|
 (gif r17.1 false (ld P 32 r18.1 (dw r2.2)) (dw r2.2)).bind fun r19 =>
 ifP (r19.2 = (dw r2.2)) <|
 (gif r17.1 false (vl (e 5) (dw r2.2)) (dw r2.2)).bind fun r20 =>
 ifP (r20.2 = (dw r2.2)) <|
 (gif r17.1 false (ia P 32 r19.1 r20.1 (dw r2.2)) (dw r2.2)).bind fun r21 =>
 ifP (r21.2 = (dw r2.2)) <|
 (gif r17.1 false (fa P 45 r21.1 1 (dw r2.2)) (dw r2.2)).bind fun r22 =>
 ifP (r22.2 = (dw r2.2)) <|
 (gif r17.1 false (fa P 40 r22.1 0 (dw r2.2)) (dw r2.2)).bind fun r23 =>
 ifP (r23.2 = (dw r2.2)) <|
 (gif r17.1 false (ld P 3 r23.1 (dw r2.2)) (dw r2.2)).bind fun r24 =>
 ifP (r24.2 = (dw r2.2)) <|
 (gif r17.1 false (bo P .gtr 3 (.tmp 30) (.const (.int .i64 0)) r24.1 (.int .i64 0) (dw r2.2)) (dw r2.2)).bind fun r25 =>
 ifP (r25.2 = (dw r2.2)) <|
 (gif r17.1 false (vl r25.1 (dw r2.2)) (dw r2.2)).bind fun r26 =>
 ifP (r26.2 = (dw r2.2)) <|
 (gif r26.1 true (fa P 34 (e 2) 0 (dw r2.2)) (dw r2.2)).bind fun r27 =>
 ifP (r27.2 = (dw r2.2)) <|
 (gif r26.1 true (ld P 32 r27.1 (dw r2.2)) (dw r2.2)).bind fun r28 =>
 ifP (r28.2 = (dw r2.2)) <|
 (gif r26.1 true (vl (e 5) (dw r2.2)) (dw r2.2)).bind fun r29 =>
 ifP (r29.2 = (dw r2.2)) <|
 (gif r26.1 true (ia P 32 r28.1 r29.1 (dw r2.2)) (dw r2.2)).bind fun r30 =>
 ifP (r30.2 = (dw r2.2)) <|
 (gif r26.1 true (ld P 45 r30.1 (dw r2.2)) (dw r2.2)).bind fun r31 =>
 ifP (r31.2 = (dw r2.2)) <|
 (gif r26.1 true (fa P 34 (e 3) 0 (dw r2.2)) (dw r2.2)).bind fun r32 =>
 ifP (r32.2 = (dw r2.2)) <|
 (gif r26.1 true (ld P 32 r32.1 (dw r2.2)) (dw r2.2)).bind fun r33 =>
 ifP (r33.2 = (dw r2.2)) <|
 (gif r26.1 true (vl (e 5) (dw r2.2)) (dw r2.2)).bind fun r34 =>
 ifP (r34.2 = (dw r2.2)) <|
 (gif r26.1 true (ia P 32 r33.1 r34.1 (dw r2.2)) (dw r2.2)).bind fun r35 =>
 ifP (r35.2 = (dw r2.2)) <|
 (gif r26.1 true (ld P 45 r35.1 (dw r2.2)) (dw r2.2)).bind fun r36 =>
 ifP (r36.2 = (dw r2.2)) <|
 (gif r26.1 true (EV P 140 #[r31.1, r36.1] (dw r2.2)) (dw r2.2)).bind fun r37 =>
 ifP (True ∧ True ∧ True ∧ True ∧ True ∧ True ∧ True ∧ True ∧ True ∧ True ∧ True ∧ True ∧ True ∧ True ∧ True ∧ True ∧ True ∧ True ∧ True ∧ True ∧ True ∧ True ∧ True ∧ True ∧ True ∧ True ∧ True) <|
 (gif r26.1 true (uo P .not r37.1 r37.2) r37.2).bind fun r38 =>
 ifP (r38.2 = r37.2) <|
 (gif r17.1 false (pickV r26.1 r38.1 (.bool false) r37.2) r37.2).bind fun r39 =>
 ifP (r39.2 = r37.2) <|
 (pickV r17.1 (.bool true) r39.1 r37.2).bind fun r40 =>
 ifP (r40.2 = r37.2) <|
 cnd r40.1 (
 (vl (.bool false) r37.2).bind fun r41 =>
 some (r41.1, r41.2)) (
 (vl (e 5) r37.2).bind fun r42 =>
 (bo P .add 3 (.tmp 8) (.const (.int .i64 1)) r42.1 (.int .i64 1) r42.2).bind fun r43 =>
 (vl r43.1 r43.2).bind fun r44 =>
 spec_l3SameStore_l1 (ups e [(6, r1.1), (7, r2.1), (10, r4.1), (11, r5.1), (12, r6.1), (13, r7.1), (14, r8.1), (15, r9.1), (16, r10.1), (17, r11.1), (18, r12.1), (19, r13.1), (20, r14.1), (21, r15.1), (22, r16.1), (23, r17.1), (24, r18.1), (25, r19.1), (26, r20.1), (27, r21.1), (28, r22.1), (29, r23.1), (30, r24.1), (31, r25.1), (32, r26.1), (33, r27.1), (34, r28.1), (35, r29.1), (36, r30.1), (37, r31.1), (38, r32.1), (39, r33.1), (40, r34.1), (41, r35.1), (42, r36.1), (43, r37.1), (44, r38.1), (45, r39.1), (46, r40.1), (8, r42.1), (9, r43.1), (5, r44.1)]) r44.2)) (
 (vl (.bool true) r2.2).bind fun r45 =>
 some (r45.1, r45.2)) := (exC_loop P (EV P) 117 47 (cA (cA (cB (cA (cB (bodyOf P 117)))))) e w (kBlock 0 (kSeq P (EV P) 117 47 (cB (cB (bodyOf P 117))) (kFn P (fnOf P 117))))).trans (by kernel_rfl)
theorem spec_l3SameStore_fn (x0 x1 : Value) (w : World) : fnC P (EV P) 117 #[x0, x1] w =
 (bx P 34 x0 w).bind fun r1 =>
 (bx P 34 x1 r1.2).bind fun r2 =>
 (vl (.bool false) r2.2).bind fun r3 =>
 (vl (.int .i64 0) r3.2).bind fun r4 =>
 spec_l3SameStore_l1 (ups (env0 #[x0, x1]) [(2, r1.1), (3, r2.1), (4, r3.1), (5, r4.1)]) r4.2 := by kernel_rfl
noncomputable def slices_Equal_Tag_l1 (e : Env) (w : World) : Option (Value × World) := exC P (EV P) 118 26 (.loop (cA (cA (cB (cA (cB (cB (bodyOf P 118)))))))) e w (kBlock 0 (kSeq P (EV P) 118 26 (cB (cB (cB (bodyOf P 118)))) (kFn P (fnOf P 118))))
theorem slices_Equal_Tag_l1_eq (e : Env) (w : World) : slices_Equal_Tag_l1 e w =
 (bo P .lss 3 (.tmp 13) (.tmp 12) (e 13) (e 12) w).bind fun r1 =>
 cnd r1.1 (
 (vl (e 13) r1.2).bind fun r2 =>
 (vl r2.1 r2.2).bind fun r3 =>
 (vl (e 0) (dw r3.2)).bind fun r5 =>
 ifP (r5.2 = (dw r3.2)) <|
 (vl r3.1 (dw r3.2)).bind fun r6 =>
 ifP (r6.2 = (dw r3.2)) <|
 (ia P 41 r5.1 r6.1 (dw r3.2)).bind fun r7 =>
 ifP (r7.2 = (dw r3.2)) <|
 (ld P 40 r7.1 (dw r3.2)).bind fun r8 =>
 ifP (r8.2 = (dw r3.2)) <|
 (vl (e 1) (dw r3.2)).bind fun r9 =>
 ifP (r9.2 = (dw r3.2)) <|
 (vl r3.1 (dw r3.2)).bind fun r10 =>
 ifP (r10.2 = (dw r3.2)) <|
 (ia P 41 r9.1 r10.1 (dw r3.2)).bind fun r11 =>
 ifP (r11.2 = (dw r3.2)) <|
 (ld P 40 r11.1 (dw r3.2)).bind fun r12 =>
 ifP (r12.2 = (dw r3.2)) <|
 (bo P .neq 40 (.tmp 19) (.tmp 23) r8.1 r12.1 (dw r3.2)).bind fun r13 =>
 ifP (r13.2 = (dw r3.2)) <|
 cnd r13.1 (
 (vl (.bool false) (dw r3.2)).bind fun r14 =>
 some (r14.1, r14.2)) (
 (bo P .add 3 (.tmp 13) (.const (.int .i64 1)) (e 13) (.int .i64 1) (dw r3.2)).bind fun r15 =>
 (vl r15.1 r15.2).bind fun r16 =>
 slices_Equal_Tag_l1 (ups e [(14, r1.1), (15, r2.1), (5, r3.1), (16, r5.1), (17, r6.1), (18, r7.1), (19, r8.1), (20, r9.1), (21, r10.1), (22, r11.1), (23, r12.1), (24, r13.1), (25, r15.1), (13, r16.1)]) r16.2)) (
 (vl (.bool true) r1.2).bind fun r17 =>
 some (r17.1, r17.2)) := (exC_loop P (EV P) 118 26 (cA (cA (cB (cA (cB (cB (bodyOf P 118))))))) e w (kBlock 0 (kSeq P (EV P) 118 26 (cB (cB (cB (bodyOf P 118)))) (kFn P (fnOf P 118))))).trans (by kernel_rfl)
theorem slices_Equal_Tag_fn (x0 x1 : Value) (w : World) : fnC P (EV P) 118 #[x0, x1] w =
 (vl (.bool false) w).bind fun r1 =>
 (vl x0 r1.2).bind fun r2 =>
 (b_len P #[41] 3 #[r2.1] r2.2).bind fun r3 =>
 (vl x1 r3.2).bind fun r4 =>
 (b_len P #[41] 3 #[r4.1] r4.2).bind fun r5 =>
 (bo P .neq 3 (.tmp 7) (.tmp 9) r3.1 r5.1 r5.2).bind fun r6 =>
 cnd r6.1 (
 (vl (.bool false) r6.2).bind fun r7 =>
 some (r7.1, r7.2)) (
 (vl x0 r6.2).bind fun r8 =>
 (b_len P #[41] 3 #[r8.1] r8.2).bind fun r9 =>
 (vl (.int .i64 0) r9.2).bind fun r10 =>
 slices_Equal_Tag_l1 (ups (env0 #[x0, x1]) [(4, r1.1), (6, r2.1), (7, r3.1), (8, r4.1), (9, r5.1), (10, r6.1), (11, r8.1), (12, r9.1), (13, r10.1)]) r10.2) := by kernel_rfl
theorem impl_keyOk_fn (x0 : Value) (w : World) : fnC P (EV P) 119 #[x0] w =
 (vl (.bool false) w).bind fun r1 =>
 (vl x0 r1.2).bind fun r2 =>
 (EV P 73 #[r2.1, (.int .i64 0), (.int .i64 3)] r2.2).bind fun r3 =>
 (vl r3.1 r3.2).bind fun r4 =>
 some (r4.1, r4.2) := by kernel_rfl
noncomputable def impl_textOk_l1 (e : Env) (w : World) : Option (Value × World) := exC P (EV P) 120 19 (.loop (cA (cA (cB (cA (cB (bodyOf P 120))))))) e w (kBlock 0 (kSeq P (EV P) 120 19 (cB (cB (bodyOf P 120))) (kFn P (fnOf P 120))))
theorem impl_textOk_l1_eq (e : Env) (w : World) : impl_textOk_l1 e w =
 (bo P .lss 3 (.tmp 6) (.tmp 5) (e 6) (e 5) w).bind fun r1 =>
 cnd r1.1 (
 (vl (e 6) r1.2).bind fun r2 =>
 (vl r2.1 r2.2).bind fun r3 =>
 (vl (e 0) r3.2).bind fun r4 =>
 (vl r3.1 r4.2).bind fun r5 =>
 (ix P 9 r4.1 r5.1 r5.2).bind fun r6 =>
 (cv P 5 3 r6.1 r6.2).bind fun r7 =>
 (EV P 73 #[r7.1, (.int .i64 33), (.int .i64 126)] r7.2).bind fun r8 =>
 (uo P .not r8.1 r8.2).bind fun r9 =>
 cnd r9.1 (
 (vl (.bool false) r9.2).bind fun r10 =>
 some (r10.1, r10.2)) (
 (bo P .add 3 (.tmp 6) (.const (.int .i64 1)) (e 6) (.int .i64 1) r9.2).bind fun r11 =>
 (vl r11.1 r11.2).bind fun r12 =>
 impl_textOk_l1 (ups e [(7, r1.1), (8, r2.1), (3, r3.1), (9, r4.1), (10, r5.1), (11, r6.1), (12, r7.1), (13, r8.1), (14, r9.1), (15, r11.1), (6, r12.1)]) r12.2)) (
 (vl (e 0) r1.2).bind fun r13 =>
 (b_len P #[9] 3 #[r13.1] r13.2).bind fun r14 =>
 (bo P .leq 3 (.tmp 17) (.const (.int .i64 8)) r14.1 (.int .i64 8) r14.2).bind fun r15 =>
 (vl r15.1 r15.2).bind fun r16 =>
 some (r16.1, r16.2)) := (exC_loop P (EV P) 120 19 (cA (cA (cB (cA (cB (bodyOf P 120)))))) e w (kBlock 0 (kSeq P (EV P) 120 19 (cB (cB (bodyOf P 120))) (kFn P (fnOf P 120))))).trans (by kernel_rfl)
theorem impl_textOk_fn (x0 : Value) (w : World) : fnC P (EV P) 120 #[x0] w =
 (vl (.bool false) w).bind fun r1 =>
 (vl x0 r1.2).bind fun r2 =>
 (b_len P #[9] 3 #[r2.1] r2.2).bind fun r3 =>
 (vl (.int .i64 0) r3.2).bind fun r4 =>
 impl_textOk_l1 (ups (env0 #[x0]) [(2, r1.1), (4, r2.1), (5, r3.1), (6, r4.1)]) r4.2 := by kernel_rfl
theorem impl_placeOk_fn (x0 : Value) (w : World) : fnC P (EV P) 121 #[x0] w =
 (vl (.bool false) w).bind fun r1 =>
 (vl x0 r1.2).bind fun r2 =>
 (EV P 73 #[r2.1, (.int .i64 0), (.int .i64 2)] r2.2).bind fun r3 =>
 (vl r3.1 r3.2).bind fun r4 =>
 some (r4.1, r4.2) := by kernel_rfl
noncomputable def slices_EqualFunc_Ver_l1 (e : Env) (w : World) : Option (Value × World) := exC P (EV P) 122 32 (.loop (cA (cA (cB (cA (cB (cB (bodyOf P 122)))))))) e w (kBlock 0 (kSeq P (EV P) 122 32 (cB (cB (cB (bodyOf P 122)))) (kFn P (fnOf P 122))))
theorem slices_EqualFunc_Ver_l1_eq (e : Env) (w : World) : slices_EqualFunc_Ver_l1 e w =
 (bo P .lss 3 (.tmp 17) (.tmp 16) (e 17) (e 16) w).bind fun r1 =>
 cnd r1.1 (
 (vl (e 17) r1.2).bind fun r2 =>
 (ia P 32 (e 15) (e 17) r2.2).bind fun r3 =>
 (ld P 45 r3.1 r3.2).bind fun r4 =>
 (al P 45 r4.2).bind fun r5 =>
 (vl r2.1 r5.2).bind fun r6 =>
 (st P 45 r5.1 r4.1 r6.2).bind fun r7 =>
 (vl (e 1) r7.2).bind fun r8 =>
 (vl r6.1 r8.2).bind fun r9 =>
 (ia P 32 r8.1 r9.1 r9.2).bind fun r10 =>
 (ld P 45 r10.1 r10.2).bind fun r11 =>
 (al P 45 r11.2).bind fun r12 =>
 (st P 45 r12.1 r11.1 r12.2).bind fun r13 =>
 (vl (e 2) r13.2).bind fun r14 =>
 (ld P 45 r5.1 r14.2).bind fun r15 =>
 (ld P 45 r12.1 r15.2).bind fun r16 =>
 (clo P r14.1 #[r15.1, r16.1] r16.2).bind fun r17 =>
 (uo P .not r17.1 r17.2).bind fun r18 =>
 cnd r18.1 (
 (vl (.bool false) r18.2).bind fun r19 =>
 some (r19.1, r19.2)) (
 (bo P .add 3 (.tmp 17) (.const (.int .i64 1)) (e 17) (.int .i64 1) r18.2).bind fun r20 =>
 (vl r20.1 r20.2).bind fun r21 =>
 slices_EqualFunc_Ver_l1 (ups e [(18, r1.1), (19, r2.1), (20, r3.1), (21, r4.1), (8, r5.1), (7, r6.1), (22, r8.1), (23, r9.1), (24, r10.1), (25, r11.1), (9, r12.1), (26, r14.1), (27, r15.1), (28, r16.1), (29, r17.1), (30, r18.1), (31, r20.1), (17, r21.1)]) r21.2)) (
 (vl (.bool true) r1.2).bind fun r22 =>
 some (r22.1, r22.2)) := (exC_loop P (EV P) 122 32 (cA (cA (cB (cA (cB (cB (bodyOf P 122))))))) e w (kBlock 0 (kSeq P (EV P) 122 32 (cB (cB (cB (bodyOf P 122)))) (kFn P (fnOf P 122))))).trans (by kernel_rfl)
theorem slices_EqualFunc_Ver_fn (x0 x1 x2 : Value) (w : World) : fnC P (EV P) 122 #[x0, x1, x2] w =
 (vl (.bool false) w).bind fun r1 =>
 (vl x0 r1.2).bind fun r2 =>
 (b_len P #[32] 3 #[r2.1] r2.2).bind fun r3 =>
 (vl x1 r3.2).bind fun r4 =>
 (b_len P #[32] 3 #[r4.1] r4.2).bind fun r5 =>
 (bo P .neq 3 (.tmp 11) (.tmp 13) r3.1 r5.1 r5.2).bind fun r6 =>
 cnd r6.1 (
 (vl (.bool false) r6.2).bind fun r7 =>
 some (r7.1, r7.2)) (
 (vl x0 r6.2).bind fun r8 =>
 (b_len P #[32] 3 #[r8.1] r8.2).bind fun r9 =>
 (vl (.int .i64 0) r9.2).bind fun r10 =>
 slices_EqualFunc_Ver_l1 (ups (env0 #[x0, x1, x2]) [(6, r1.1), (10, r2.1), (11, r3.1), (12, r4.1), (13, r5.1), (14, r6.1), (15, r8.1), (16, r9.1), (17, r10.1)]) r10.2) := by kernel_rfl
theorem impl_Tag_compare_fn (x0 x1 : Value) (w : World) : fnC P (EV P) 123 #[x0, x1] w =
 (bx P 40 x0 w).bind fun r1 =>
 (bx P 40 x1 r1.2).bind fun r2 =>
 (vl (.int .i64 0) r2.2).bind fun r3 =>
 (fa P 40 r1.1 0 (dw r3.2)).bind fun r5 =>
 ifP (r5.2 = (dw r3.2)) <|
 (ld P 3 r5.1 (dw r3.2)).bind fun r6 =>
 ifP (r6.2 = (dw r3.2)) <|
 (fa P 40 r2.1 0 (dw r3.2)).bind fun r7 =>
 ifP (r7.2 = (dw r3.2)) <|
 (ld P 3 r7.1 (dw r3.2)).bind fun r8 =>
 ifP (r8.2 = (dw r3.2)) <|
 (fa P 40 r1.1 1 (dw r3.2)).bind fun r9 =>
 ifP (r9.2 = (dw r3.2)) <|
 (ld P 3 r9.1 (dw r3.2)).bind fun r10 =>
 ifP (r10.2 = (dw r3.2)) <|
 (fa P 40 r2.1 1 (dw r3.2)).bind fun r11 =>
 ifP (r11.2 = (dw r3.2)) <|
 (ld P 3 r11.1 (dw r3.2)).bind fun r12 =>
 ifP (r12.2 = (dw r3.2)) <|
 (EV P 142 #[r6.1, r8.1] (dw r3.2)).bind fun r13 =>
 ifP (ld P 3 r11.1 r13.2 = some (r12.1, r13.2) ∧ fa P 40 r2.1 1 r13.2 = some (r11.1, r13.2) ∧ ld P 3 r9.1 r13.2 = some (r10.1, r13.2) ∧ fa P 40 r1.1 1 r13.2 = some (r9.1, r13.2) ∧ True ∧ True ∧ True ∧ True ∧ True) <|
 (EV P 142 #[r10.1, r12.1] r13.2).bind fun r14 =>
 ifP (True ∧ True ∧ True ∧ True ∧ True ∧ True ∧ True ∧ True ∧ True) <|
 (bs P 72 2 #[(0, r13.1), (1, r14.1)] r14.2).bind fun r15 =>
 ifP (True ∧ True ∧ True ∧ True ∧ True ∧ True ∧ True ∧ True ∧ True) <|
 (EV P 141 #[r15.1] r15.2).bind fun r16 =>
 ifP (True ∧ True ∧ True ∧ True ∧ True ∧ True ∧ True ∧ True ∧ True) <|
 (vl r16.1 r16.2).bind fun r17 =>
 ifP (r17.2 = r16.2) <|
 some (r17.1, r16.2) := by kernel_rfl
theorem slices_Clip_Tag_fn (x0 : Value) (w : World) : fnC P (EV P) 124 #[x0] w =
 (vl (Go.Value.slice none 0 0) w).bind fun r1 =>
 (vl x0 r1.2).bind fun r2 =>
 (vl x0 r2.2).bind fun r3 =>
 (b_len P #[41] 3 #[r3.1] r3.2).bind fun r4 =>
 (vl x0 r4.2).bind fun r5 =>
 (b_len P #[41] 3 #[r5.1] r5.2).bind fun r6 =>
 (sl P 41 r2.1 none (some r4.1) (some r6.1) r6.2).bind fun r7 =>
 (vl r7.1 r7.2).bind fun r8 =>
 some (r8.1, r8.2) := by kernel_rfl
theorem slices_Clone_Tag_fn (x0 : Value) (w : World) : fnC P (EV P) 125 #[x0] w =
 (vl (Go.Value.slice none 0 0) w).bind fun r1 =>
 (vl x0 r1.2).bind fun r2 =>
 (bo P .eql 41 (.tmp 3) (.const (Go.Value.slice none 0 0)) r2.1 (Go.Value.slice none 0 0) r2.2).bind fun r3 =>
 cnd r3.1 (
 (vl (Go.Value.slice none 0 0) r3.2).bind fun r4 =>
 some (r4.1, r4.2)) (
 (bs P 41 0 #[] r3.2).bind fun r5 =>
 (vl x0 r5.2).bind fun r6 =>
 (b_append P #[41, 41] 41 #[r5.1, r6.1] r6.2).bind fun r7 =>
 (vl r7.1 r7.2).bind fun r8 =>
 some (r8.1, r8.2)) := by kernel_rfl
noncomputable def slices_IndexFunc_Tag_l1 (e : Env) (w : World) : Option (Value × World) := exC P (EV P) 126 19 (.loop (cA (cA (cB (cA (cB (bodyOf P 126))))))) e w (kBlock 0 (kSeq P (EV P) 126 19 (cB (cB (bodyOf P 126))) (kFn P (fnOf P 126))))
theorem slices_IndexFunc_Tag_l1_eq (e : Env) (w : World) : slices_IndexFunc_Tag_l1 e w =
 (bo P .lss 3 (.tmp 8) (.tmp 7) (e 8) (e 7) w).bind fun r1 =>
 cnd r1.1 (
 (vl (e 8) r1.2).bind fun r2 =>
 (vl r2.1 r2.2).bind fun r3 =>
 (vl (e 1) r3.2).bind fun r4 =>
 (vl (e 0) r4.2).bind fun r5 =>
 (vl r3.1 r5.2).bind fun r6 =>
 (ia P 41 r5.1 r6.1 r6.2).bind fun r7 =>
 (ld P 40 r7.1 r7.2).bind fun r8 =>
 (clo P r4.1 #[r8.1] r8.2).bind fun r9 =>
 cnd r9.1 (
 (vl r3.1 r9.2).bind fun r10 =>
 (vl r10.1 r10.2).bind fun r11 =>
 some (r11.1, r11.2)) (
 (bo P .add 3 (.tmp 8) (.const (.int .i64 1)) (e 8) (.int .i64 1) r9.2).bind fun r12 =>
 (vl r12.1 r12.2).bind fun r13 =>
 slices_IndexFunc_Tag_l1 (ups e [(9, r1.1), (10, r2.1), (5, r3.1), (11, r4.1), (12, r5.1), (13, r6.1), (14, r7.1), (15, r8.1), (16, r9.1), (18, r12.1), (8, r13.1)]) r13.2)) (
 (vl (.int .i64 (-1)) r1.2).bind fun r14 =>
 some (r14.1, r14.2)) := (exC_loop P (EV P) 126 19 (cA (cA (cB (cA (cB (bodyOf P 126)))))) e w (kBlock 0 (kSeq P (EV P) 126 19 (cB (cB (bodyOf P 126))) (kFn P (fnOf P 126))))).trans (by kernel_rfl)
theorem slices_IndexFunc_Tag_fn (x0 x1 : Value) (w : World) : fnC P (EV P) 126 #[x0, x1] w =
 (vl (.int .i64 0) w).bind fun r1 =>
 (vl x0 r1.2).bind fun r2 =>
 (b_len P #[41] 3 #[r2.1] r2.2).bind fun r3 =>
 (vl (.int .i64 0) r3.2).bind fun r4 =>
 slices_IndexFunc_Tag_l1 (ups (env0 #[x0, x1]) [(4, r1.1), (6, r2.1), (7, r3.1), (8, r4.1)]) r4.2 := by kernel_rfl
theorem laws_szStore_fn (x0 x1 : Value) (w : World) : fnC P (EV P) 127 #[x0, x1] w =
 (bx P 119 x0 w).bind fun r1 =>
 (vl (.int .i64 0) r1.2).bind fun r2 =>
 (fa P 119 r1.1 0 r2.2).bind fun r3 =>
 (ld P 117 r3.1 r3.2).bind fun r4 =>
 (vl x1 r4.2).bind fun r5 =>
 (EV P 128 #[r4.1, r5.1] r5.2).bind fun r6 =>
 (vl r6.1 r6.2).bind fun r7 =>
 (vl r7.1 r7.2).bind fun r8 =>
 (bo P .lss 3 (.tmp 9) (.const (.int .i64 0)) r8.1 (.int .i64 0) r8.2).bind fun r9 =>
 cnd r9.1 (
 (vl (.int .i64 (-1)) r9.2).bind fun r10 =>
 some (r10.1, r10.2)) (
 (vl r7.1 r9.2).bind fun r11 =>
 (vl r11.1 r11.2).bind fun r12 =>
 some (r12.1, r12.2)) := by kernel_rfl
noncomputable def laws_szVerS_l1 (e : Env) (w : World) : Option (Value × World) := exC P (EV P) 128 27 (.loop (cA (cA (cB (cA (cB (cB (cB (bodyOf P 128))))))))) e w (kBlock 0 (kSeq P (EV P) 128 27 (cB (cB (cB (cB (bodyOf P 128))))) (kFn P (fnOf P 128))))
theorem laws_szVerS_l1_eq (e : Env) (w : World) : laws_szVerS_l1 e w =
 (vl (e 5) w).bind fun r1 =>
 (vl (e 0) r1.2).bind fun r2 =>
 (b_len P #[117] 3 #[r2.1] r2.2).bind fun r3 =>
 (bo P .lss 3 (.tmp 12) (.tmp 14) r1.1 r3.1 r3.2).bind fun r4 =>
 cnd r4.1 (
 (vl (e 0) r4.2).bind fun r5 =>
 (vl (e 5) r5.2).bind fun r6 =>
 (ia P 117 r5.1 r6.1 r6.2).bind fun r7 =>
 (ld P 57 r7.1 r7.2).bind fun r8 =>
 (vl (e 1) r8.2).bind fun r9 =>
 (EV P 16 #[r8.1, r9.1] r9.2).bind fun r10 =>
 (vl r10.1 r10.2).bind fun r11 =>
 (vl r11.1 r11.2).bind fun r12 =>
 (bo P .lss 3 (.tmp 24) (.const (.int .i64 0)) r12.1 (.int .i64 0) r12.2).bind fun r13 =>
 cnd r13.1 (
 (vl (.int .i64 (-1)) r13.2).bind fun r14 =>
 some (r14.1, r14.2)) (
 (vl (e 5) r13.2).bind fun r15 =>
 (bo P .add 3 (.tmp 16) (.const (.int .i64 1)) r15.1 (.int .i64 1) r15.2).bind fun r16 =>
 (vl r16.1 r16.2).bind fun r17 =>
 laws_szVerS_l1 (ups e [(12, r1.1), (13, r2.1), (14, r3.1), (15, r4.1), (18, r5.1), (19, r6.1), (20, r7.1), (21, r8.1), (22, r9.1), (23, r10.1), (1, r11.1), (24, r12.1), (25, r13.1), (16, r15.1), (17, r16.1), (5, r17.1)]) r17.2)) (
 (vl (e 1) r4.2).bind fun r18 =>
 (vl r18.1 r18.2).bind fun r19 =>
 some (r19.1, r19.2)) := (exC_loop P (EV P) 128 27 (cA (cA (cB (cA (cB (cB (cB (bodyOf P 128)))))))) e w (kBlock 0 (kSeq P (EV P) 128 27 (cB (cB (cB (cB (bodyOf P 128))))) (kFn P (fnOf P 128))))).trans (by kernel_rfl)
theorem laws_szVerS_fn (x0 x1 : Value) (w : World) : fnC P (EV P) 128 #[x0, x1] w =
 (vl (.int .i64 0) w).bind fun r1 =>
 (vl x1 r1.2).bind fun r2 =>
 (vl x0 r2.2).bind fun r3 =>
 (b_len P #[117] 3 #[r3.1] r3.2).bind fun r4 =>
 (bo P .sub 3 (.tmp 6) (.tmp 8) r2.1 r4.1 r4.2).bind fun r5 =>
 (vl r5.1 r5.2).bind fun r6 =>
 (vl r6.1 r6.2).bind fun r7 =>
 (bo P .lss 3 (.tmp 10) (.const (.int .i64 0)) r7.1 (.int .i64 0) r7.2).bind fun r8 =>
 cnd r8.1 (
 (vl (.int .i64 (-1)) r8.2).bind fun r9 =>
 some (r9.1, r9.2)) (
 (vl (.int .i64 0) r8.2).bind fun r10 =>
 laws_szVerS_l1 (ups (env0 #[x0, x1]) [(4, r1.1), (6, r2.1), (7, r3.1), (8, r4.1), (9, r5.1), (1, r6.1), (10, r7.1), (11, r8.1), (5, r10.1)]) r10.2) := by kernel_rfl
theorem laws_toStore_fn (x0 : Value) (w : World) : fnC P (EV P) 129 #[x0] w =
 (bx P 119 x0 w).bind fun r1 =>
 (al P 34 r1.2).bind fun r2 =>
 (al P 34 r2.2).bind fun r3 =>
 (fa P 119 r1.1 0 r3.2).bind fun r4 =>
 (ld P 117 r4.1 r4.2).bind fun r5 =>
 (EV P 130 #[r5.1] r5.2).bind fun r6 =>
 (fa P 34 r3.1 0 r6.2).bind fun r7 =>
 (st P 32 r7.1 r6.1 r7.2).bind fun r8 =>
 (ld P 34 r3.1 r8.2).bind fun r9 =>
 (st P 34 r2.1 r9.1 r9.2).bind fun r10 =>
 ((ld P 34 r2.1 r10.2).bind fun r11 => ifP (r11.2 = r10.2) (some r11.1)).bind fun v12 =>
 some (v12, r10.2) := by kernel_rfl
noncomputable def laws_toVerS_l1 (e : Env) (w : World) : Option (Value × World) := exC P (EV P) 130 23 (.loop (cA (cA (cB (cA (cB (cB (bodyOf P 130)))))))) e w (kBlock 0 (kSeq P (EV P) 130 23 (cB (cB (cB (bodyOf P 130)))) (kFn P (fnOf P 130))))
theorem laws_toVerS_l1_eq (e : Env) (w : World) : laws_toVerS_l1 e w =
 (vl (e 4) w).bind fun r1 =>
 (vl (e 0) r1.2).bind fun r2 =>
 (b_len P #[117] 3 #[r2.1] r2.2).bind fun r3 =>
 (bo P .lss 3 (.tmp 8) (.tmp 10) r1.1 r3.1 r3.2).bind fun r4 =>
 cnd r4.1 (
 (vl (e 3) r4.2).bind fun r5 =>
 (vl (e 4) r5.2).bind fun r6 =>
 (vl (e 0) r6.2).bind fun r7 =>
 (vl (e 4) r7.2).bind fun r8 =>
 (ia P 117 r7.1 r8.1 r8.2).bind fun r9 =>
 (ld P 57 r9.1 r9.2).bind fun r10 =>
 (EV P 19 #[r10.1] r10.2).bind fun r11 =>
 (ia P 32 r5.1 r6.1 r11.2).bind fun r12 =>
 (st P 45 r12.1 r11.1 r12.2).bind fun r13 =>
 (vl (e 4) r13.2).bind fun r14 =>
 (bo P .add 3 (.tmp 12) (.const (.int .i64 1)) r14.1 (.int .i64 1) r14.2).bind fun r15 =>
 (vl r15.1 r15.2).bind fun r16 =>
 laws_toVerS_l1 (ups e [(8, r1.1), (9, r2.1), (10, r3.1), (11, r4.1), (14, r5.1), (15, r6.1), (16, r7.1), (17, r8.1), (18, r9.1), (19, r10.1), (20, r11.1), (21, r12.1), (12, r14.1), (13, r15.1), (4, r16.1)]) r16.2) (
 (vl (e 3) r4.2).bind fun r17 =>
 (vl r17.1 r17.2).bind fun r18 =>
 some (r18.1, r18.2)) := (exC_loop P (EV P) 130 23 (cA (cA (cB (cA (cB (cB (bodyOf P 130))))))) e w (kBlock 0 (kSeq P (EV P) 130 23 (cB (cB (cB (bodyOf P 130)))) (kFn P (fnOf P 130))))).trans (by kernel_rfl)
theorem laws_toVerS_fn (x0 : Value) (w : World) : fnC P (EV P) 130 #[x0] w =
 (vl (Go.Value.slice none 0 0) w).bind fun r1 =>
 (vl x0 r1.2).bind fun r2 =>
 (b_len P #[117] 3 #[r2.1] r2.2).bind fun r3 =>
 (ms P 32 r3.1 r3.1 r3.2).bind fun r4 =>
 (vl r4.1 r4.2).bind fun r5 =>
 (vl (.int .i64 0) r5.2).bind fun r6 =>
 laws_toVerS_l1 (ups (env0 #[x0]) [(2, r1.1), (5, r2.1), (6, r3.1), (7, r4.1), (3, r5.1), (4, r6.1)]) r6.2 := by kernel_rfl
theorem laws_eqStore_fn (x0 x1 : Value) (w : World) : fnC P (EV P) 131 #[x0, x1] w =
 (bx P 34 x0 w).bind fun r1 =>
 (bx P 34 x1 r1.2).bind fun r2 =>
 (vl (.bool false) r2.2).bind fun r3 =>
 (fa P 34 r1.1 0 r3.2).bind fun r4 =>
 (ld P 32 r4.1 r4.2).bind fun r5 =>
 (fa P 34 r2.1 0 r5.2).bind fun r6 =>
 (ld P 32 r6.1 r6.2).bind fun r7 =>
 (EV P 132 #[r5.1, r7.1] r7.2).bind fun r8 =>
 (uo P .not r8.1 r8.2).bind fun r9 =>
 cnd r9.1 (
 (vl (.bool false) r9.2).bind fun r10 =>
 some (r10.1, r10.2)) (
 (vl (.bool true) r9.2).bind fun r11 =>
 some (r11.1, r11.2)) := by kernel_rfl
noncomputable def laws_eqVerS_l1 (e : Env) (w : World) : Option (Value × World) := exC P (EV P) 132 27 (.loop (cA (cA (cB (cA (cB (cB (bodyOf P 132)))))))) e w (kBlock 0 (kSeq P (EV P) 132 27 (cB (cB (cB (bodyOf P 132)))) (kFn P (fnOf P 132))))
theorem laws_eqVerS_l1_eq (e : Env) (w : World) : laws_eqVerS_l1 e w =
 (vl (e 5) w).bind fun r1 =>
 (vl (e 0) r1.2).bind fun r2 =>
 (b_len P #[32] 3 #[r2.1] r2.2).bind fun r3 =>
 (bo P .lss 3 (.tmp 11) (.tmp 13) r1.1 r3.1 r3.2).bind fun r4 =>
 cnd r4.1 (
 (vl (e 0) (dw r4.2)).bind fun r6 =>
 ifP (r6.2 = (dw r4.2)) <|
 (vl (e 5) (dw r4.2)).bind fun r7 =>
 ifP (r7.2 = (dw r4.2)) <|
 (ia P 32 r6.1 r7.1 (dw r4.2)).bind fun r8 =>
 ifP (r8.2 = (dw r4.2)) <|
 (ld P 45 r8.1 (dw r4.2)).bind fun r9 =>
 ifP (r9.2 = (dw r4.2)) <|
 (vl (e 1) (dw r4.2)).bind fun r10 =>
 ifP (r10.2 = (dw r4.2)) <|
 (vl (e 5) (dw r4.2)).bind fun r11 =>
 ifP (r11.2 = (dw r4.2)) <|
 (ia P 32 r10.1 r11.1 (dw r4.2)).bind fun r12 =>
 ifP (r12.2 = (dw r4.2)) <|
 (ld P 45 r12.1 (dw r4.2)).bind fun r13 =>
 ifP (r13.2 = (dw r4.2)) <|
 (EV P 22 #[r9.1, r13.1] (dw r4.2)).bind fun r14 =>
 ifP (True ∧ True ∧ True ∧ True ∧ True) <|
 (uo P .not r14.1 r14.2).bind fun r15 =>
 ifP (r15.2 = r14.2) <|
 cnd r15.1 (
 (vl (.bool false) r14.2).bind fun r16 =>
 some (r16.1, r16.2)) (
 (vl (e 5) r14.2).bind fun r17 =>
 (bo P .add 3 (.tmp 15) (.const (.int .i64 1)) r17.1 (.int .i64 1) r17.2).bind fun r18 =>
 (vl r18.1 r18.2).bind fun r19 =>
 laws_eqVerS_l1 (ups e [(11, r1.1), (12, r2.1), (13, r3.1), (14, r4.1), (17, r6.1), (18, r7.1), (19, r8.1), (20, r9.1), (21, r10.1), (22, r11.1), (23, r12.1), (24, r13.1), (25, r14.1), (26, r15.1), (15, r17.1), (16, r18.1), (5, r19.1)]) r19.2)) (
 (vl (.bool true) r4.2).bind fun r20 =>
 some (r20.1, r20.2)) := (exC_loop P (EV P) 132 27 (cA (cA (cB (cA (cB (cB (bodyOf P 132))))))) e w (kBlock 0 (kSeq P (EV P) 132 27 (cB (cB (cB (bodyOf P 132)))) (kFn P (fnOf P 132))))).trans (by kernel_rfl)
theorem laws_eqVerS_fn (x0 x1 : Value) (w : World) : fnC P (EV P) 132 #[x0, x1] w =
 (vl (.bool false) w).bind fun r1 =>
 (vl x0 r1.2).bind fun r2 =>
 (b_len P #[32] 3 #[r2.1] r2.2).bind fun r3 =>
 (vl x1 r3.2).bind fun r4 =>
 (b_len P #[32] 3 #[r4.1] r4.2).bind fun r5 =>
 (bo P .neq 3 (.tmp 7) (.tmp 9) r3.1 r5.1 r5.2).bind fun r6 =>
 cnd r6.1 (
 (vl (.bool false) r6.2).bind fun r7 =>
 some (r7.1, r7.2)) (
 (vl (.int .i64 0) r6.2).bind fun r8 =>
 laws_eqVerS_l1 (ups (env0 #[x0, x1]) [(4, r1.1), (6, r2.1), (7, r3.1), (8, r4.1), (9, r5.1), (10, r6.1), (5, r8.1)]) r8.2) := by kernel_rfl
noncomputable def laws_markText_l1 (e : Env) (w : World) : Option (Value × World) := exC P (EV P) 133 20 (.loop (cA (cA (cA (cB (cB (cB (bodyOf P 133)))))))) e w (kBlock 0 (kSeq P (EV P) 133 20 (cB (cB (cB (cB (bodyOf P 133))))) (kFn P (fnOf P 133))))
theorem laws_markText_l1_eq (e : Env) (w : World) : laws_markText_l1 e w =
 (vl (e 0) w).bind fun r1 =>
 (bo P .gtr 3 (.tmp 6) (.const (.int .i64 0)) r1.1 (.int .i64 0) r1.2).bind fun r2 =>
 cnd r2.1 (
 (vl (e 0) r2.2).bind fun r3 =>
 (bo P .rem 3 (.tmp 8) (.const (.int .i64 10)) r3.1 (.int .i64 10) r3.2).bind fun r4 =>
 (bo P .add 3 (.const (.int .i64 48)) (.tmp 9) (.int .i64 48) r4.1 r4.2).bind fun r5 =>
 (cv P 3 5 r5.1 r5.2).bind fun r6 =>
 (bs P 22 1 #[(0, r6.1)] r6.2).bind fun r7 =>
 (cv P 22 9 r7.1 r7.2).bind fun r8 =>
 (vl (e 3) r8.2).bind fun r9 =>
 (bo P .add 9 (.tmp 13) (.tmp 14) r8.1 r9.1 r9.2).bind fun r10 =>
 (vl r10.1 r10.2).bind fun r11 =>
 (vl (e 0) r11.2).bind fun r12 =>
 (bo P .quo 3 (.tmp 16) (.const (.int .i64 10)) r12.1 (.int .i64 10) r12.2).bind fun r13 =>
 (vl r13.1 r13.2).bind fun r14 =>
 laws_markText_l1 (ups e [(6, r1.1), (7, r2.1), (8, r3.1), (9, r4.1), (10, r5.1), (11, r6.1), (12, r7.1), (13, r8.1), (14, r9.1), (15, r10.1), (3, r11.1), (16, r12.1), (17, r13.1), (0, r14.1)]) r14.2) (
 (vl (e 3) r2.2).bind fun r15 =>
 (bo P .add 9 (.const (Go.Value.string { data := #[109] })) (.tmp 18) (Go.Value.string { data := #[109] }) r15.1 r15.2).bind fun r16 =>
 (vl r16.1 r16.2).bind fun r17 =>
 some (r17.1, r17.2)) := (exC_loop P (EV P) 133 20 (cA (cA (cA (cB (cB (cB (bodyOf P 133))))))) e w (kBlock 0 (kSeq P (EV P) 133 20 (cB (cB (cB (cB (bodyOf P 133))))) (kFn P (fnOf P 133))))).trans (by kernel_rfl)
theorem laws_markText_fn (x0 : Value) (w : World) : fnC P (EV P) 133 #[x0] w =
 (vl (Go.Value.string { data := #[] }) w).bind fun r1 =>
 (vl x0 r1.2).bind fun r2 =>
 (bo P .leq 3 (.tmp 4) (.const (.int .i64 0)) r2.1 (.int .i64 0) r2.2).bind fun r3 =>
 cnd r3.1 (
 (vl (Go.Value.string { data := #[109, 48] }) r3.2).bind fun r4 =>
 some (r4.1, r4.2)) (
 (vl (Go.Value.string { data := #[] }) r3.2).bind fun r5 =>
 laws_markText_l1 (ups (env0 #[x0]) [(2, r1.1), (4, r2.1), (5, r3.1), (3, r5.1)]) r5.2) := by kernel_rfl
noncomputable def laws_heldTagS_l1 (e : Env) (w : World) : Option (Value × World) := exC P (EV P) 134 31 (.loop (cA (cA (cB (cA (cB (bodyOf P 134))))))) e w (kBlock 0 (kSeq P (EV P) 134 31 (cB (cB (bodyOf P 134))) (kFn P (fnOf P 134))))
theorem laws_heldTagS_l1_eq (e : Env) (w : World) : laws_heldTagS_l1 e w =
 (vl (e 5) w).bind fun r1 =>
 (vl (e 0) r1.2).bind fun r2 =>
 (b_len P #[41] 3 #[r2.1] r2.2).bind fun r3 =>
 (bo P .lss 3 (.tmp 6) (.tmp 8) r1.1 r3.1 r3.2).bind fun r4 =>
 cnd r4.1 (
 (vl (e 0) r4.2).bind fun r5 =>
 (vl (e 5) r5.2).bind fun r6 =>
 (ia P 41 r5.1 r6.1 r6.2).bind fun r7 =>
 (fa P 40 r7.1 0 r7.2).bind fun r8 =>
 (ld P 3 r8.1 r8.2).bind fun r9 =>
 (vl (e 1) r9.2).bind fun r10 =>
 (bo P .neq 3 (.tmp 16) (.tmp 17) r9.1 r10.1 r10.2).bind fun r11 =>
 cnd r11.1 (
 (vl (.int .i64 (-1)) r11.2).bind fun r12 =>
 some (r12.1, r12.2)) (
 (vl (e 1) r11.2).bind fun r13 =>
 (bo P .add 3 (.tmp 19) (.const (.int .i64 1)) r13.1 (.int .i64 1) r13.2).bind fun r14 =>
 (vl r14.1 r14.2).bind fun r15 =>
 (vl (e 0) r15.2).bind fun r16 =>
 (vl (e 5) r16.2).bind fun r17 =>
 (ia P 41 r16.1 r17.1 r17.2).bind fun r18 =>
 (fa P 40 r18.1 1 r18.2).bind fun r19 =>
 (ld P 3 r19.1 r19.2).bind fun r20 =>
 (vl r15.1 r20.2).bind fun r21 =>
 (bo P .neq 3 (.tmp 25) (.tmp 26) r20.1 r21.1 r21.2).bind fun r22 =>
 cnd r22.1 (
 (vl (.int .i64 (-1)) r22.2).bind fun r23 =>
 some (r23.1, r23.2)) (
 (vl r15.1 r22.2).bind fun r24 =>
 (bo P .add 3 (.tmp 28) (.const (.int .i64 1)) r24.1 (.int .i64 1) r24.2).bind fun r25 =>
 (vl r25.1 r25.2).bind fun r26 =>
 (vl (e 5) r26.2).bind fun r27 =>
 (bo P .add 3 (.tmp 10) (.const (.int .i64 1)) r27.1 (.int .i64 1) r27.2).bind fun r28 =>
 (vl r28.1 r28.2).bind fun r29 =>
 laws_heldTagS_l1 (ups e [(6, r1.1), (7, r2.1), (8, r3.1), (9, r4.1), (12, r5.1), (13, r6.1), (14, r7.1), (15, r8.1), (16, r9.1), (17, r10.1), (18, r11.1), (19, r13.1), (20, r14.1), (1, r15.1), (21, r16.1), (22, r17.1), (23, r18.1), (24, r19.1), (25, r20.1), (26, r21.1), (27, r22.1), (28, r24.1), (29, r25.1), (1, r26.1), (10, r27.1), (11, r28.1), (5, r29.1)]) r29.2))) (
 (vl (e 1) r4.2).bind fun r30 =>
 (vl r30.1 r30.2).bind fun r31 =>
 some (r31.1, r31.2)) := (exC_loop P (EV P) 134 31 (cA (cA (cB (cA (cB (bodyOf P 134)))))) e w (kBlock 0 (kSeq P (EV P) 134 31 (cB (cB (bodyOf P 134))) (kFn P (fnOf P 134))))).trans (by kernel_rfl)
theorem laws_heldTagS_fn (x0 x1 : Value) (w : World) : fnC P (EV P) 134 #[x0, x1] w =
 (vl (.int .i64 0) w).bind fun r1 =>
 (vl (.int .i64 0) r1.2).bind fun r2 =>
 laws_heldTagS_l1 (ups (env0 #[x0, x1]) [(4, r1.1), (5, r2.1)]) r2.2 := by kernel_rfl
theorem spec_l2Same_fn (x0 x1 : Value) (w : World) : fnC P (EV P) 140 #[x0, x1] w =
 (bx P 45 x0 w).bind fun r1 =>
 (bx P 45 x1 r1.2).bind fun r2 =>
 (vl (.bool false) r2.2).bind fun r3 =>
 (ld P 45 r1.1 (dw r3.2)).bind fun r5 =>
 ifP (r5.2 = (dw r3.2)) <|
 (ld P 45 r2.1 (dw r3.2)).bind fun r6 =>
 ifP (r6.2 = (dw r3.2)) <|
 (EV P 143 #[r5.1] (dw r3.2)).bind fun r7 =>
 ifP (ld P 45 r2.1 r7.2 = some (r6.1, r7.2) ∧ True ∧ True) <|
 (EV P 143 #[r6.1] r7.2).bind fun r8 =>
 ifP (True ∧ True ∧ True) <|
 (bo P .eql 9 (.tmp 6) (.tmp 8) r7.1 r8.1 r8.2).bind fun r9 =>
 ifP (r9.2 = r8.2) <|
 (vl r9.1 r8.2).bind fun r10 =>
 ifP (r10.2 = r8.2) <|
 some (r10.1, r8.2) := by kernel_rfl
noncomputable def cmp_Or_int_l1 (e : Env) (w : World) : Option (Value × World) := exC P (EV P) 141 18 (.loop (cA (cA (cB (cA (cB (cB (bodyOf P 141)))))))) e w (kBlock 0 (kSeq P (EV P) 141 18 (cB (cB (cB (bodyOf P 141)))) (kFn P (fnOf P 141))))
theorem cmp_Or_int_l1_eq (e : Env) (w : World) : cmp_Or_int_l1 e w =
 (bo P .lss 3 (.tmp 8) (.tmp 7) (e 8) (e 7) w).bind fun r1 =>
 cnd r1.1 (
 (ia P 72 (e 6) (e 8) r1.2).bind fun r2 =>
 (ld P 3 r2.1 r2.2).bind fun r3 =>
 (vl r3.1 r3.2).bind fun r4 =>
 (vl r4.1 r4.2).bind fun r5 =>
 (vl (e 3) r5.2).bind fun r6 =>
 (bo P .neq 3 (.tmp 12) (.tmp 13) r5.1 r6.1 r6.2).bind fun r7 =>
 cnd r7.1 (
 (vl r4.1 r7.2).bind fun r8 =>
 (vl r8.1 r8.2).bind fun r9 =>
 some (r9.1, r9.2)) (
 (bo P .add 3 (.tmp 8) (.const (.int .i64 1)) (e 8) (.int .i64 1) r7.2).bind fun r10 =>
 (vl r10.1 r10.2).bind fun r11 =>
 cmp_Or_int_l1 (ups e [(9, r1.1), (10, r2.1), (11, r3.1), (5, r4.1), (12, r5.1), (13, r6.1), (14, r7.1), (16, r10.1), (8, r11.1)]) r11.2)) (
 (vl (e 3) r1.2).bind fun r12 =>
 (vl r12.1 r12.2).bind fun r13 =>
 some (r13.1, r13.2)) := (exC_loop P (EV P) 141 18 (cA (cA (cB (cA (cB (cB (bodyOf P 141))))))) e w (kBlock 0 (kSeq P (EV P) 141 18 (cB (cB (cB (bodyOf P 141)))) (kFn P (fnOf P 141))))).trans (by kernel_rfl)
theorem cmp_Or_int_fn (x0 : Value) (w : World) : fnC P (EV P) 141 #[x0] w =
 (vl (.int .i64 0) w).bind fun r1 =>
 (vl (.int .i64 0) r1.2).bind fun r2 =>
 (vl x0 r2.2).bind fun r3 =>
 (b_len P #[72] 3 #[r3.1] r3.2).bind fun r4 =>
 (vl (.int .i64 0) r4.2).bind fun r5 =>
 cmp_Or_int_l1 (ups (env0 #[x0]) [(2, r1.1), (3, r2.1), (6, r3.1), (7, r4.1), (8, r5.1)]) r5.2 := by kernel_rfl
theorem cmp_Compare_int_fn (x0 x1 : Value) (w : World) : fnC P (EV P) 142 #[x0, x1] w =
 (vl (.int .i64 0) w).bind fun r1 =>
 (vl x0 r1.2).bind fun r2 =>
 (EV P 144 #[r2.1] r2.2).bind fun r3 =>
 (vl r3.1 r3.2).bind fun r4 =>
 (vl x1 r4.2).bind fun r5 =>
 (EV P 144 #[r5.1] r5.2).bind fun r6 =>
 (vl r6.1 r6.2).bind fun r7 =>
 (vl r4.1 r7.2).bind fun r8 =>
 cnd r8.1 (
 (vl r7.1 r8.2).bind fun r9 =>
 cnd r9.1 (
 (vl (.int .i64 0) r9.2).bind fun r10 =>
 some (r10.1, r10.2)) (
 (vl (.int .i64 (-1)) r9.2).bind fun r11 =>
 some (r11.1, r11.2))) (
 (vl r7.1 r8.2).bind fun r12 =>
 cnd r12.1 (
 (vl (.int .i64 1) r12.2).bind fun r13 =>
 some (r13.1, r13.2)) (
 (vl x0 r12.2).bind fun r14 =>
 (vl x1 r14.2).bind fun r15 =>
 (bo P .lss 3 (.tmp 14) (.tmp 15) r14.1 r15.1 r15.2).bind fun r16 =>
 cnd r16.1 (
 (vl (.int .i64 (-1)) r16.2).bind fun r17 =>
 some (r17.1, r17.2)) (
 (vl x0 r16.2).bind fun r18 =>
 (vl x1 r18.2).bind fun r19 =>
 (bo P .gtr 3 (.tmp 17) (.tmp 18) r18.1 r19.1 r19.2).bind fun r20 =>
 cnd r20.1 (
 (vl (.int .i64 1) r20.2).bind fun r21 =>
 some (r21.1, r21.2)) (
 (vl (.int .i64 0) r20.2).bind fun r22 =>
 some (r22.1, r22.2))))) := by kernel_rfl
noncomputable def spec_l2Put_j1 (e : Env) (w : World) : Option (Value × World) := exC P (EV P) 143 24 (cB (cB (cB (bodyOf P 143)))) e w (kFn P (fnOf P 143))
theorem spec_l2Put_j1_eq (e : Env) (w : World) : spec_l2Put_j1 e w =
 (fa P 45 (e 1) 0 (dw w)).bind fun r2 =>
 ifP (r2.2 = (dw w)) <|
 (ld P 3 r2.1 (dw w)).bind fun r3 =>
 ifP (r3.2 = (dw w)) <|
 (fa P 45 (e 1) 1 (dw w)).bind fun r4 =>
 ifP (r4.2 = (dw w)) <|
 (ld P 40 r4.1 (dw w)).bind fun r5 =>
 ifP (r5.2 = (dw w)) <|
 (fa P 45 (e 1) 2 (dw w)).bind fun r6 =>
 ifP (r6.2 = (dw w)) <|
 (ld P 43 r6.1 (dw w)).bind fun r7 =>
 ifP (r7.2 = (dw w)) <|
 (vl (e 3) (dw w)).bind fun r8 =>
 ifP (r8.2 = (dw w)) <|
 (EV P 145 #[r3.1] (dw w)).bind fun r9 =>
 ifP (ld P 43 r6.1 r9.2 = some (r7.1, r9.2) ∧ fa P 45 (e 1) 2 r9.2 = some (r6.1, r9.2) ∧ ld P 40 r4.1 r9.2 = some (r5.1, r9.2) ∧ fa P 45 (e 1) 1 r9.2 = some (r4.1, r9.2) ∧ True ∧ True ∧ True) <|
 (bo P .add 9 (.tmp 11) (.const (Go.Value.string { data := #[32] })) r9.1 (Go.Value.string { data := #[32] }) r9.2).bind fun r10 =>
 ifP (r10.2 = r9.2) <|
 (EV P 146 #[r5.1] r9.2).bind fun r11 =>
 ifP (bo P .add 9 (.tmp 11) (.const (Go.Value.string { data := #[32] })) r9.1 (Go.Value.string { data := #[32] }) r11.2 = some (r10.1, r11.2) ∧ ld P 43 r6.1 r11.2 = some (r7.1, r11.2) ∧ fa P 45 (e 1) 2 r11.2 = some (r6.1, r11.2) ∧ True ∧ True ∧ True ∧ True ∧ True) <|
 (bo P .add 9 (.tmp 12) (.tmp 15) r10.1 r11.1 r11.2).bind fun r12 =>
 ifP (r12.2 = r11.2) <|
 (EV P 147 #[r7.1] r11.2).bind fun r13 =>
 ifP (bo P .add 9 (.tmp 12) (.tmp 15) r10.1 r11.1 r13.2 = some (r12.1, r13.2) ∧ bo P .add 9 (.tmp 11) (.const (Go.Value.string { data := #[32] })) r9.1 (Go.Value.string { data := #[32] }) r13.2 = some (r10.1, r13.2) ∧ True ∧ True ∧ True ∧ True ∧ True ∧ True ∧ True) <|
 (bo P .add 9 (.tmp 16) (.tmp 19) r12.1 r13.1 r13.2).bind fun r14 =>
 ifP (r14.2 = r13.2) <|
 (bo P .add 9 (.tmp 20) (.const (Go.Value.string { data := #[32] })) r14.1 (Go.Value.string { data := #[32] }) r13.2).bind fun r15 =>
 ifP (r15.2 = r13.2) <|
 (bo P .add 9 (.tmp 21) (.tmp 22) r15.1 r8.1 r13.2).bind fun r16 =>
 ifP (r16.2 = r13.2) <|
 (vl r16.1 r13.2).bind fun r17 =>
 ifP (r17.2 = r13.2) <|
 some (r17.1, r13.2) := by kernel_rfl
theorem spec_l2Put_fn (x0 : Value) (w : World) : fnC P (EV P) 143 #[x0] w =
 (bx P 45 x0 w).bind fun r1 =>
 (vl (Go.Value.string { data := #[] }) r1.2).bind fun r2 =>
 (fa P 45 r1.1 3 r2.2).bind fun r3 =>
 (ld P 9 r3.1 r3.2).bind fun r4 =>
 (bo P .add 9 (.const (Go.Value.string { data := #[61] })) (.tmp 5) (Go.Value.string { data := #[61] }) r4.1 r4.2).bind fun r5 =>
 (vl r5.1 r5.2).bind fun r6 =>
 (fa P 45 r1.1 4 r6.2).bind fun r7 =>
 (ld P 4 r7.1 r7.2).bind fun r8 =>
 cnd r8.1 (
 (vl (Go.Value.string { data := #[45] }) r8.2).bind fun r9 =>
 spec_l2Put_j1 (ups (env0 #[x0]) [(1, r1.1), (2, r2.1), (4, r3.1), (5, r4.1), (6, r5.1), (3, r6.1), (7, r7.1), (8, r8.1), (3, r9.1)]) r9.2) (
 spec_l2Put_j1 (ups (env0 #[x0]) [(1, r1.1), (2, r2.1), (4, r3.1), (5, r4.1), (6, r5.1), (3, r6.1), (7, r7.1), (8, r8.1)]) r8.2) := by kernel_rfl
theorem cmp_isNaN_int_fn (x0 : Value) (w : World) : fnC P (EV P) 144 #[x0] w =
 (vl (.bool false) w).bind fun r1 =>
 (vl x0 r1.2).bind fun r2 =>
 (vl x0 r2.2).bind fun r3 =>
 (bo P .neq 3 (.tmp 3) (.tmp 4) r2.1 r3.1 r3.2).bind fun r4 =>
 (vl r4.1 r4.2).bind fun r5 =>
 some (r5.1, r5.2) := by kernel_rfl
noncomputable def spec_l1Dec_a1 (e : Env) (w : World) : Option (Value × World) := exC P (EV P) 145 28 (cA (cB (cB (cB (cB (bodyOf P 145)))))) e w (kSeq P (EV P) 145 28 (cB (cB (cB (cB (cB (bodyOf P 145)))))) (kFn P (fnOf P 145)))
noncomputable def spec_l1Dec_j1 (e : Env) (w : World) : Option (Value × World) := exC P (EV P) 145 28 (cB (cB (cB (cB (cB (bodyOf P 145)))))) e w (kFn P (fnOf P 145))
theorem spec_l1Dec_a1_any (e : Env) (w : World) {Q : Value × World → Prop} (h :
 (Ret (vl (e 0) (dw w)) fun r1 => r1.2 = (dw w) ∧
 (Ret (bo P .quo 3 (.tmp 18) (.const (.int .i64 10)) r1.1 (.int .i64 10) (dw w)) fun r2 => r2.2 = (dw w) ∧
 (Ret (vl (e 0) (dw w)) fun r3 => r3.2 = (dw w) ∧
 (Ret (bo P .rem 3 (.tmp 21) (.const (.int .i64 10)) r3.1 (.int .i64 10) (dw w)) fun r4 => r4.2 = (dw w) ∧
 (Ret (bo P .add 3 (.const (.int .i64 48)) (.tmp 22) (.int .i64 48) r4.1 (dw w)) fun r5 => r5.2 = (dw w) ∧
 (Ret (cv P 3 5 r5.1 (dw w)) fun r6 => r6.2 = (dw w) ∧
 ((Ret (EV P 145 #[r2.1] (dw w)) fun r7 => (cv P 3 5 r5.1 r7.2 = some (r6.1, r7.2) ∧ bo P .add 3 (.const (.int .i64 48)) (.tmp 22) (.int .i64 48) r4.1 r7.2 = some (r5.1, r7.2) ∧ bo P .rem 3 (.tmp 21) (.const (.int .i64 10)) r3.1 (.int .i64 10) r7.2 = some (r4.1, r7.2) ∧ True ∧ True) ∧
 ((Ret (bs P 22 1 #[(0, r6.1)] r7.2) fun r8 => (True ∧ True ∧ True ∧ bo P .quo 3 (.tmp 18) (.const (.int .i64 10)) r1.1 (.int .i64 10) r8.2 = some (r2.1, r8.2) ∧ True) ∧
 (Ret (cv P 22 9 r8.1 r8.2) fun r9 => r9.2 = r8.2 ∧
 (Ret (bo P .add 9 (.tmp 20) (.tmp 26) r7.1 r9.1 r8.2) fun r10 => r10.2 = r8.2 ∧
 (Ret (vl r10.1 r8.2) fun r11 => r11.2 = r8.2 ∧
 Ret (spec_l1Dec_j1 (ups e [(18, r1.1), (19, r2.1), (21, r3.1), (22, r4.1), (23, r5.1), (24, r6.1), (20, r7.1), (25, r8.1), (26, r9.1), (27, r10.1), (2, r11.1)]) r8.2) Q)))))) ∧
 (Ret (bs P 22 1 #[(0, r6.1)] (dw w)) fun r12 => (True ∧ True ∧ True ∧ bo P .quo 3 (.tmp 18) (.const (.int .i64 10)) r1.1 (.int .i64 10) r12.2 = some (r2.1, r12.2) ∧ True) ∧
 (Ret (cv P 22 9 r12.1 r12.2) fun r13 => r13.2 = r12.2 ∧
 ((Ret (EV P 145 #[r2.1] r12.2) fun r14 => (cv P 22 9 r12.1 r14.2 = some (r13.1, r14.2) ∧ cv P 3 5 r5.1 r14.2 = some (r6.1, r14.2) ∧ bo P .add 3 (.const (.int .i64 48)) (.tmp 22) (.int .i64 48) r4.1 r14.2 = some (r5.1, r14.2) ∧ bo P .rem 3 (.tmp 21) (.const (.int .i64 10)) r3.1 (.int .i64 10) r14.2 = some (r4.1, r14.2) ∧ True ∧ True) ∧
 (Ret (bo P .add 9 (.tmp 20) (.tmp 26) r14.1 r13.1 r14.2) fun r15 => r15.2 = r14.2 ∧
 (Ret (vl r15.1 r14.2) fun r16 => r16.2 = r14.2 ∧
 Ret (spec_l1Dec_j1 (ups e [(18, r1.1), (19, r2.1), (21, r3.1), (22, r4.1), (23, r5.1), (24, r6.1), (25, r12.1), (26, r13.1), (20, r14.1), (27, r15.1), (2, r16.1)]) r14.2) Q)))))))))))))) : Ret (spec_l1Dec_a1 e w) Q := exC_any (id := 7) (ops := opsOf (cA (cB (cB (cB (cB (bodyOf P 145))))))) (by kernel_rfl) (by kernel_rfl) (Eq.mpr (by kernel_rfl) h)
theorem spec_l1Dec_j1_eq (e : Env) (w : World) : spec_l1Dec_j1 e w =
 some ((e 2), w) := by kernel_rfl
theorem spec_l1Dec_fn (x0 : Value) (w : World) : fnC P (EV P) 145 #[x0] w =
 (vl (Go.Value.string { data := #[] }) w).bind fun r1 =>
 (vl x0 r1.2).bind fun r2 =>
 (bo P .lss 3 (.tmp 3) (.const (.int .i64 (-9223372036854775807))) r2.1 (.int .i64 (-9223372036854775807)) r2.2).bind fun r3 =>
 cnd r3.1 (
 (vl (Go.Value.string { data := #[45, 57, 50, 50, 51, 51, 55, 50, 48, 51, 54, 56, 53, 52, 55, 55, 53, 56, 48, 56] }) r3.2).bind fun r4 =>
 some (r4.1, r4.2)) (
 (vl x0 r3.2).bind fun r5 =>
 (bo P .lss 3 (.tmp 5) (.const (.int .i64 0)) r5.1 (.int .i64 0) r5.2).bind fun r6 =>
 cnd r6.1 (
 (vl x0 r6.2).bind fun r7 =>
 (uo P .neg r7.1 r7.2).bind fun r8 =>
 (EV P 145 #[r8.1] r8.2).bind fun r9 =>
 (bo P .add 9 (.const (Go.Value.string { data := #[45] })) (.tmp 9) (Go.Value.string { data := #[45] }) r9.1 r9.2).bind fun r10 =>
 (vl r10.1 r10.2).bind fun r11 =>
 some (r11.1, r11.2)) (
 (vl x0 r6.2).bind fun r12 =>
 (bo P .lss 3 (.tmp 11) (.const (.int .i64 10)) r12.1 (.int .i64 10) r12.2).bind fun r13 =>
 cnd r13.1 (
 (vl x0 r13.2).bind fun r14 =>
 (bo P .add 3 (.const (.int .i64 48)) (.tmp 13) (.int .i64 48) r14.1 r14.2).bind fun r15 =>
 (cv P 3 5 r15.1 r15.2).bind fun r16 =>
 (bs P 22 1 #[(0, r16.1)] r16.2).bind fun r17 =>
 (cv P 22 9 r17.1 r17.2).bind fun r18 =>
 (vl r18.1 r18.2).bind fun r19 =>
 some (r19.1, r19.2)) (
 spec_l1Dec_a1 (ups (env0 #[x0]) [(2, r1.1), (3, r2.1), (4, r3.1), (5, r5.1), (6, r6.1), (11, r12.1), (12, r13.1)]) r13.2))) := by kernel_rfl
theorem spec_l1Put_fn (x0 : Value) (w : World) : fnC P (EV P) 146 #[x0] w =
 (bx P 40 x0 w).bind fun r1 =>
 (vl (Go.Value.string { data := #[] }) r1.2).bind fun r2 =>
 (fa P 40 r1.1 0 (dw r2.2)).bind fun r4 =>
 ifP (r4.2 = (dw r2.2)) <|
 (ld P 3 r4.1 (dw r2.2)).bind fun r5 =>
 ifP (r5.2 = (dw r2.2)) <|
 (fa P 40 r1.1 1 (dw r2.2)).bind fun r6 =>
 ifP (r6.2 = (dw r2.2)) <|
 (ld P 3 r6.1 (dw r2.2)).bind fun r7 =>
 ifP (r7.2 = (dw r2.2)) <|
 (EV P 145 #[r5.1] (dw r2.2)).bind fun r8 =>
 ifP (ld P 3 r6.1 r8.2 = some (r7.1, r8.2) ∧ fa P 40 r1.1 1 r8.2 = some (r6.1, r8.2) ∧ True ∧ True ∧ True) <|
 (bo P .add 9 (.tmp 5) (.const (Go.Value.string { data := #[46] })) r8.1 (Go.Value.string { data := #[46] }) r8.2).bind fun r9 =>
 ifP (r9.2 = r8.2) <|
 (EV P 145 #[r7.1] r8.2).bind fun r10 =>
 ifP (bo P .add 9 (.tmp 5) (.const (Go.Value.string { data := #[46] })) r8.1 (Go.Value.string { data := #[46] }) r10.2 = some (r9.1, r10.2) ∧ True ∧ True ∧ True ∧ True ∧ True) <|
 (bo P .add 9 (.tmp 6) (.tmp 9) r9.1 r10.1 r10.2).bind fun r11 =>
 ifP (r11.2 = r10.2) <|
 (vl r11.1 r10.2).bind fun r12 =>
 ifP (r12.2 = r10.2) <|
 some (r12.1, r10.2) := by kernel_rfl
noncomputable def spec_l2Past_l1 (e : Env) (w : World) : Option (Value × World) := exC P (EV P) 147 22 (.loop (cA (cA (cB (cA (cB (cB (bodyOf P 147)))))))) e w (kBlock 0 (kSeq P (EV P) 147 22 (cB (cB (cB (bodyOf P 147)))) (kFn P (fnOf P 147))))
theorem spec_l2Past_l1_eq (e : Env) (w : World) : spec_l2Past_l1 e w =
 (vl (e 4) w).bind fun r1 =>
 (fa P 43 (e 1) 0 r1.2).bind fun r2 =>
 (ld P 41 r2.1 r2.2).bind fun r3 =>
 (b_len P #[41] 3 #[r3.1] r3.2).bind fun r4 =>
 (bo P .lss 3 (.tmp 5) (.tmp 8) r1.1 r4.1 r4.2).bind fun r5 =>
 cnd r5.1 (
 (vl (e 3) r5.2).bind fun r6 =>
 (bo P .add 9 (.tmp 12) (.const (Go.Value.string { data := #[32] })) r6.1 (Go.Value.string { data := #[32] }) r6.2).bind fun r7 =>
 (fa P 43 (e 1) 0 r7.2).bind fun r8 =>
 (ld P 41 r8.1 r8.2).bind fun r9 =>
 (vl (e 4) r9.2).bind fun r10 =>
 (ia P 41 r9.1 r10.1 r10.2).bind fun r11 =>
 (ld P 40 r11.1 r11.2).bind fun r12 =>
 (EV P 146 #[r12.1] r12.2).bind fun r13 =>
 (bo P .add 9 (.tmp 13) (.tmp 19) r7.1 r13.1 r13.2).bind fun r14 =>
 (vl r14.1 r14.2).bind fun r15 =>
 (vl (e 4) r15.2).bind fun r16 =>
 (bo P .add 3 (.tmp 10) (.const (.int .i64 1)) r16.1 (.int .i64 1) r16.2).bind fun r17 =>
 (vl r17.1 r17.2).bind fun r18 =>
 spec_l2Past_l1 (ups e [(5, r1.1), (6, r2.1), (7, r3.1), (8, r4.1), (9, r5.1), (12, r6.1), (13, r7.1), (14, r8.1), (15, r9.1), (16, r10.1), (17, r11.1), (18, r12.1), (19, r13.1), (20, r14.1), (3, r15.1), (10, r16.1), (11, r17.1), (4, r18.1)]) r18.2) (
 (vl (e 3) r5.2).bind fun r19 =>
 (vl r19.1 r19.2).bind fun r20 =>
 some (r20.1, r20.2)) := (exC_loop P (EV P) 147 22 (cA (cA (cB (cA (cB (cB (bodyOf P 147))))))) e w (kBlock 0 (kSeq P (EV P) 147 22 (cB (cB (cB (bodyOf P 147)))) (kFn P (fnOf P 147))))).trans (by kernel_rfl)
theorem spec_l2Past_fn (x0 : Value) (w : World) : fnC P (EV P) 147 #[x0] w =
 (bx P 43 x0 w).bind fun r1 =>
 (vl (Go.Value.string { data := #[] }) r1.2).bind fun r2 =>
 (vl (Go.Value.string { data := #[] }) r2.2).bind fun r3 =>
 (vl (.int .i64 0) r3.2).bind fun r4 =>
 spec_l2Past_l1 (ups (env0 #[x0]) [(1, r1.1), (2, r2.1), (3, r3.1), (4, r4.1)]) r4.2 := by kernel_rfl
end Go.Proofs.YthicfemhpnnaaaaGreat.X
