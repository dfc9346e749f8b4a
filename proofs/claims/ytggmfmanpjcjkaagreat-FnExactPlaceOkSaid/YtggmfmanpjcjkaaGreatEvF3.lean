/- A part of the proof: an evaluator of the model, its laws, and contracts of functions; no condition. -/
import Derived.Test.YtggmfmanpjcjkaaGreatEvT
set_option linter.unusedVariables false
set_option maxRecDepth 100000
namespace Go.Proofs.YtggmfmanpjcjkaaGreat.X
open Go Go.Ev
theorem laws_eqNode_fn (x0 x1 : Value) (w : World) : fnC P (EV P) 125 #[x0, x1] w =
 (bx P 95 x0 w).bind fun r1 =>
 (bx P 95 x1 r1.2).bind fun r2 =>
 (vl (.bool false) r2.2).bind fun r3 =>
 (fa P 95 r1.1 0 r3.2).bind fun r4 =>
 (ld P 91 r4.1 r4.2).bind fun r5 =>
 (fa P 95 r2.1 0 r5.2).bind fun r6 =>
 (ld P 91 r6.1 r6.2).bind fun r7 =>
 (EV P 150 #[r5.1, r7.1] r7.2).bind fun r8 =>
 (uo P .not r8.1 r8.2).bind fun r9 =>
 cnd r9.1 (
 (vl (.bool false) r9.2).bind fun r10 =>
 some (r10.1, r10.2)) (
 (fa P 95 r1.1 1 r9.2).bind fun r11 =>
 (ld P 47 r11.1 r11.2).bind fun r12 =>
 (fa P 95 r2.1 1 r12.2).bind fun r13 =>
 (ld P 47 r13.1 r13.2).bind fun r14 =>
 (EV P 53 #[r12.1, r14.1] r14.2).bind fun r15 =>
 (uo P .not r15.1 r15.2).bind fun r16 =>
 cnd r16.1 (
 (vl (.bool false) r16.2).bind fun r17 =>
 some (r17.1, r17.2)) (
 (vl (.bool true) r16.2).bind fun r18 =>
 some (r18.1, r18.2))) := by kernel_rfl
theorem laws_eqTag_fn (x0 x1 : Value) (w : World) : fnC P (EV P) 126 #[x0, x1] w =
 (bx P 64 x0 w).bind fun r1 =>
 (bx P 64 x1 r1.2).bind fun r2 =>
 (vl (.bool false) r2.2).bind fun r3 =>
 (fa P 64 r1.1 0 r3.2).bind fun r4 =>
 (ld P 3 r4.1 r4.2).bind fun r5 =>
 (fa P 64 r2.1 0 r5.2).bind fun r6 =>
 (ld P 3 r6.1 r6.2).bind fun r7 =>
 (bo P .neq 3 (.tmp 6) (.tmp 8) r5.1 r7.1 r7.2).bind fun r8 =>
 cnd r8.1 (
 (vl (.bool false) r8.2).bind fun r9 =>
 some (r9.1, r9.2)) (
 (fa P 64 r1.1 1 r8.2).bind fun r10 =>
 (ld P 3 r10.1 r10.2).bind fun r11 =>
 (fa P 64 r2.1 1 r11.2).bind fun r12 =>
 (ld P 3 r12.1 r12.2).bind fun r13 =>
 (bo P .neq 3 (.tmp 11) (.tmp 13) r11.1 r13.1 r13.2).bind fun r14 =>
 cnd r14.1 (
 (vl (.bool false) r14.2).bind fun r15 =>
 some (r15.1, r15.2)) (
 (vl (.bool true) r14.2).bind fun r16 =>
 some (r16.1, r16.2))) := by kernel_rfl
theorem laws_eqPast_fn (x0 x1 : Value) (w : World) : fnC P (EV P) 127 #[x0, x1] w =
 (bx P 62 x0 w).bind fun r1 =>
 (bx P 62 x1 r1.2).bind fun r2 =>
 (vl (.bool false) r2.2).bind fun r3 =>
 (fa P 62 r1.1 0 r3.2).bind fun r4 =>
 (ld P 60 r4.1 r4.2).bind fun r5 =>
 (fa P 62 r2.1 0 r5.2).bind fun r6 =>
 (ld P 60 r6.1 r6.2).bind fun r7 =>
 (EV P 151 #[r5.1, r7.1] r7.2).bind fun r8 =>
 (uo P .not r8.1 r8.2).bind fun r9 =>
 cnd r9.1 (
 (vl (.bool false) r9.2).bind fun r10 =>
 some (r10.1, r10.2)) (
 (vl (.bool true) r9.2).bind fun r11 =>
 some (r11.1, r11.2)) := by kernel_rfl
noncomputable def slices_IndexFunc_Tag_l1 (e : Env) (w : World) : Option (Value × World) := exC P (EV P) 130 19 (.loop (cA (cA (cB (cA (cB (bodyOf P 130))))))) e w (kBlock 0 (kSeq P (EV P) 130 19 (cB (cB (bodyOf P 130))) (kFn P (fnOf P 130))))
theorem slices_IndexFunc_Tag_l1_eq (e : Env) (w : World) : slices_IndexFunc_Tag_l1 e w =
 (bo P .lss 3 (.tmp 8) (.tmp 7) (e 8) (e 7) w).bind fun r1 =>
 cnd r1.1 (
 (vl (e 8) r1.2).bind fun r2 =>
 (vl r2.1 r2.2).bind fun r3 =>
 (vl (e 1) r3.2).bind fun r4 =>
 (vl (e 0) r4.2).bind fun r5 =>
 (vl r3.1 r5.2).bind fun r6 =>
 (ia P 60 r5.1 r6.1 r6.2).bind fun r7 =>
 (ld P 64 r7.1 r7.2).bind fun r8 =>
 (clo P r4.1 #[r8.1] r8.2).bind fun r9 =>
 cnd r9.1 (
 (vl r3.1 r9.2).bind fun r10 =>
 (vl r10.1 r10.2).bind fun r11 =>
 some (r11.1, r11.2)) (
 (bo P .add 3 (.tmp 8) (.const (.int .i64 1)) (e 8) (.int .i64 1) r9.2).bind fun r12 =>
 (vl r12.1 r12.2).bind fun r13 =>
 slices_IndexFunc_Tag_l1 (ups e [(9, r1.1), (10, r2.1), (5, r3.1), (11, r4.1), (12, r5.1), (13, r6.1), (14, r7.1), (15, r8.1), (16, r9.1), (18, r12.1), (8, r13.1)]) r13.2)) (
 (vl (.int .i64 (-1)) r1.2).bind fun r14 =>
 some (r14.1, r14.2)) := (exC_loop P (EV P) 130 19 (cA (cA (cB (cA (cB (bodyOf P 130)))))) e w (kBlock 0 (kSeq P (EV P) 130 19 (cB (cB (bodyOf P 130))) (kFn P (fnOf P 130))))).trans (by kernel_rfl)
theorem slices_IndexFunc_Tag_fn (x0 x1 : Value) (w : World) : fnC P (EV P) 130 #[x0, x1] w =
 (vl (.int .i64 0) w).bind fun r1 =>
 (vl x0 r1.2).bind fun r2 =>
 (b_len P #[60] 3 #[r2.1] r2.2).bind fun r3 =>
 (vl (.int .i64 0) r3.2).bind fun r4 =>
 slices_IndexFunc_Tag_l1 (ups (env0 #[x0, x1]) [(4, r1.1), (6, r2.1), (7, r3.1), (8, r4.1)]) r4.2 := by kernel_rfl
theorem slices_Clip_Tag_fn (x0 : Value) (w : World) : fnC P (EV P) 131 #[x0] w =
 (vl (Go.Value.slice none 0 0) w).bind fun r1 =>
 (vl x0 r1.2).bind fun r2 =>
 (vl x0 r2.2).bind fun r3 =>
 (b_len P #[60] 3 #[r3.1] r3.2).bind fun r4 =>
 (vl x0 r4.2).bind fun r5 =>
 (b_len P #[60] 3 #[r5.1] r5.2).bind fun r6 =>
 (sl P 60 r2.1 none (some r4.1) (some r6.1) r6.2).bind fun r7 =>
 (vl r7.1 r7.2).bind fun r8 =>
 some (r8.1, r8.2) := by kernel_rfl
theorem slices_Clone_Tag_fn (x0 : Value) (w : World) : fnC P (EV P) 132 #[x0] w =
 (vl (Go.Value.slice none 0 0) w).bind fun r1 =>
 (vl x0 r1.2).bind fun r2 =>
 (bo P .eql 60 (.tmp 3) (.const (Go.Value.slice none 0 0)) r2.1 (Go.Value.slice none 0 0) r2.2).bind fun r3 =>
 cnd r3.1 (
 (vl (Go.Value.slice none 0 0) r3.2).bind fun r4 =>
 some (r4.1, r4.2)) (
 (bs P 60 0 #[] r3.2).bind fun r5 =>
 (vl x0 r5.2).bind fun r6 =>
 (b_append P #[60, 60] 60 #[r5.1, r6.1] r6.2).bind fun r7 =>
 (vl r7.1 r7.2).bind fun r8 =>
 some (r8.1, r8.2)) := by kernel_rfl
theorem laws_szStore_fn (x0 x1 : Value) (w : World) : fnC P (EV P) 134 #[x0, x1] w =
 (bx P 146 x0 w).bind fun r1 =>
 (vl (.int .i64 0) r1.2).bind fun r2 =>
 (fa P 146 r1.1 0 r2.2).bind fun r3 =>
 (ld P 38 r3.1 r3.2).bind fun r4 =>
 (vl x1 r4.2).bind fun r5 =>
 (EV P 38 #[r4.1, r5.1] r5.2).bind fun r6 =>
 (vl r6.1 r6.2).bind fun r7 =>
 (vl r7.1 r7.2).bind fun r8 =>
 (bo P .lss 3 (.tmp 9) (.const (.int .i64 0)) r8.1 (.int .i64 0) r8.2).bind fun r9 =>
 cnd r9.1 (
 (vl (.int .i64 (-1)) r9.2).bind fun r10 =>
 some (r10.1, r10.2)) (
 (vl r7.1 r9.2).bind fun r11 =>
 (vl r11.1 r11.2).bind fun r12 =>
 some (r12.1, r12.2)) := by kernel_rfl
theorem laws_szTagS_fn (x0 x1 : Value) (w : World) : fnC P (EV P) 135 #[x0, x1] w =
 (vl (.int .i64 0) w).bind fun r1 =>
 (vl x1 r1.2).bind fun r2 =>
 (vl x0 r2.2).bind fun r3 =>
 (b_len P #[121] 3 #[r3.1] r3.2).bind fun r4 =>
 (bo P .sub 3 (.tmp 5) (.tmp 7) r2.1 r4.1 r4.2).bind fun r5 =>
 (vl r5.1 r5.2).bind fun r6 =>
 (vl r6.1 r6.2).bind fun r7 =>
 (bo P .lss 3 (.tmp 9) (.const (.int .i64 0)) r7.1 (.int .i64 0) r7.2).bind fun r8 =>
 cnd r8.1 (
 (vl (.int .i64 (-1)) r8.2).bind fun r9 =>
 some (r9.1, r9.2)) (
 (vl r6.1 r8.2).bind fun r10 =>
 (vl r10.1 r10.2).bind fun r11 =>
 some (r11.1, r11.2)) := by kernel_rfl
noncomputable def spec_l2TextOk_l1 (e : Env) (w : World) : Option (Value × World) := exC P (EV P) 136 23 (.loop (cA (cA (cB (cA (cB (bodyOf P 136))))))) e w (kBlock 0 (kSeq P (EV P) 136 23 (cB (cB (bodyOf P 136))) (kFn P (fnOf P 136))))
theorem spec_l2TextOk_l1_eq (e : Env) (w : World) : spec_l2TextOk_l1 e w =
 (vl (e 3) w).bind fun r1 =>
 (vl (e 0) r1.2).bind fun r2 =>
 (b_len P #[9] 3 #[r2.1] r2.2).bind fun r3 =>
 (bo P .lss 3 (.tmp 4) (.tmp 6) r1.1 r3.1 r3.2).bind fun r4 =>
 cnd r4.1 (
 (vl (e 0) r4.2).bind fun r5 =>
 (vl (e 3) r5.2).bind fun r6 =>
 (ix P 9 r5.1 r6.1 r6.2).bind fun r7 =>
 (bo P .lss 5 (.tmp 12) (.const (.int .u8 33)) r7.1 (.int .u8 33) r7.2).bind fun r8 =>
 (vl r8.1 r8.2).bind fun r9 =>
 (gif r9.1 false (vl (e 0) r9.2) r9.2).bind fun r10 =>
 (gif r9.1 false (vl (e 3) r10.2) r10.2).bind fun r11 =>
 (gif r9.1 false (ix P 9 r10.1 r11.1 r11.2) r11.2).bind fun r12 =>
 (gif r9.1 false (bo P .gtr 5 (.tmp 17) (.const (.int .u8 126)) r12.1 (.int .u8 126) r12.2) r12.2).bind fun r13 =>
 (pickV r9.1 (.bool true) r13.1 r13.2).bind fun r14 =>
 cnd r14.1 (
 (vl (.bool false) r14.2).bind fun r15 =>
 some (r15.1, r15.2)) (
 (vl (e 3) r14.2).bind fun r16 =>
 (bo P .add 3 (.tmp 8) (.const (.int .i64 1)) r16.1 (.int .i64 1) r16.2).bind fun r17 =>
 (vl r17.1 r17.2).bind fun r18 =>
 spec_l2TextOk_l1 (ups e [(4, r1.1), (5, r2.1), (6, r3.1), (7, r4.1), (10, r5.1), (11, r6.1), (12, r7.1), (13, r8.1), (14, r9.1), (15, r10.1), (16, r11.1), (17, r12.1), (18, r13.1), (19, r14.1), (8, r16.1), (9, r17.1), (3, r18.1)]) r18.2)) (
 (vl (e 0) r4.2).bind fun r19 =>
 (b_len P #[9] 3 #[r19.1] r19.2).bind fun r20 =>
 (bo P .leq 3 (.tmp 21) (.const (.int .i64 8)) r20.1 (.int .i64 8) r20.2).bind fun r21 =>
 (vl r21.1 r21.2).bind fun r22 =>
 some (r22.1, r22.2)) := (exC_loop P (EV P) 136 23 (cA (cA (cB (cA (cB (bodyOf P 136)))))) e w (kBlock 0 (kSeq P (EV P) 136 23 (cB (cB (bodyOf P 136))) (kFn P (fnOf P 136))))).trans (by kernel_rfl)
theorem spec_l2TextOk_fn (x0 : Value) (w : World) : fnC P (EV P) 136 #[x0] w =
 (vl (.bool false) w).bind fun r1 =>
 (vl (.int .i64 0) r1.2).bind fun r2 =>
 spec_l2TextOk_l1 (ups (env0 #[x0]) [(2, r1.1), (3, r2.1)]) r2.2 := by kernel_rfl
theorem spec_l1TagOk_fn (x0 : Value) (w : World) : fnC P (EV P) 137 #[x0] w =
 (bx P 64 x0 w).bind fun r1 =>
 (vl (.bool false) r1.2).bind fun r2 =>
 (ld P 64 r1.1 r2.2).bind fun r3 =>
 (bd P 64 #[] r3.2).bind fun r4 =>
 (bo P .eql 64 (.tmp 3) (.tmp 4) r3.1 r4.1 r4.2).bind fun r5 =>
 (vl r5.1 r5.2).bind fun r6 =>
 (gif r6.1 false (fa P 64 r1.1 0 r6.2) r6.2).bind fun r7 =>
 (gif r6.1 false (ld P 3 r7.1 r7.2) r7.2).bind fun r8 =>
 (gif r6.1 false (EV P 25 #[r8.1, (.int .i64 1), (.int .i64 999)] r8.2) r8.2).bind fun r9 =>
 (gif r6.1 false (vl r9.1 r9.2) r9.2).bind fun r10 =>
 (gif r10.1 true (fa P 64 r1.1 1 r10.2) r10.2).bind fun r11 =>
 (gif r10.1 true (ld P 3 r11.1 r11.2) r11.2).bind fun r12 =>
 (gif r10.1 true (EV P 25 #[r12.1, (.int .i64 0), (.int .i64 2)] r12.2) r12.2).bind fun r13 =>
 (gif r6.1 false (pickV r10.1 r13.1 (.bool false) r13.2) r13.2).bind fun r14 =>
 (pickV r6.1 (.bool true) r14.1 r14.2).bind fun r15 =>
 (vl r15.1 r15.2).bind fun r16 =>
 some (r16.1, r16.2) := by kernel_rfl
noncomputable def spec_l1PastOk_l1 (e : Env) (w : World) : Option (Value × World) := exC P (EV P) 138 22 (.loop (cA (cA (cB (cA (cB (bodyOf P 138))))))) e w (kBlock 0 (kSeq P (EV P) 138 22 (cB (cB (bodyOf P 138))) (kFn P (fnOf P 138))))
theorem spec_l1PastOk_l1_eq (e : Env) (w : World) : spec_l1PastOk_l1 e w =
 (vl (e 3) w).bind fun r1 =>
 (fa P 62 (e 1) 0 r1.2).bind fun r2 =>
 (ld P 60 r2.1 r2.2).bind fun r3 =>
 (b_len P #[60] 3 #[r3.1] r3.2).bind fun r4 =>
 (bo P .lss 3 (.tmp 4) (.tmp 7) r1.1 r4.1 r4.2).bind fun r5 =>
 cnd r5.1 (
 (fa P 62 (e 1) 0 r5.2).bind fun r6 =>
 (ld P 60 r6.1 r6.2).bind fun r7 =>
 (vl (e 3) r7.2).bind fun r8 =>
 (ia P 60 r7.1 r8.1 r8.2).bind fun r9 =>
 (ld P 64 r9.1 r9.2).bind fun r10 =>
 (EV P 137 #[r10.1] r10.2).bind fun r11 =>
 (uo P .not r11.1 r11.2).bind fun r12 =>
 cnd r12.1 (
 (vl (.bool false) r12.2).bind fun r13 =>
 some (r13.1, r13.2)) (
 (vl (e 3) r12.2).bind fun r14 =>
 (bo P .add 3 (.tmp 9) (.const (.int .i64 1)) r14.1 (.int .i64 1) r14.2).bind fun r15 =>
 (vl r15.1 r15.2).bind fun r16 =>
 spec_l1PastOk_l1 (ups e [(4, r1.1), (5, r2.1), (6, r3.1), (7, r4.1), (8, r5.1), (11, r6.1), (12, r7.1), (13, r8.1), (14, r9.1), (15, r10.1), (16, r11.1), (17, r12.1), (9, r14.1), (10, r15.1), (3, r16.1)]) r16.2)) (
 (fa P 62 (e 1) 0 r5.2).bind fun r17 =>
 (ld P 60 r17.1 r17.2).bind fun r18 =>
 (b_len P #[60] 3 #[r18.1] r18.2).bind fun r19 =>
 (bo P .eql 3 (.tmp 20) (.const (.int .i64 4)) r19.1 (.int .i64 4) r19.2).bind fun r20 =>
 (vl r20.1 r20.2).bind fun r21 =>
 some (r21.1, r21.2)) := (exC_loop P (EV P) 138 22 (cA (cA (cB (cA (cB (bodyOf P 138)))))) e w (kBlock 0 (kSeq P (EV P) 138 22 (cB (cB (bodyOf P 138))) (kFn P (fnOf P 138))))).trans (by kernel_rfl)
theorem spec_l1PastOk_fn (x0 : Value) (w : World) : fnC P (EV P) 138 #[x0] w =
 (bx P 62 x0 w).bind fun r1 =>
 (vl (.bool false) r1.2).bind fun r2 =>
 (vl (.int .i64 0) r2.2).bind fun r3 =>
 spec_l1PastOk_l1 (ups (env0 #[x0]) [(1, r1.1), (2, r2.1), (3, r3.1)]) r3.2 := by kernel_rfl
noncomputable def spec_l2CopyStore_l1 (e : Env) (w : World) : Option (Value × World) := exC P (EV P) 139 25 (.loop (cA (cA (cB (cA (cB (cB (bodyOf P 139)))))))) e w (kBlock 0 (kSeq P (EV P) 139 25 (cB (cB (cB (bodyOf P 139)))) (kFn P (fnOf P 139))))
theorem spec_l2CopyStore_l1_eq (e : Env) (w : World) : spec_l2CopyStore_l1 e w =
 (vl (e 4) w).bind fun r1 =>
 (fa P 91 (e 1) 0 r1.2).bind fun r2 =>
 (ld P 47 r2.1 r2.2).bind fun r3 =>
 (b_len P #[47] 3 #[r3.1] r3.2).bind fun r4 =>
 (bo P .lss 3 (.tmp 6) (.tmp 9) r1.1 r4.1 r4.2).bind fun r5 =>
 cnd r5.1 (
 (fa P 91 (e 3) 0 (dw r5.2)).bind fun r7 =>
 ifP (r7.2 = (dw r5.2)) <|
 (ld P 47 r7.1 (dw r5.2)).bind fun r8 =>
 ifP (r8.2 = (dw r5.2)) <|
 (fa P 91 (e 1) 0 (dw r5.2)).bind fun r9 =>
 ifP (r9.2 = (dw r5.2)) <|
 (ld P 47 r9.1 (dw r5.2)).bind fun r10 =>
 ifP (r10.2 = (dw r5.2)) <|
 (vl (e 4) (dw r5.2)).bind fun r11 =>
 ifP (r11.2 = (dw r5.2)) <|
 (ia P 47 r10.1 r11.1 (dw r5.2)).bind fun r12 =>
 ifP (r12.2 = (dw r5.2)) <|
 (ld P 69 r12.1 (dw r5.2)).bind fun r13 =>
 ifP (r13.2 = (dw r5.2)) <|
 (EV P 154 #[r13.1] (dw r5.2)).bind fun r14 =>
 ifP (True ∧ True ∧ True ∧ True ∧ ld P 47 r7.1 r14.2 = some (r8.1, r14.2) ∧ fa P 91 (e 3) 0 r14.2 = some (r7.1, r14.2) ∧ True) <|
 (bs P 47 1 #[(0, r14.1)] r14.2).bind fun r15 =>
 ifP (True ∧ True ∧ True ∧ True ∧ ld P 47 r7.1 r15.2 = some (r8.1, r15.2) ∧ fa P 91 (e 3) 0 r15.2 = some (r7.1, r15.2) ∧ True) <|
 (b_append P #[47, 47] 47 #[r8.1, r15.1] r15.2).bind fun r16 =>
 ifP (True ∧ True ∧ True ∧ True ∧ True ∧ True ∧ True) <|
 (fa P 91 (e 3) 0 r16.2).bind fun r17 =>
 ifP (r17.2 = r16.2) <|
 (st P 47 r17.1 r16.1 r16.2).bind fun r18 =>
 ifP (True ∧ True ∧ True ∧ True ∧ True ∧ True ∧ True ∧ True) <|
 (vl (e 4) r18.2).bind fun r19 =>
 (bo P .add 3 (.tmp 11) (.const (.int .i64 1)) r19.1 (.int .i64 1) r19.2).bind fun r20 =>
 (vl r20.1 r20.2).bind fun r21 =>
 spec_l2CopyStore_l1 (ups e [(6, r1.1), (7, r2.1), (8, r3.1), (9, r4.1), (10, r5.1), (13, r7.1), (14, r8.1), (15, r9.1), (16, r10.1), (17, r11.1), (18, r12.1), (19, r13.1), (20, r14.1), (21, r15.1), (22, r16.1), (23, r17.1), (11, r19.1), (12, r20.1), (4, r21.1)]) r21.2) (
 (ld P 91 (e 3) r5.2).bind fun r22 =>
 (st P 91 (e 2) r22.1 r22.2).bind fun r23 =>
 ((ld P 91 (e 2) r23.2).bind fun r24 => ifP (r24.2 = r23.2) (some r24.1)).bind fun v25 =>
 some (v25, r23.2)) := (exC_loop P (EV P) 139 25 (cA (cA (cB (cA (cB (cB (bodyOf P 139))))))) e w (kBlock 0 (kSeq P (EV P) 139 25 (cB (cB (cB (bodyOf P 139)))) (kFn P (fnOf P 139))))).trans (by kernel_rfl)
theorem spec_l2CopyStore_fn (x0 : Value) (w : World) : fnC P (EV P) 139 #[x0] w =
 (bx P 91 x0 w).bind fun r1 =>
 (al P 91 r1.2).bind fun r2 =>
 (bd P 91 #[] r2.2).bind fun r3 =>
 (al P 91 r3.2).bind fun r4 =>
 (st P 91 r4.1 r3.1 r4.2).bind fun r5 =>
 (vl (.int .i64 0) r5.2).bind fun r6 =>
 spec_l2CopyStore_l1 (ups (env0 #[x0]) [(1, r1.1), (2, r2.1), (5, r3.1), (3, r4.1), (4, r6.1)]) r6.2 := by kernel_rfl
theorem spec_l1Less_fn (x0 x1 : Value) (w : World) : fnC P (EV P) 140 #[x0, x1] w =
 (bx P 64 x0 w).bind fun r1 =>
 (bx P 64 x1 r1.2).bind fun r2 =>
 (vl (.bool false) r2.2).bind fun r3 =>
 (fa P 64 r1.1 0 r3.2).bind fun r4 =>
 (ld P 3 r4.1 r4.2).bind fun r5 =>
 (fa P 64 r2.1 0 r5.2).bind fun r6 =>
 (ld P 3 r6.1 r6.2).bind fun r7 =>
 (bo P .lss 3 (.tmp 6) (.tmp 8) r5.1 r7.1 r7.2).bind fun r8 =>
 (vl r8.1 r8.2).bind fun r9 =>
 (gif r9.1 false (fa P 64 r1.1 0 r9.2) r9.2).bind fun r10 =>
 (gif r9.1 false (ld P 3 r10.1 r10.2) r10.2).bind fun r11 =>
 (gif r9.1 false (fa P 64 r2.1 0 r11.2) r11.2).bind fun r12 =>
 (gif r9.1 false (ld P 3 r12.1 r12.2) r12.2).bind fun r13 =>
 (gif r9.1 false (bo P .eql 3 (.tmp 12) (.tmp 14) r11.1 r13.1 r13.2) r13.2).bind fun r14 =>
 (gif r9.1 false (vl r14.1 r14.2) r14.2).bind fun r15 =>
 (gif r15.1 true (fa P 64 r1.1 1 r15.2) r15.2).bind fun r16 =>
 (gif r15.1 true (ld P 3 r16.1 r16.2) r16.2).bind fun r17 =>
 (gif r15.1 true (fa P 64 r2.1 1 r17.2) r17.2).bind fun r18 =>
 (gif r15.1 true (ld P 3 r18.1 r18.2) r18.2).bind fun r19 =>
 (gif r15.1 true (bo P .lss 3 (.tmp 18) (.tmp 20) r17.1 r19.1 r19.2) r19.2).bind fun r20 =>
 (gif r9.1 false (pickV r15.1 r20.1 (.bool false) r20.2) r20.2).bind fun r21 =>
 (pickV r9.1 (.bool true) r21.1 r21.2).bind fun r22 =>
 (vl r22.1 r22.2).bind fun r23 =>
 some (r23.1, r23.2) := by kernel_rfl
noncomputable def spec_l2Add_j1 (e : Env) (w : World) : Option (Value × World) := exC P (EV P) 141 23 (cB (cB (bodyOf P 141))) e w (kFn P (fnOf P 141))
theorem spec_l2Add_j1_eq (e : Env) (w : World) : spec_l2Add_j1 e w =
 (ld P 91 (e 2) w).bind fun r1 =>
 (st P 91 (e 4) r1.1 r1.2).bind fun r2 =>
 ((ld P 91 (e 4) r2.2).bind fun r3 => ifP (r3.2 = r2.2) (some r3.1)).bind fun v4 =>
 some (v4, r2.2) := by kernel_rfl
theorem spec_l2Add_fn (x0 x1 : Value) (w : World) : fnC P (EV P) 141 #[x0, x1] w =
 (bx P 91 x0 w).bind fun r1 =>
 (bx P 69 x1 r1.2).bind fun r2 =>
 (al P 91 r2.2).bind fun r3 =>
 (fa P 91 r1.1 0 (dw r3.2)).bind fun r5 =>
 ifP (r5.2 = (dw r3.2)) <|
 (ld P 47 r5.1 (dw r3.2)).bind fun r6 =>
 ifP (r6.2 = (dw r3.2)) <|
 (fa P 69 r2.1 0 (dw r3.2)).bind fun r7 =>
 ifP (r7.2 = (dw r3.2)) <|
 (ld P 3 r7.1 (dw r3.2)).bind fun r8 =>
 ifP (r8.2 = (dw r3.2)) <|
 (ia P 47 r6.1 r8.1 (dw r3.2)).bind fun r9 =>
 ifP (r9.2 = (dw r3.2)) <|
 (fa P 69 r9.1 1 (dw r3.2)).bind fun r10 =>
 ifP (r10.2 = (dw r3.2)) <|
 (ld P 64 r10.1 (dw r3.2)).bind fun r11 =>
 ifP (r11.2 = (dw r3.2)) <|
 (fa P 69 r2.1 1 (dw r3.2)).bind fun r12 =>
 ifP (r12.2 = (dw r3.2)) <|
 (ld P 64 r12.1 (dw r3.2)).bind fun r13 =>
 ifP (r13.2 = (dw r3.2)) <|
 (EV P 140 #[r11.1, r13.1] (dw r3.2)).bind fun r14 =>
 ifP (True ∧ True ∧ True ∧ True ∧ True ∧ True ∧ True ∧ True ∧ True ∧ True) <|
 cnd r14.1 (
 (fa P 91 r1.1 0 (dw r14.2)).bind fun r16 =>
 ifP (r16.2 = (dw r14.2)) <|
 (ld P 47 r16.1 (dw r14.2)).bind fun r17 =>
 ifP (r17.2 = (dw r14.2)) <|
 (fa P 69 r2.1 0 (dw r14.2)).bind fun r18 =>
 ifP (r18.2 = (dw r14.2)) <|
 (ld P 3 r18.1 (dw r14.2)).bind fun r19 =>
 ifP (r19.2 = (dw r14.2)) <|
 (ld P 69 r2.1 (dw r14.2)).bind fun r20 =>
 ifP (r20.2 = (dw r14.2)) <|
 (EV P 154 #[r20.1] (dw r14.2)).bind fun r21 =>
 ifP (True ∧ ld P 3 r18.1 r21.2 = some (r19.1, r21.2) ∧ fa P 69 r2.1 0 r21.2 = some (r18.1, r21.2) ∧ ld P 47 r16.1 r21.2 = some (r17.1, r21.2) ∧ fa P 91 r1.1 0 r21.2 = some (r16.1, r21.2) ∧ True) <|
 (ia P 47 r17.1 r19.1 r21.2).bind fun r22 =>
 ifP (r22.2 = r21.2) <|
 (st P 69 r22.1 r21.1 r21.2).bind fun r23 =>
 ifP (True ∧ True ∧ True ∧ True ∧ True ∧ True ∧ True) <|
 spec_l2Add_j1 (ups (env0 #[x0, x1]) [(2, r1.1), (3, r2.1), (4, r3.1), (5, r5.1), (6, r6.1), (7, r7.1), (8, r8.1), (9, r9.1), (10, r10.1), (11, r11.1), (12, r12.1), (13, r13.1), (14, r14.1), (15, r16.1), (16, r17.1), (17, r18.1), (18, r19.1), (19, r20.1), (20, r21.1), (21, r22.1)]) r23.2) (
 spec_l2Add_j1 (ups (env0 #[x0, x1]) [(2, r1.1), (3, r2.1), (4, r3.1), (5, r5.1), (6, r6.1), (7, r7.1), (8, r8.1), (9, r9.1), (10, r10.1), (11, r11.1), (12, r12.1), (13, r13.1), (14, r14.1)]) r14.2) := by kernel_rfl
noncomputable def spec_l3SameStore_l1 (e : Env) (w : World) : Option (Value × World) := exC P (EV P) 142 47 (.loop (cA (cA (cB (cA (cB (bodyOf P 142))))))) e w (kBlock 0 (kSeq P (EV P) 142 47 (cB (cB (bodyOf P 142))) (kFn P (fnOf P 142))))
theorem spec_l3SameStore_l1_eq (e : Env) (w : World) : spec_l3SameStore_l1 e w =
 (vl (e 5) w).bind fun r1 =>
 (bo P .lss 3 (.tmp 6) (.const (.int .i64 4)) r1.1 (.int .i64 4) r1.2).bind fun r2 =>
 cnd r2.1 (
 (fa P 91 (e 2) 0 (dw r2.2)).bind fun r4 =>
 ifP (r4.2 = (dw r2.2)) <|
 (ld P 47 r4.1 (dw r2.2)).bind fun r5 =>
 ifP (r5.2 = (dw r2.2)) <|
 (vl (e 5) (dw r2.2)).bind fun r6 =>
 ifP (r6.2 = (dw r2.2)) <|
 (ia P 47 r5.1 r6.1 (dw r2.2)).bind fun r7 =>
 ifP (r7.2 = (dw r2.2)) <|
 (fa P 69 r7.1 1 (dw r2.2)).bind fun r8 =>
 ifP (r8.2 = (dw r2.2)) <|
 (ld P 64 r8.1 (dw r2.2)).bind fun r9 =>
 ifP (r9.2 = (dw r2.2)) <|
 (fa P 91 (e 3) 0 (dw r2.2)).bind fun r10 =>
 ifP (r10.2 = (dw r2.2)) <|
 (ld P 47 r10.1 (dw r2.2)).bind fun r11 =>
 ifP (r11.2 = (dw r2.2)) <|
 (vl (e 5) (dw r2.2)).bind fun r12 =>
 ifP (r12.2 = (dw r2.2)) <|
 (ia P 47 r11.1 r12.1 (dw r2.2)).bind fun r13 =>
 ifP (r13.2 = (dw r2.2)) <|
 (fa P 69 r13.1 1 (dw r2.2)).bind fun r14 =>
 ifP (r14.2 = (dw r2.2)) <|
 (ld P 64 r14.1 (dw r2.2)).bind fun r15 =>
 ifP (r15.2 = (dw r2.2)) <|
 (bo P .neq 64 (.tmp 15) (.tmp 21) r9.1 r15.1 (dw r2.2)).bind fun r16 =>
 ifP (r16.2 = (dw r2.2)) <|
 (vl r16.1 (dw r2.2)).bind fun r17 =>
 ifP (r17.2 = (dw r2.2)) <|
 (gif r17.1 false (fa P 91 (e 2) 0 (dw r2.2)) (dw r2.2)).bind fun r18 =>
 ifP (r18.2 = (dw r2.2)) <|
 (gif r17.1 false (ld P 47 r18.1 (dw r2.2)) (dw r2.2)).bind fun r19 =>
 ifP (r19.2 = (dw r2.2)) <|
 (gif r17.1 false (vl (e 5) (dw r2.2)) (dw r2.2)).bind fun r20 =>
 ifP (r20.2 = (dw r2.2)) <|
 (gif r17.1 false (ia P 47 r19.1 r20.1 (dw r2.2)) (dw r2.2)).bind fun r21 =>
 ifP (r21.2 = (dw r2.2)) <|
 (gif r17.1 false (fa P 69 r21.1 1 (dw r2.2)) (dw r2.2)).bind fun r22 =>
 ifP (r22.2 = (dw r2.2)) <|
 (gif r17.1 false (fa P 64 r22.1 0 (dw r2.2)) (dw r2.2)).bind fun r23 =>
 ifP (r23.2 = (dw r2.2)) <|
 (gif r17.1 false (ld P 3 r23.1 (dw r2.2)) (dw r2.2)).bind fun r24 =>
 ifP (r24.2 = (dw r2.2)) <|
 (gif r17.1 false (bo P .gtr 3 (.tmp 30) (.const (.int .i64 0)) r24.1 (.int .i64 0) (dw r2.2)) (dw r2.2)).bind fun r25 =>
 ifP (r25.2 = (dw r2.2)) <|
 (gif r17.1 false (vl r25.1 (dw r2.2)) (dw r2.2)).bind fun r26 =>
 ifP (r26.2 = (dw r2.2)) <|
 (gif r26.1 true (fa P 91 (e 2) 0 (dw r2.2)) (dw r2.2)).bind fun r27 =>
 ifP (r27.2 = (dw r2.2)) <|
 (gif r26.1 true (ld P 47 r27.1 (dw r2.2)) (dw r2.2)).bind fun r28 =>
 ifP (r28.2 = (dw r2.2)) <|
 (gif r26.1 true (vl (e 5) (dw r2.2)) (dw r2.2)).bind fun r29 =>
 ifP (r29.2 = (dw r2.2)) <|
 (gif r26.1 true (ia P 47 r28.1 r29.1 (dw r2.2)) (dw r2.2)).bind fun r30 =>
 ifP (r30.2 = (dw r2.2)) <|
 (gif r26.1 true (ld P 69 r30.1 (dw r2.2)) (dw r2.2)).bind fun r31 =>
 ifP (r31.2 = (dw r2.2)) <|
 (gif r26.1 true (fa P 91 (e 3) 0 (dw r2.2)) (dw r2.2)).bind fun r32 =>
 ifP (r32.2 = (dw r2.2)) <|
 (gif r26.1 true (ld P 47 r32.1 (dw r2.2)) (dw r2.2)).bind fun r33 =>
 ifP (r33.2 = (dw r2.2)) <|
 (gif r26.1 true (vl (e 5) (dw r2.2)) (dw r2.2)).bind fun r34 =>
 ifP (r34.2 = (dw r2.2)) <|
 (gif r26.1 true (ia P 47 r33.1 r34.1 (dw r2.2)) (dw r2.2)).bind fun r35 =>
 ifP (r35.2 = (dw r2.2)) <|
 (gif r26.1 true (ld P 69 r35.1 (dw r2.2)) (dw r2.2)).bind fun r36 =>
 ifP (r36.2 = (dw r2.2)) <|
 (gif r26.1 true (EV P 155 #[r31.1, r36.1] (dw r2.2)) (dw r2.2)).bind fun r37 =>
 ifP (True ∧ True ∧ True ∧ True ∧ True ∧ True ∧ True ∧ True ∧ True ∧ True ∧ True ∧ True ∧ True ∧ True ∧ True ∧ True ∧ True ∧ True ∧ True ∧ True ∧ True ∧ True ∧ True ∧ True ∧ True ∧ True ∧ True) <|
 (gif r26.1 true (uo P .not r37.1 r37.2) r37.2).bind fun r38 =>
 ifP (r38.2 = r37.2) <|
 (gif r17.1 false (pickV r26.1 r38.1 (.bool false) r37.2) r37.2).bind fun r39 =>
 ifP (r39.2 = r37.2) <|
 (pickV r17.1 (.bool true) r39.1 r37.2).bind fun r40 =>
 ifP (r40.2 = r37.2) <|
 cnd r40.1 (
 (vl (.bool false) r37.2).bind fun r41 =>
 some (r41.1, r41.2)) (
 (vl (e 5) r37.2).bind fun r42 =>
 (bo P .add 3 (.tmp 8) (.const (.int .i64 1)) r42.1 (.int .i64 1) r42.2).bind fun r43 =>
 (vl r43.1 r43.2).bind fun r44 =>
 spec_l3SameStore_l1 (ups e [(6, r1.1), (7, r2.1), (10, r4.1), (11, r5.1), (12, r6.1), (13, r7.1), (14, r8.1), (15, r9.1), (16, r10.1), (17, r11.1), (18, r12.1), (19, r13.1), (20, r14.1), (21, r15.1), (22, r16.1), (23, r17.1), (24, r18.1), (25, r19.1), (26, r20.1), (27, r21.1), (28, r22.1), (29, r23.1), (30, r24.1), (31, r25.1), (32, r26.1), (33, r27.1), (34, r28.1), (35, r29.1), (36, r30.1), (37, r31.1), (38, r32.1), (39, r33.1), (40, r34.1), (41, r35.1), (42, r36.1), (43, r37.1), (44, r38.1), (45, r39.1), (46, r40.1), (8, r42.1), (9, r43.1), (5, r44.1)]) r44.2)) (
 (vl (.bool true) r2.2).bind fun r45 =>
 some (r45.1, r45.2)) := (exC_loop P (EV P) 142 47 (cA (cA (cB (cA (cB (bodyOf P 142)))))) e w (kBlock 0 (kSeq P (EV P) 142 47 (cB (cB (bodyOf P 142))) (kFn P (fnOf P 142))))).trans (by kernel_rfl)
theorem spec_l3SameStore_fn (x0 x1 : Value) (w : World) : fnC P (EV P) 142 #[x0, x1] w =
 (bx P 91 x0 w).bind fun r1 =>
 (bx P 91 x1 r1.2).bind fun r2 =>
 (vl (.bool false) r2.2).bind fun r3 =>
 (vl (.int .i64 0) r3.2).bind fun r4 =>
 spec_l3SameStore_l1 (ups (env0 #[x0, x1]) [(2, r1.1), (3, r2.1), (4, r3.1), (5, r4.1)]) r4.2 := by kernel_rfl
noncomputable def spec_l2Tags_l1 (e : Env) (w : World) : Option (Value × World) := exC P (EV P) 143 25 (.loop (cA (cA (cB (cA (cB (cB (bodyOf P 143)))))))) e w (kBlock 0 (kSeq P (EV P) 143 25 (cB (cB (cB (bodyOf P 143)))) (kFn P (fnOf P 143))))
theorem spec_l2Tags_l1_eq (e : Env) (w : World) : spec_l2Tags_l1 e w =
 (vl (e 4) w).bind fun r1 =>
 (fa P 91 (e 1) 0 r1.2).bind fun r2 =>
 (ld P 47 r2.1 r2.2).bind fun r3 =>
 (b_len P #[47] 3 #[r3.1] r3.2).bind fun r4 =>
 (bo P .lss 3 (.tmp 6) (.tmp 9) r1.1 r4.1 r4.2).bind fun r5 =>
 cnd r5.1 (
 (fa P 62 (e 3) 0 (dw r5.2)).bind fun r7 =>
 ifP (r7.2 = (dw r5.2)) <|
 (ld P 60 r7.1 (dw r5.2)).bind fun r8 =>
 ifP (r8.2 = (dw r5.2)) <|
 (fa P 91 (e 1) 0 (dw r5.2)).bind fun r9 =>
 ifP (r9.2 = (dw r5.2)) <|
 (ld P 47 r9.1 (dw r5.2)).bind fun r10 =>
 ifP (r10.2 = (dw r5.2)) <|
 (vl (e 4) (dw r5.2)).bind fun r11 =>
 ifP (r11.2 = (dw r5.2)) <|
 (ia P 47 r10.1 r11.1 (dw r5.2)).bind fun r12 =>
 ifP (r12.2 = (dw r5.2)) <|
 (fa P 69 r12.1 1 (dw r5.2)).bind fun r13 =>
 ifP (r13.2 = (dw r5.2)) <|
 (ld P 64 r13.1 (dw r5.2)).bind fun r14 =>
 ifP (r14.2 = (dw r5.2)) <|
 (bs P 60 1 #[(0, r14.1)] (dw r5.2)).bind fun r15 =>
 ifP (True ∧ True ∧ True ∧ True ∧ True ∧ ld P 60 r7.1 r15.2 = some (r8.1, r15.2) ∧ fa P 62 (e 3) 0 r15.2 = some (r7.1, r15.2) ∧ True) <|
 (b_append P #[60, 60] 60 #[r8.1, r15.1] r15.2).bind fun r16 =>
 ifP (True ∧ True ∧ True ∧ True ∧ True ∧ True ∧ True ∧ True) <|
 (fa P 62 (e 3) 0 r16.2).bind fun r17 =>
 ifP (r17.2 = r16.2) <|
 (st P 60 r17.1 r16.1 r16.2).bind fun r18 =>
 ifP (True ∧ True ∧ True ∧ True ∧ True ∧ True ∧ True ∧ True ∧ True) <|
 (vl (e 4) r18.2).bind fun r19 =>
 (bo P .add 3 (.tmp 11) (.const (.int .i64 1)) r19.1 (.int .i64 1) r19.2).bind fun r20 =>
 (vl r20.1 r20.2).bind fun r21 =>
 spec_l2Tags_l1 (ups e [(6, r1.1), (7, r2.1), (8, r3.1), (9, r4.1), (10, r5.1), (13, r7.1), (14, r8.1), (15, r9.1), (16, r10.1), (17, r11.1), (18, r12.1), (19, r13.1), (20, r14.1), (21, r15.1), (22, r16.1), (23, r17.1), (11, r19.1), (12, r20.1), (4, r21.1)]) r21.2) (
 (ld P 62 (e 3) r5.2).bind fun r22 =>
 (st P 62 (e 2) r22.1 r22.2).bind fun r23 =>
 ((ld P 62 (e 2) r23.2).bind fun r24 => ifP (r24.2 = r23.2) (some r24.1)).bind fun v25 =>
 some (v25, r23.2)) := (exC_loop P (EV P) 143 25 (cA (cA (cB (cA (cB (cB (bodyOf P 143))))))) e w (kBlock 0 (kSeq P (EV P) 143 25 (cB (cB (cB (bodyOf P 143)))) (kFn P (fnOf P 143))))).trans (by kernel_rfl)
theorem spec_l2Tags_fn (x0 : Value) (w : World) : fnC P (EV P) 143 #[x0] w =
 (bx P 91 x0 w).bind fun r1 =>
 (al P 62 r1.2).bind fun r2 =>
 (bd P 62 #[] r2.2).bind fun r3 =>
 (al P 62 r3.2).bind fun r4 =>
 (st P 62 r4.1 r3.1 r4.2).bind fun r5 =>
 (vl (.int .i64 0) r5.2).bind fun r6 =>
 spec_l2Tags_l1 (ups (env0 #[x0]) [(1, r1.1), (2, r2.1), (5, r3.1), (3, r4.1), (4, r6.1)]) r6.2 := by kernel_rfl
theorem laws_toStore_fn (x0 : Value) (w : World) : fnC P (EV P) 144 #[x0] w =
 (bx P 146 x0 w).bind fun r1 =>
 (al P 91 r1.2).bind fun r2 =>
 (al P 91 r2.2).bind fun r3 =>
 (fa P 146 r1.1 0 r3.2).bind fun r4 =>
 (ld P 38 r4.1 r4.2).bind fun r5 =>
 (EV P 42 #[r5.1] r5.2).bind fun r6 =>
 (fa P 91 r3.1 0 r6.2).bind fun r7 =>
 (st P 47 r7.1 r6.1 r7.2).bind fun r8 =>
 (ld P 91 r3.1 r8.2).bind fun r9 =>
 (st P 91 r2.1 r9.1 r9.2).bind fun r10 =>
 ((ld P 91 r2.1 r10.2).bind fun r11 => ifP (r11.2 = r10.2) (some r11.1)).bind fun v12 =>
 some (v12, r10.2) := by kernel_rfl
noncomputable def laws_toTagS_l1 (e : Env) (w : World) : Option (Value × World) := exC P (EV P) 145 23 (.loop (cA (cA (cB (cA (cB (cB (bodyOf P 145)))))))) e w (kBlock 0 (kSeq P (EV P) 145 23 (cB (cB (cB (bodyOf P 145)))) (kFn P (fnOf P 145))))
theorem laws_toTagS_l1_eq (e : Env) (w : World) : laws_toTagS_l1 e w =
 (vl (e 4) w).bind fun r1 =>
 (vl (e 0) r1.2).bind fun r2 =>
 (b_len P #[121] 3 #[r2.1] r2.2).bind fun r3 =>
 (bo P .lss 3 (.tmp 8) (.tmp 10) r1.1 r3.1 r3.2).bind fun r4 =>
 cnd r4.1 (
 (vl (e 3) r4.2).bind fun r5 =>
 (vl (e 4) r5.2).bind fun r6 =>
 (vl (e 0) r6.2).bind fun r7 =>
 (vl (e 4) r7.2).bind fun r8 =>
 (ia P 121 r7.1 r8.1 r8.2).bind fun r9 =>
 (ld P 120 r9.1 r9.2).bind fun r10 =>
 (EV P 116 #[r10.1] r10.2).bind fun r11 =>
 (ia P 60 r5.1 r6.1 r11.2).bind fun r12 =>
 (st P 64 r12.1 r11.1 r12.2).bind fun r13 =>
 (vl (e 4) r13.2).bind fun r14 =>
 (bo P .add 3 (.tmp 12) (.const (.int .i64 1)) r14.1 (.int .i64 1) r14.2).bind fun r15 =>
 (vl r15.1 r15.2).bind fun r16 =>
 laws_toTagS_l1 (ups e [(8, r1.1), (9, r2.1), (10, r3.1), (11, r4.1), (14, r5.1), (15, r6.1), (16, r7.1), (17, r8.1), (18, r9.1), (19, r10.1), (20, r11.1), (21, r12.1), (12, r14.1), (13, r15.1), (4, r16.1)]) r16.2) (
 (vl (e 3) r4.2).bind fun r17 =>
 (vl r17.1 r17.2).bind fun r18 =>
 some (r18.1, r18.2)) := (exC_loop P (EV P) 145 23 (cA (cA (cB (cA (cB (cB (bodyOf P 145))))))) e w (kBlock 0 (kSeq P (EV P) 145 23 (cB (cB (cB (bodyOf P 145)))) (kFn P (fnOf P 145))))).trans (by kernel_rfl)
theorem laws_toTagS_fn (x0 : Value) (w : World) : fnC P (EV P) 145 #[x0] w =
 (vl (Go.Value.slice none 0 0) w).bind fun r1 =>
 (vl x0 r1.2).bind fun r2 =>
 (b_len P #[121] 3 #[r2.1] r2.2).bind fun r3 =>
 (ms P 60 r3.1 r3.1 r3.2).bind fun r4 =>
 (vl r4.1 r4.2).bind fun r5 =>
 (vl (.int .i64 0) r5.2).bind fun r6 =>
 laws_toTagS_l1 (ups (env0 #[x0]) [(2, r1.1), (5, r2.1), (6, r3.1), (7, r4.1), (3, r5.1), (4, r6.1)]) r6.2 := by kernel_rfl
noncomputable def impl_textOk_l1 (e : Env) (w : World) : Option (Value × World) := exC P (EV P) 146 19 (.loop (cA (cA (cB (cA (cB (bodyOf P 146))))))) e w (kBlock 0 (kSeq P (EV P) 146 19 (cB (cB (bodyOf P 146))) (kFn P (fnOf P 146))))
theorem impl_textOk_l1_eq (e : Env) (w : World) : impl_textOk_l1 e w =
 (bo P .lss 3 (.tmp 6) (.tmp 5) (e 6) (e 5) w).bind fun r1 =>
 cnd r1.1 (
 (vl (e 6) r1.2).bind fun r2 =>
 (vl r2.1 r2.2).bind fun r3 =>
 (vl (e 0) r3.2).bind fun r4 =>
 (vl r3.1 r4.2).bind fun r5 =>
 (ix P 9 r4.1 r5.1 r5.2).bind fun r6 =>
 (cv P 5 3 r6.1 r6.2).bind fun r7 =>
 (EV P 45 #[r7.1, (.int .i64 33), (.int .i64 126)] r7.2).bind fun r8 =>
 (uo P .not r8.1 r8.2).bind fun r9 =>
 cnd r9.1 (
 (vl (.bool false) r9.2).bind fun r10 =>
 some (r10.1, r10.2)) (
 (bo P .add 3 (.tmp 6) (.const (.int .i64 1)) (e 6) (.int .i64 1) r9.2).bind fun r11 =>
 (vl r11.1 r11.2).bind fun r12 =>
 impl_textOk_l1 (ups e [(7, r1.1), (8, r2.1), (3, r3.1), (9, r4.1), (10, r5.1), (11, r6.1), (12, r7.1), (13, r8.1), (14, r9.1), (15, r11.1), (6, r12.1)]) r12.2)) (
 (vl (e 0) r1.2).bind fun r13 =>
 (b_len P #[9] 3 #[r13.1] r13.2).bind fun r14 =>
 (bo P .leq 3 (.tmp 17) (.const (.int .i64 8)) r14.1 (.int .i64 8) r14.2).bind fun r15 =>
 (vl r15.1 r15.2).bind fun r16 =>
 some (r16.1, r16.2)) := (exC_loop P (EV P) 146 19 (cA (cA (cB (cA (cB (bodyOf P 146)))))) e w (kBlock 0 (kSeq P (EV P) 146 19 (cB (cB (bodyOf P 146))) (kFn P (fnOf P 146))))).trans (by kernel_rfl)
theorem impl_textOk_fn (x0 : Value) (w : World) : fnC P (EV P) 146 #[x0] w =
 (vl (.bool false) w).bind fun r1 =>
 (vl x0 r1.2).bind fun r2 =>
 (b_len P #[9] 3 #[r2.1] r2.2).bind fun r3 =>
 (vl (.int .i64 0) r3.2).bind fun r4 =>
 impl_textOk_l1 (ups (env0 #[x0]) [(2, r1.1), (4, r2.1), (5, r3.1), (6, r4.1)]) r4.2 := by kernel_rfl
noncomputable def impl_versCopied_l1 (e : Env) (w : World) : Option (Value × World) := exC P (EV P) 147 22 (.loop (cA (cA (cB (cA (cB (cB (bodyOf P 147)))))))) e w (kBlock 0 (kSeq P (EV P) 147 22 (cB (cB (cB (bodyOf P 147)))) (kFn P (fnOf P 147))))
theorem impl_versCopied_l1_eq (e : Env) (w : World) : impl_versCopied_l1 e w =
 (bo P .lss 3 (.tmp 11) (.tmp 10) (e 11) (e 10) w).bind fun r1 =>
 cnd r1.1 (
 (ia P 47 (e 9) (e 11) r1.2).bind fun r2 =>
 (ld P 69 r2.1 r2.2).bind fun r3 =>
 (al P 69 r3.2).bind fun r4 =>
 (st P 69 r4.1 r3.1 r4.2).bind fun r5 =>
 (vl (e 3) r5.2).bind fun r6 =>
 (ld P 69 r4.1 r6.2).bind fun r7 =>
 (EV P 156 #[r7.1] r7.2).bind fun r8 =>
 (bs P 47 1 #[(0, r8.1)] r8.2).bind fun r9 =>
 (b_append P #[47, 47] 47 #[r6.1, r9.1] r9.2).bind fun r10 =>
 (vl r10.1 r10.2).bind fun r11 =>
 (bo P .add 3 (.tmp 11) (.const (.int .i64 1)) (e 11) (.int .i64 1) r11.2).bind fun r12 =>
 (vl r12.1 r12.2).bind fun r13 =>
 impl_versCopied_l1 (ups e [(12, r1.1), (13, r2.1), (14, r3.1), (5, r4.1), (15, r6.1), (16, r7.1), (17, r8.1), (18, r9.1), (19, r10.1), (3, r11.1), (20, r12.1), (11, r13.1)]) r13.2) (
 (vl (e 3) r1.2).bind fun r14 =>
 (vl r14.1 r14.2).bind fun r15 =>
 some (r15.1, r15.2)) := (exC_loop P (EV P) 147 22 (cA (cA (cB (cA (cB (cB (bodyOf P 147))))))) e w (kBlock 0 (kSeq P (EV P) 147 22 (cB (cB (cB (bodyOf P 147)))) (kFn P (fnOf P 147))))).trans (by kernel_rfl)
theorem impl_versCopied_fn (x0 : Value) (w : World) : fnC P (EV P) 147 #[x0] w =
 (vl (Go.Value.slice none 0 0) w).bind fun r1 =>
 (vl x0 r1.2).bind fun r2 =>
 (b_len P #[47] 3 #[r2.1] r2.2).bind fun r3 =>
 (ms P 47 (.int .i64 0) r3.1 r3.2).bind fun r4 =>
 (vl r4.1 r4.2).bind fun r5 =>
 (vl x0 r5.2).bind fun r6 =>
 (b_len P #[47] 3 #[r6.1] r6.2).bind fun r7 =>
 (vl (.int .i64 0) r7.2).bind fun r8 =>
 impl_versCopied_l1 (ups (env0 #[x0]) [(2, r1.1), (6, r2.1), (7, r3.1), (8, r4.1), (3, r5.1), (9, r6.1), (10, r7.1), (11, r8.1)]) r8.2 := by kernel_rfl
noncomputable def cmp_Or_int_l1 (e : Env) (w : World) : Option (Value × World) := exC P (EV P) 148 18 (.loop (cA (cA (cB (cA (cB (cB (bodyOf P 148)))))))) e w (kBlock 0 (kSeq P (EV P) 148 18 (cB (cB (cB (bodyOf P 148)))) (kFn P (fnOf P 148))))
theorem cmp_Or_int_l1_eq (e : Env) (w : World) : cmp_Or_int_l1 e w =
 (bo P .lss 3 (.tmp 8) (.tmp 7) (e 8) (e 7) w).bind fun r1 =>
 cnd r1.1 (
 (ia P 57 (e 6) (e 8) r1.2).bind fun r2 =>
 (ld P 3 r2.1 r2.2).bind fun r3 =>
 (vl r3.1 r3.2).bind fun r4 =>
 (vl r4.1 r4.2).bind fun r5 =>
 (vl (e 3) r5.2).bind fun r6 =>
 (bo P .neq 3 (.tmp 12) (.tmp 13) r5.1 r6.1 r6.2).bind fun r7 =>
 cnd r7.1 (
 (vl r4.1 r7.2).bind fun r8 =>
 (vl r8.1 r8.2).bind fun r9 =>
 some (r9.1, r9.2)) (
 (bo P .add 3 (.tmp 8) (.const (.int .i64 1)) (e 8) (.int .i64 1) r7.2).bind fun r10 =>
 (vl r10.1 r10.2).bind fun r11 =>
 cmp_Or_int_l1 (ups e [(9, r1.1), (10, r2.1), (11, r3.1), (5, r4.1), (12, r5.1), (13, r6.1), (14, r7.1), (16, r10.1), (8, r11.1)]) r11.2)) (
 (vl (e 3) r1.2).bind fun r12 =>
 (vl r12.1 r12.2).bind fun r13 =>
 some (r13.1, r13.2)) := (exC_loop P (EV P) 148 18 (cA (cA (cB (cA (cB (cB (bodyOf P 148))))))) e w (kBlock 0 (kSeq P (EV P) 148 18 (cB (cB (cB (bodyOf P 148)))) (kFn P (fnOf P 148))))).trans (by kernel_rfl)
theorem cmp_Or_int_fn (x0 : Value) (w : World) : fnC P (EV P) 148 #[x0] w =
 (vl (.int .i64 0) w).bind fun r1 =>
 (vl (.int .i64 0) r1.2).bind fun r2 =>
 (vl x0 r2.2).bind fun r3 =>
 (b_len P #[57] 3 #[r3.1] r3.2).bind fun r4 =>
 (vl (.int .i64 0) r4.2).bind fun r5 =>
 cmp_Or_int_l1 (ups (env0 #[x0]) [(2, r1.1), (3, r2.1), (6, r3.1), (7, r4.1), (8, r5.1)]) r5.2 := by kernel_rfl
theorem cmp_Compare_int_fn (x0 x1 : Value) (w : World) : fnC P (EV P) 149 #[x0, x1] w =
 (vl (.int .i64 0) w).bind fun r1 =>
 (vl x0 r1.2).bind fun r2 =>
 (EV P 157 #[r2.1] r2.2).bind fun r3 =>
 (vl r3.1 r3.2).bind fun r4 =>
 (vl x1 r4.2).bind fun r5 =>
 (EV P 157 #[r5.1] r5.2).bind fun r6 =>
 (vl r6.1 r6.2).bind fun r7 =>
 (vl r4.1 r7.2).bind fun r8 =>
 cnd r8.1 (
 (vl r7.1 r8.2).bind fun r9 =>
 cnd r9.1 (
 (vl (.int .i64 0) r9.2).bind fun r10 =>
 some (r10.1, r10.2)) (
 (vl (.int .i64 (-1)) r9.2).bind fun r11 =>
 some (r11.1, r11.2))) (
 (vl r7.1 r8.2).bind fun r12 =>
 cnd r12.1 (
 (vl (.int .i64 1) r12.2).bind fun r13 =>
 some (r13.1, r13.2)) (
 (vl x0 r12.2).bind fun r14 =>
 (vl x1 r14.2).bind fun r15 =>
 (bo P .lss 3 (.tmp 14) (.tmp 15) r14.1 r15.1 r15.2).bind fun r16 =>
 cnd r16.1 (
 (vl (.int .i64 (-1)) r16.2).bind fun r17 =>
 some (r17.1, r17.2)) (
 (vl x0 r16.2).bind fun r18 =>
 (vl x1 r18.2).bind fun r19 =>
 (bo P .gtr 3 (.tmp 17) (.tmp 18) r18.1 r19.1 r19.2).bind fun r20 =>
 cnd r20.1 (
 (vl (.int .i64 1) r20.2).bind fun r21 =>
 some (r21.1, r21.2)) (
 (vl (.int .i64 0) r20.2).bind fun r22 =>
 some (r22.1, r22.2))))) := by kernel_rfl
theorem laws_eqStore_fn (x0 x1 : Value) (w : World) : fnC P (EV P) 150 #[x0, x1] w =
 (bx P 91 x0 w).bind fun r1 =>
 (bx P 91 x1 r1.2).bind fun r2 =>
 (vl (.bool false) r2.2).bind fun r3 =>
 (fa P 91 r1.1 0 r3.2).bind fun r4 =>
 (ld P 47 r4.1 r4.2).bind fun r5 =>
 (fa P 91 r2.1 0 r5.2).bind fun r6 =>
 (ld P 47 r6.1 r6.2).bind fun r7 =>
 (EV P 53 #[r5.1, r7.1] r7.2).bind fun r8 =>
 (uo P .not r8.1 r8.2).bind fun r9 =>
 cnd r9.1 (
 (vl (.bool false) r9.2).bind fun r10 =>
 some (r10.1, r10.2)) (
 (vl (.bool true) r9.2).bind fun r11 =>
 some (r11.1, r11.2)) := by kernel_rfl
noncomputable def laws_eqTagS_l1 (e : Env) (w : World) : Option (Value × World) := exC P (EV P) 151 27 (.loop (cA (cA (cB (cA (cB (cB (bodyOf P 151)))))))) e w (kBlock 0 (kSeq P (EV P) 151 27 (cB (cB (cB (bodyOf P 151)))) (kFn P (fnOf P 151))))
theorem laws_eqTagS_l1_eq (e : Env) (w : World) : laws_eqTagS_l1 e w =
 (vl (e 5) w).bind fun r1 =>
 (vl (e 0) r1.2).bind fun r2 =>
 (b_len P #[60] 3 #[r2.1] r2.2).bind fun r3 =>
 (bo P .lss 3 (.tmp 11) (.tmp 13) r1.1 r3.1 r3.2).bind fun r4 =>
 cnd r4.1 (
 (vl (e 0) (dw r4.2)).bind fun r6 =>
 ifP (r6.2 = (dw r4.2)) <|
 (vl (e 5) (dw r4.2)).bind fun r7 =>
 ifP (r7.2 = (dw r4.2)) <|
 (ia P 60 r6.1 r7.1 (dw r4.2)).bind fun r8 =>
 ifP (r8.2 = (dw r4.2)) <|
 (ld P 64 r8.1 (dw r4.2)).bind fun r9 =>
 ifP (r9.2 = (dw r4.2)) <|
 (vl (e 1) (dw r4.2)).bind fun r10 =>
 ifP (r10.2 = (dw r4.2)) <|
 (vl (e 5) (dw r4.2)).bind fun r11 =>
 ifP (r11.2 = (dw r4.2)) <|
 (ia P 60 r10.1 r11.1 (dw r4.2)).bind fun r12 =>
 ifP (r12.2 = (dw r4.2)) <|
 (ld P 64 r12.1 (dw r4.2)).bind fun r13 =>
 ifP (r13.2 = (dw r4.2)) <|
 (EV P 126 #[r9.1, r13.1] (dw r4.2)).bind fun r14 =>
 ifP (True ∧ True ∧ True ∧ True ∧ True) <|
 (uo P .not r14.1 r14.2).bind fun r15 =>
 ifP (r15.2 = r14.2) <|
 cnd r15.1 (
 (vl (.bool false) r14.2).bind fun r16 =>
 some (r16.1, r16.2)) (
 (vl (e 5) r14.2).bind fun r17 =>
 (bo P .add 3 (.tmp 15) (.const (.int .i64 1)) r17.1 (.int .i64 1) r17.2).bind fun r18 =>
 (vl r18.1 r18.2).bind fun r19 =>
 laws_eqTagS_l1 (ups e [(11, r1.1), (12, r2.1), (13, r3.1), (14, r4.1), (17, r6.1), (18, r7.1), (19, r8.1), (20, r9.1), (21, r10.1), (22, r11.1), (23, r12.1), (24, r13.1), (25, r14.1), (26, r15.1), (15, r17.1), (16, r18.1), (5, r19.1)]) r19.2)) (
 (vl (.bool true) r4.2).bind fun r20 =>
 some (r20.1, r20.2)) := (exC_loop P (EV P) 151 27 (cA (cA (cB (cA (cB (cB (bodyOf P 151))))))) e w (kBlock 0 (kSeq P (EV P) 151 27 (cB (cB (cB (bodyOf P 151)))) (kFn P (fnOf P 151))))).trans (by kernel_rfl)
theorem laws_eqTagS_fn (x0 x1 : Value) (w : World) : fnC P (EV P) 151 #[x0, x1] w =
 (vl (.bool false) w).bind fun r1 =>
 (vl x0 r1.2).bind fun r2 =>
 (b_len P #[60] 3 #[r2.1] r2.2).bind fun r3 =>
 (vl x1 r3.2).bind fun r4 =>
 (b_len P #[60] 3 #[r4.1] r4.2).bind fun r5 =>
 (bo P .neq 3 (.tmp 7) (.tmp 9) r3.1 r5.1 r5.2).bind fun r6 =>
 cnd r6.1 (
 (vl (.bool false) r6.2).bind fun r7 =>
 some (r7.1, r7.2)) (
 (vl (.int .i64 0) r6.2).bind fun r8 =>
 laws_eqTagS_l1 (ups (env0 #[x0, x1]) [(4, r1.1), (6, r2.1), (7, r3.1), (8, r4.1), (9, r5.1), (10, r6.1), (5, r8.1)]) r8.2) := by kernel_rfl
theorem spec_l2Copy_fn (x0 : Value) (w : World) : fnC P (EV P) 154 #[x0] w =
 (bx P 69 x0 w).bind fun r1 =>
 (al P 69 r1.2).bind fun r2 =>
 (bs P 60 0 #[] r2.2).bind fun r3 =>
 (fa P 69 r1.1 2 r3.2).bind fun r4 =>
 (fa P 62 r4.1 0 r4.2).bind fun r5 =>
 (ld P 60 r5.1 r5.2).bind fun r6 =>
 (b_append P #[60, 60] 60 #[r3.1, r6.1] r6.2).bind fun r7 =>
 (bd P 62 #[(0, r7.1)] r7.2).bind fun r8 =>
 (fa P 69 r1.1 2 r8.2).bind fun r9 =>
 (st P 62 r9.1 r8.1 r9.2).bind fun r10 =>
 (ld P 69 r1.1 r10.2).bind fun r11 =>
 (st P 69 r2.1 r11.1 r11.2).bind fun r12 =>
 ((ld P 69 r2.1 r12.2).bind fun r13 => ifP (r13.2 = r12.2) (some r13.1)).bind fun v14 =>
 some (v14, r12.2) := by kernel_rfl
theorem spec_l2Same_fn (x0 x1 : Value) (w : World) : fnC P (EV P) 155 #[x0, x1] w =
 (bx P 69 x0 w).bind fun r1 =>
 (bx P 69 x1 r1.2).bind fun r2 =>
 (vl (.bool false) r2.2).bind fun r3 =>
 (ld P 69 r1.1 (dw r3.2)).bind fun r5 =>
 ifP (r5.2 = (dw r3.2)) <|
 (ld P 69 r2.1 (dw r3.2)).bind fun r6 =>
 ifP (r6.2 = (dw r3.2)) <|
 (EV P 159 #[r5.1] (dw r3.2)).bind fun r7 =>
 ifP (ld P 69 r2.1 r7.2 = some (r6.1, r7.2) ∧ True ∧ True) <|
 (EV P 159 #[r6.1] r7.2).bind fun r8 =>
 ifP (True ∧ True ∧ True) <|
 (bo P .eql 9 (.tmp 6) (.tmp 8) r7.1 r8.1 r8.2).bind fun r9 =>
 ifP (r9.2 = r8.2) <|
 (vl r9.1 r8.2).bind fun r10 =>
 ifP (r10.2 = r8.2) <|
 some (r10.1, r8.2) := by kernel_rfl
theorem impl_Ver_copied_fn (x0 : Value) (w : World) : fnC P (EV P) 156 #[x0] w =
 (bx P 69 x0 w).bind fun r1 =>
 (al P 69 r1.2).bind fun r2 =>
 (fa P 69 r1.1 2 r2.2).bind fun r3 =>
 (ld P 62 r3.1 r3.2).bind fun r4 =>
 (EV P 104 #[r4.1] r4.2).bind fun r5 =>
 (fa P 69 r1.1 2 r5.2).bind fun r6 =>
 (st P 62 r6.1 r5.1 r6.2).bind fun r7 =>
 (ld P 69 r1.1 r7.2).bind fun r8 =>
 (st P 69 r2.1 r8.1 r8.2).bind fun r9 =>
 ((ld P 69 r2.1 r9.2).bind fun r10 => ifP (r10.2 = r9.2) (some r10.1)).bind fun v11 =>
 some (v11, r9.2) := by kernel_rfl
theorem cmp_isNaN_int_fn (x0 : Value) (w : World) : fnC P (EV P) 157 #[x0] w =
 (vl (.bool false) w).bind fun r1 =>
 (vl x0 r1.2).bind fun r2 =>
 (vl x0 r2.2).bind fun r3 =>
 (bo P .neq 3 (.tmp 3) (.tmp 4) r2.1 r3.1 r3.2).bind fun r4 =>
 (vl r4.1 r4.2).bind fun r5 =>
 some (r5.1, r5.2) := by kernel_rfl
noncomputable def spec_l2Put_j1 (e : Env) (w : World) : Option (Value × World) := exC P (EV P) 159 24 (cB (cB (cB (bodyOf P 159)))) e w (kFn P (fnOf P 159))
theorem spec_l2Put_j1_eq (e : Env) (w : World) : spec_l2Put_j1 e w =
 (fa P 69 (e 1) 0 (dw w)).bind fun r2 =>
 ifP (r2.2 = (dw w)) <|
 (ld P 3 r2.1 (dw w)).bind fun r3 =>
 ifP (r3.2 = (dw w)) <|
 (fa P 69 (e 1) 1 (dw w)).bind fun r4 =>
 ifP (r4.2 = (dw w)) <|
 (ld P 64 r4.1 (dw w)).bind fun r5 =>
 ifP (r5.2 = (dw w)) <|
 (fa P 69 (e 1) 2 (dw w)).bind fun r6 =>
 ifP (r6.2 = (dw w)) <|
 (ld P 62 r6.1 (dw w)).bind fun r7 =>
 ifP (r7.2 = (dw w)) <|
 (vl (e 3) (dw w)).bind fun r8 =>
 ifP (r8.2 = (dw w)) <|
 (EV P 160 #[r3.1] (dw w)).bind fun r9 =>
 ifP (ld P 62 r6.1 r9.2 = some (r7.1, r9.2) ∧ fa P 69 (e 1) 2 r9.2 = some (r6.1, r9.2) ∧ ld P 64 r4.1 r9.2 = some (r5.1, r9.2) ∧ fa P 69 (e 1) 1 r9.2 = some (r4.1, r9.2) ∧ True ∧ True ∧ True) <|
 (bo P .add 9 (.tmp 11) (.const (Go.Value.string { data := #[32] })) r9.1 (Go.Value.string { data := #[32] }) r9.2).bind fun r10 =>
 ifP (r10.2 = r9.2) <|
 (EV P 161 #[r5.1] r9.2).bind fun r11 =>
 ifP (bo P .add 9 (.tmp 11) (.const (Go.Value.string { data := #[32] })) r9.1 (Go.Value.string { data := #[32] }) r11.2 = some (r10.1, r11.2) ∧ ld P 62 r6.1 r11.2 = some (r7.1, r11.2) ∧ fa P 69 (e 1) 2 r11.2 = some (r6.1, r11.2) ∧ True ∧ True ∧ True ∧ True ∧ True) <|
 (bo P .add 9 (.tmp 12) (.tmp 15) r10.1 r11.1 r11.2).bind fun r12 =>
 ifP (r12.2 = r11.2) <|
 (EV P 162 #[r7.1] r11.2).bind fun r13 =>
 ifP (bo P .add 9 (.tmp 12) (.tmp 15) r10.1 r11.1 r13.2 = some (r12.1, r13.2) ∧ bo P .add 9 (.tmp 11) (.const (Go.Value.string { data := #[32] })) r9.1 (Go.Value.string { data := #[32] }) r13.2 = some (r10.1, r13.2) ∧ True ∧ True ∧ True ∧ True ∧ True ∧ True ∧ True) <|
 (bo P .add 9 (.tmp 16) (.tmp 19) r12.1 r13.1 r13.2).bind fun r14 =>
 ifP (r14.2 = r13.2) <|
 (bo P .add 9 (.tmp 20) (.const (Go.Value.string { data := #[32] })) r14.1 (Go.Value.string { data := #[32] }) r13.2).bind fun r15 =>
 ifP (r15.2 = r13.2) <|
 (bo P .add 9 (.tmp 21) (.tmp 22) r15.1 r8.1 r13.2).bind fun r16 =>
 ifP (r16.2 = r13.2) <|
 (vl r16.1 r13.2).bind fun r17 =>
 ifP (r17.2 = r13.2) <|
 some (r17.1, r13.2) := by kernel_rfl
theorem spec_l2Put_fn (x0 : Value) (w : World) : fnC P (EV P) 159 #[x0] w =
 (bx P 69 x0 w).bind fun r1 =>
 (vl (Go.Value.string { data := #[] }) r1.2).bind fun r2 =>
 (fa P 69 r1.1 3 r2.2).bind fun r3 =>
 (ld P 9 r3.1 r3.2).bind fun r4 =>
 (bo P .add 9 (.const (Go.Value.string { data := #[61] })) (.tmp 5) (Go.Value.string { data := #[61] }) r4.1 r4.2).bind fun r5 =>
 (vl r5.1 r5.2).bind fun r6 =>
 (fa P 69 r1.1 4 r6.2).bind fun r7 =>
 (ld P 4 r7.1 r7.2).bind fun r8 =>
 cnd r8.1 (
 (vl (Go.Value.string { data := #[45] }) r8.2).bind fun r9 =>
 spec_l2Put_j1 (ups (env0 #[x0]) [(1, r1.1), (2, r2.1), (4, r3.1), (5, r4.1), (6, r5.1), (3, r6.1), (7, r7.1), (8, r8.1), (3, r9.1)]) r9.2) (
 spec_l2Put_j1 (ups (env0 #[x0]) [(1, r1.1), (2, r2.1), (4, r3.1), (5, r4.1), (6, r5.1), (3, r6.1), (7, r7.1), (8, r8.1)]) r8.2) := by kernel_rfl
noncomputable def spec_l1Dec_a1 (e : Env) (w : World) : Option (Value × World) := exC P (EV P) 160 28 (cA (cB (cB (cB (cB (bodyOf P 160)))))) e w (kSeq P (EV P) 160 28 (cB (cB (cB (cB (cB (bodyOf P 160)))))) (kFn P (fnOf P 160)))
noncomputable def spec_l1Dec_j1 (e : Env) (w : World) : Option (Value × World) := exC P (EV P) 160 28 (cB (cB (cB (cB (cB (bodyOf P 160)))))) e w (kFn P (fnOf P 160))
theorem spec_l1Dec_a1_any (e : Env) (w : World) {Q : Value × World → Prop} (h :
 (Ret (vl (e 0) (dw w)) fun r1 => r1.2 = (dw w) ∧
 (Ret (bo P .quo 3 (.tmp 18) (.const (.int .i64 10)) r1.1 (.int .i64 10) (dw w)) fun r2 => r2.2 = (dw w) ∧
 (Ret (vl (e 0) (dw w)) fun r3 => r3.2 = (dw w) ∧
 (Ret (bo P .rem 3 (.tmp 21) (.const (.int .i64 10)) r3.1 (.int .i64 10) (dw w)) fun r4 => r4.2 = (dw w) ∧
 (Ret (bo P .add 3 (.const (.int .i64 48)) (.tmp 22) (.int .i64 48) r4.1 (dw w)) fun r5 => r5.2 = (dw w) ∧
 (Ret (cv P 3 5 r5.1 (dw w)) fun r6 => r6.2 = (dw w) ∧
 ((Ret (EV P 160 #[r2.1] (dw w)) fun r7 => (cv P 3 5 r5.1 r7.2 = some (r6.1, r7.2) ∧ bo P .add 3 (.const (.int .i64 48)) (.tmp 22) (.int .i64 48) r4.1 r7.2 = some (r5.1, r7.2) ∧ bo P .rem 3 (.tmp 21) (.const (.int .i64 10)) r3.1 (.int .i64 10) r7.2 = some (r4.1, r7.2) ∧ True ∧ True) ∧
 ((Ret (bs P 22 1 #[(0, r6.1)] r7.2) fun r8 => (True ∧ True ∧ True ∧ bo P .quo 3 (.tmp 18) (.const (.int .i64 10)) r1.1 (.int .i64 10) r8.2 = some (r2.1, r8.2) ∧ True) ∧
 (Ret (cv P 22 9 r8.1 r8.2) fun r9 => r9.2 = r8.2 ∧
 (Ret (bo P .add 9 (.tmp 20) (.tmp 26) r7.1 r9.1 r8.2) fun r10 => r10.2 = r8.2 ∧
 (Ret (vl r10.1 r8.2) fun r11 => r11.2 = r8.2 ∧
 Ret (spec_l1Dec_j1 (ups e [(18, r1.1), (19, r2.1), (21, r3.1), (22, r4.1), (23, r5.1), (24, r6.1), (20, r7.1), (25, r8.1), (26, r9.1), (27, r10.1), (2, r11.1)]) r8.2) Q)))))) ∧
 (Ret (bs P 22 1 #[(0, r6.1)] (dw w)) fun r12 => (True ∧ True ∧ True ∧ bo P .quo 3 (.tmp 18) (.const (.int .i64 10)) r1.1 (.int .i64 10) r12.2 = some (r2.1, r12.2) ∧ True) ∧
 (Ret (cv P 22 9 r12.1 r12.2) fun r13 => r13.2 = r12.2 ∧
 ((Ret (EV P 160 #[r2.1] r12.2) fun r14 => (cv P 22 9 r12.1 r14.2 = some (r13.1, r14.2) ∧ cv P 3 5 r5.1 r14.2 = some (r6.1, r14.2) ∧ bo P .add 3 (.const (.int .i64 48)) (.tmp 22) (.int .i64 48) r4.1 r14.2 = some (r5.1, r14.2) ∧ bo P .rem 3 (.tmp 21) (.const (.int .i64 10)) r3.1 (.int .i64 10) r14.2 = some (r4.1, r14.2) ∧ True ∧ True) ∧
 (Ret (bo P .add 9 (.tmp 20) (.tmp 26) r14.1 r13.1 r14.2) fun r15 => r15.2 = r14.2 ∧
 (Ret (vl r15.1 r14.2) fun r16 => r16.2 = r14.2 ∧
 Ret (spec_l1Dec_j1 (ups e [(18, r1.1), (19, r2.1), (21, r3.1), (22, r4.1), (23, r5.1), (24, r6.1), (25, r12.1), (26, r13.1), (20, r14.1), (27, r15.1), (2, r16.1)]) r14.2) Q)))))))))))))) : Ret (spec_l1Dec_a1 e w) Q := exC_any (id := 7) (ops := opsOf (cA (cB (cB (cB (cB (bodyOf P 160))))))) (by kernel_rfl) (by kernel_rfl) (Eq.mpr (by kernel_rfl) h)
theorem spec_l1Dec_j1_eq (e : Env) (w : World) : spec_l1Dec_j1 e w =
 some ((e 2), w) := by kernel_rfl
theorem spec_l1Dec_fn (x0 : Value) (w : World) : fnC P (EV P) 160 #[x0] w =
 (vl (Go.Value.string { data := #[] }) w).bind fun r1 =>
 (vl x0 r1.2).bind fun r2 =>
 (bo P .lss 3 (.tmp 3) (.const (.int .i64 (-9223372036854775807))) r2.1 (.int .i64 (-9223372036854775807)) r2.2).bind fun r3 =>
 cnd r3.1 (
 (vl (Go.Value.string { data := #[45, 57, 50, 50, 51, 51, 55, 50, 48, 51, 54, 56, 53, 52, 55, 55, 53, 56, 48, 56] }) r3.2).bind fun r4 =>
 some (r4.1, r4.2)) (
 (vl x0 r3.2).bind fun r5 =>
 (bo P .lss 3 (.tmp 5) (.const (.int .i64 0)) r5.1 (.int .i64 0) r5.2).bind fun r6 =>
 cnd r6.1 (
 (vl x0 r6.2).bind fun r7 =>
 (uo P .neg r7.1 r7.2).bind fun r8 =>
 (EV P 160 #[r8.1] r8.2).bind fun r9 =>
 (bo P .add 9 (.const (Go.Value.string { data := #[45] })) (.tmp 9) (Go.Value.string { data := #[45] }) r9.1 r9.2).bind fun r10 =>
 (vl r10.1 r10.2).bind fun r11 =>
 some (r11.1, r11.2)) (
 (vl x0 r6.2).bind fun r12 =>
 (bo P .lss 3 (.tmp 11) (.const (.int .i64 10)) r12.1 (.int .i64 10) r12.2).bind fun r13 =>
 cnd r13.1 (
 (vl x0 r13.2).bind fun r14 =>
 (bo P .add 3 (.const (.int .i64 48)) (.tmp 13) (.int .i64 48) r14.1 r14.2).bind fun r15 =>
 (cv P 3 5 r15.1 r15.2).bind fun r16 =>
 (bs P 22 1 #[(0, r16.1)] r16.2).bind fun r17 =>
 (cv P 22 9 r17.1 r17.2).bind fun r18 =>
 (vl r18.1 r18.2).bind fun r19 =>
 some (r19.1, r19.2)) (
 spec_l1Dec_a1 (ups (env0 #[x0]) [(2, r1.1), (3, r2.1), (4, r3.1), (5, r5.1), (6, r6.1), (11, r12.1), (12, r13.1)]) r13.2))) := by kernel_rfl
theorem spec_l1Put_fn (x0 : Value) (w : World) : fnC P (EV P) 161 #[x0] w =
 (bx P 64 x0 w).bind fun r1 =>
 (vl (Go.Value.string { data := #[] }) r1.2).bind fun r2 =>
 (fa P 64 r1.1 0 (dw r2.2)).bind fun r4 =>
 ifP (r4.2 = (dw r2.2)) <|
 (ld P 3 r4.1 (dw r2.2)).bind fun r5 =>
 ifP (r5.2 = (dw r2.2)) <|
 (fa P 64 r1.1 1 (dw r2.2)).bind fun r6 =>
 ifP (r6.2 = (dw r2.2)) <|
 (ld P 3 r6.1 (dw r2.2)).bind fun r7 =>
 ifP (r7.2 = (dw r2.2)) <|
 (EV P 160 #[r5.1] (dw r2.2)).bind fun r8 =>
 ifP (ld P 3 r6.1 r8.2 = some (r7.1, r8.2) ∧ fa P 64 r1.1 1 r8.2 = some (r6.1, r8.2) ∧ True ∧ True ∧ True) <|
 (bo P .add 9 (.tmp 5) (.const (Go.Value.string { data := #[46] })) r8.1 (Go.Value.string { data := #[46] }) r8.2).bind fun r9 =>
 ifP (r9.2 = r8.2) <|
 (EV P 160 #[r7.1] r8.2).bind fun r10 =>
 ifP (bo P .add 9 (.tmp 5) (.const (Go.Value.string { data := #[46] })) r8.1 (Go.Value.string { data := #[46] }) r10.2 = some (r9.1, r10.2) ∧ True ∧ True ∧ True ∧ True ∧ True) <|
 (bo P .add 9 (.tmp 6) (.tmp 9) r9.1 r10.1 r10.2).bind fun r11 =>
 ifP (r11.2 = r10.2) <|
 (vl r11.1 r10.2).bind fun r12 =>
 ifP (r12.2 = r10.2) <|
 some (r12.1, r10.2) := by kernel_rfl
noncomputable def spec_l2Past_l1 (e : Env) (w : World) : Option (Value × World) := exC P (EV P) 162 22 (.loop (cA (cA (cB (cA (cB (cB (bodyOf P 162)))))))) e w (kBlock 0 (kSeq P (EV P) 162 22 (cB (cB (cB (bodyOf P 162)))) (kFn P (fnOf P 162))))
theorem spec_l2Past_l1_eq (e : Env) (w : World) : spec_l2Past_l1 e w =
 (vl (e 4) w).bind fun r1 =>
 (fa P 62 (e 1) 0 r1.2).bind fun r2 =>
 (ld P 60 r2.1 r2.2).bind fun r3 =>
 (b_len P #[60] 3 #[r3.1] r3.2).bind fun r4 =>
 (bo P .lss 3 (.tmp 5) (.tmp 8) r1.1 r4.1 r4.2).bind fun r5 =>
 cnd r5.1 (
 (vl (e 3) r5.2).bind fun r6 =>
 (bo P .add 9 (.tmp 12) (.const (Go.Value.string { data := #[32] })) r6.1 (Go.Value.string { data := #[32] }) r6.2).bind fun r7 =>
 (fa P 62 (e 1) 0 r7.2).bind fun r8 =>
 (ld P 60 r8.1 r8.2).bind fun r9 =>
 (vl (e 4) r9.2).bind fun r10 =>
 (ia P 60 r9.1 r10.1 r10.2).bind fun r11 =>
 (ld P 64 r11.1 r11.2).bind fun r12 =>
 (EV P 161 #[r12.1] r12.2).bind fun r13 =>
 (bo P .add 9 (.tmp 13) (.tmp 19) r7.1 r13.1 r13.2).bind fun r14 =>
 (vl r14.1 r14.2).bind fun r15 =>
 (vl (e 4) r15.2).bind fun r16 =>
 (bo P .add 3 (.tmp 10) (.const (.int .i64 1)) r16.1 (.int .i64 1) r16.2).bind fun r17 =>
 (vl r17.1 r17.2).bind fun r18 =>
 spec_l2Past_l1 (ups e [(5, r1.1), (6, r2.1), (7, r3.1), (8, r4.1), (9, r5.1), (12, r6.1), (13, r7.1), (14, r8.1), (15, r9.1), (16, r10.1), (17, r11.1), (18, r12.1), (19, r13.1), (20, r14.1), (3, r15.1), (10, r16.1), (11, r17.1), (4, r18.1)]) r18.2) (
 (vl (e 3) r5.2).bind fun r19 =>
 (vl r19.1 r19.2).bind fun r20 =>
 some (r20.1, r20.2)) := (exC_loop P (EV P) 162 22 (cA (cA (cB (cA (cB (cB (bodyOf P 162))))))) e w (kBlock 0 (kSeq P (EV P) 162 22 (cB (cB (cB (bodyOf P 162)))) (kFn P (fnOf P 162))))).trans (by kernel_rfl)
theorem spec_l2Past_fn (x0 : Value) (w : World) : fnC P (EV P) 162 #[x0] w =
 (bx P 62 x0 w).bind fun r1 =>
 (vl (Go.Value.string { data := #[] }) r1.2).bind fun r2 =>
 (vl (Go.Value.string { data := #[] }) r2.2).bind fun r3 =>
 (vl (.int .i64 0) r3.2).bind fun r4 =>
 spec_l2Past_l1 (ups (env0 #[x0]) [(1, r1.1), (2, r2.1), (3, r3.1), (4, r4.1)]) r4.2 := by kernel_rfl
end Go.Proofs.YtggmfmanpjcjkaaGreat.X
