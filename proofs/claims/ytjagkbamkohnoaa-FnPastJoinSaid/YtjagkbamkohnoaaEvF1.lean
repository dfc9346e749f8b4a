/- A part of the proof: an evaluator of the model, its laws, and contracts of functions; no condition. -/
import Derived.Test.YtjagkbamkohnoaaEvT
set_option linter.unusedVariables false
set_option maxRecDepth 100000
namespace Go.Proofs.Ytjagkbamkohnoaa.X
open Go Go.Ev
noncomputable def laws_cfPast_l1 (e : Env) (w : World) : Option (Value × World) := exC P (EV P) 29 31 (.loop (cA (cA (cB (cA (cB (cB (bodyOf P 29)))))))) e w (kBlock 0 (kSeq P (EV P) 29 31 (cB (cB (cB (bodyOf P 29)))) (kFn P (fnOf P 29))))
theorem laws_cfPast_l1_eq (e : Env) (w : World) : laws_cfPast_l1 e w =
 (vl (e 5) w).bind fun r1 =>
 (fa P 30 (e 2) 0 r1.2).bind fun r2 =>
 (ld P 28 r2.1 r2.2).bind fun r3 =>
 (b_len P #[28] 3 #[r3.1] r3.2).bind fun r4 =>
 (bo P .lss 3 (.tmp 13) (.tmp 16) r1.1 r4.1 r4.2).bind fun r5 =>
 cnd r5.1 (
 (fa P 30 (e 2) 0 (dw r5.2)).bind fun r7 =>
 ifP (r7.2 = (dw r5.2)) <|
 (ld P 28 r7.1 (dw r5.2)).bind fun r8 =>
 ifP (r8.2 = (dw r5.2)) <|
 (vl (e 5) (dw r5.2)).bind fun r9 =>
 ifP (r9.2 = (dw r5.2)) <|
 (ia P 28 r8.1 r9.1 (dw r5.2)).bind fun r10 =>
 ifP (r10.2 = (dw r5.2)) <|
 (ld P 27 r10.1 (dw r5.2)).bind fun r11 =>
 ifP (r11.2 = (dw r5.2)) <|
 (fa P 30 (e 3) 0 (dw r5.2)).bind fun r12 =>
 ifP (r12.2 = (dw r5.2)) <|
 (ld P 28 r12.1 (dw r5.2)).bind fun r13 =>
 ifP (r13.2 = (dw r5.2)) <|
 (vl (e 5) (dw r5.2)).bind fun r14 =>
 ifP (r14.2 = (dw r5.2)) <|
 (ia P 28 r13.1 r14.1 (dw r5.2)).bind fun r15 =>
 ifP (r15.2 = (dw r5.2)) <|
 (ld P 27 r15.1 (dw r5.2)).bind fun r16 =>
 ifP (r16.2 = (dw r5.2)) <|
 (bo P .neq 27 (.tmp 24) (.tmp 29) r11.1 r16.1 (dw r5.2)).bind fun r17 =>
 ifP (r17.2 = (dw r5.2)) <|
 cnd r17.1 (
 (vl (.bool false) (dw r5.2)).bind fun r18 =>
 some (r18.1, r18.2)) (
 (vl (e 5) (dw r5.2)).bind fun r19 =>
 (bo P .add 3 (.tmp 18) (.const (.int .i64 1)) r19.1 (.int .i64 1) r19.2).bind fun r20 =>
 (vl r20.1 r20.2).bind fun r21 =>
 laws_cfPast_l1 (ups e [(13, r1.1), (14, r2.1), (15, r3.1), (16, r4.1), (17, r5.1), (20, r7.1), (21, r8.1), (22, r9.1), (23, r10.1), (24, r11.1), (25, r12.1), (26, r13.1), (27, r14.1), (28, r15.1), (29, r16.1), (30, r17.1), (18, r19.1), (19, r20.1), (5, r21.1)]) r21.2)) (
 (vl (.bool true) r5.2).bind fun r22 =>
 some (r22.1, r22.2)) := (exC_loop P (EV P) 29 31 (cA (cA (cB (cA (cB (cB (bodyOf P 29))))))) e w (kBlock 0 (kSeq P (EV P) 29 31 (cB (cB (cB (bodyOf P 29)))) (kFn P (fnOf P 29))))).trans (by kernel_rfl)
theorem laws_cfPast_fn (x0 x1 : Value) (w : World) : fnC P (EV P) 29 #[x0, x1] w =
 (bx P 30 x0 w).bind fun r1 =>
 (bx P 30 x1 r1.2).bind fun r2 =>
 (vl (.bool false) r2.2).bind fun r3 =>
 (fa P 30 r1.1 0 r3.2).bind fun r4 =>
 (ld P 28 r4.1 r4.2).bind fun r5 =>
 (b_len P #[28] 3 #[r5.1] r5.2).bind fun r6 =>
 (fa P 30 r2.1 0 r6.2).bind fun r7 =>
 (ld P 28 r7.1 r7.2).bind fun r8 =>
 (b_len P #[28] 3 #[r8.1] r8.2).bind fun r9 =>
 (bo P .neq 3 (.tmp 8) (.tmp 11) r6.1 r9.1 r9.2).bind fun r10 =>
 cnd r10.1 (
 (vl (.bool false) r10.2).bind fun r11 =>
 some (r11.1, r11.2)) (
 (vl (.int .i64 0) r10.2).bind fun r12 =>
 laws_cfPast_l1 (ups (env0 #[x0, x1]) [(2, r1.1), (3, r2.1), (4, r3.1), (6, r4.1), (7, r5.1), (8, r6.1), (9, r7.1), (10, r8.1), (11, r9.1), (12, r10.1), (5, r12.1)]) r12.2) := by kernel_rfl
theorem impl_PastJoin_fn (x0 x1 : Value) (w : World) : fnC P (EV P) 30 #[x0, x1] w =
 (bx P 30 x0 w).bind fun r1 =>
 (bx P 30 x1 r1.2).bind fun r2 =>
 (al P 30 r2.2).bind fun r3 =>
 (ld P 30 r1.1 r3.2).bind fun r4 =>
 (EV P 34 #[r4.1] r4.2).bind fun r5 =>
 (uo P .not r5.1 r5.2).bind fun r6 =>
 (vl r6.1 r6.2).bind fun r7 =>
 (gif r7.1 false (ld P 30 r2.1 r7.2) r7.2).bind fun r8 =>
 (gif r7.1 false (EV P 34 #[r8.1] r8.2) r8.2).bind fun r9 =>
 (gif r7.1 false (uo P .not r9.1 r9.2) r9.2).bind fun r10 =>
 (pickV r7.1 (.bool true) r10.1 r10.2).bind fun r11 =>
 cnd r11.1 (
 (bd P 30 #[] r11.2).bind fun r12 =>
 (st P 30 r3.1 r12.1 r12.2).bind fun r13 =>
 ((ld P 30 r3.1 r13.2).bind fun r14 => ifP (r14.2 = r13.2) (some r14.1)).bind fun v15 =>
 some (v15, r13.2)) (
 (ld P 30 r1.1 r11.2).bind fun r16 =>
 (ld P 30 r2.1 r16.2).bind fun r17 =>
 (EV P 74 #[r16.1, r17.1] r17.2).bind fun r18 =>
 (st P 30 r3.1 r18.1 r18.2).bind fun r19 =>
 ((ld P 30 r3.1 r19.2).bind fun r20 => ifP (r20.2 = r19.2) (some r20.1)).bind fun v21 =>
 some (v21, r19.2)) := by kernel_rfl
theorem spec_DrawPastJoin_fn (x0 : Value) (w : World) : fnC P (EV P) 32 #[x0] w =
 (al P 30 w).bind fun r1 =>
 (al P 30 r1.2).bind fun r2 =>
 (vl x0 r2.2).bind fun r3 =>
 (EV P 38 #[r3.1] r3.2).bind fun r4 =>
 (vl r4.1 r4.2).bind fun r5 =>
 (vl r5.1 r5.2).bind fun r6 =>
 (EV P 75 #[r6.1] r6.2).bind fun r7 =>
 (al P 30 r7.2).bind fun r8 =>
 (st P 30 r8.1 r7.1 r8.2).bind fun r9 =>
 (ld P 30 r8.1 (dw r9.2)).bind fun r11 =>
 ifP (r11.2 = (dw r9.2)) <|
 (vl r5.1 (dw r9.2)).bind fun r12 =>
 ifP (r12.2 = (dw r9.2)) <|
 (EV P 75 #[r12.1] (dw r9.2)).bind fun r13 =>
 ifP (ld P 30 r8.1 r13.2 = some (r11.1, r13.2) ∧ True) <|
 (st P 30 r1.1 r11.1 r13.2).bind fun r14 =>
 ifP (True ∧ True) <|
 (st P 30 r2.1 r13.1 r14.2).bind fun r15 =>
 ifP (True ∧ True) <|
 ((ld P 30 r1.1 r15.2).bind fun r16 => ifP (r16.2 = r15.2) (some r16.1)).bind fun v17 =>
 ((ld P 30 r2.1 r15.2).bind fun r18 => ifP (r18.2 = r15.2) (some r18.1)).bind fun v19 =>
 some (.tuple #[v17, v19], r15.2) := by kernel_rfl
theorem spec_PastJoin_fn (x0 x1 : Value) (w : World) : fnC P (EV P) 33 #[x0, x1] w =
 (bx P 30 x0 w).bind fun r1 =>
 (bx P 30 x1 r1.2).bind fun r2 =>
 (al P 30 r2.2).bind fun r3 =>
 (ld P 30 r1.1 r3.2).bind fun r4 =>
 (EV P 76 #[r4.1] r4.2).bind fun r5 =>
 (uo P .not r5.1 r5.2).bind fun r6 =>
 (vl r6.1 r6.2).bind fun r7 =>
 (gif r7.1 false (ld P 30 r2.1 r7.2) r7.2).bind fun r8 =>
 (gif r7.1 false (EV P 76 #[r8.1] r8.2) r8.2).bind fun r9 =>
 (gif r7.1 false (uo P .not r9.1 r9.2) r9.2).bind fun r10 =>
 (pickV r7.1 (.bool true) r10.1 r10.2).bind fun r11 =>
 cnd r11.1 (
 (bd P 30 #[] r11.2).bind fun r12 =>
 (st P 30 r3.1 r12.1 r12.2).bind fun r13 =>
 ((ld P 30 r3.1 r13.2).bind fun r14 => ifP (r14.2 = r13.2) (some r14.1)).bind fun v15 =>
 some (v15, r13.2)) (
 (ld P 30 r1.1 r11.2).bind fun r16 =>
 (ld P 30 r2.1 r16.2).bind fun r17 =>
 (EV P 77 #[r16.1, r17.1] r17.2).bind fun r18 =>
 (st P 30 r3.1 r18.1 r18.2).bind fun r19 =>
 ((ld P 30 r3.1 r19.2).bind fun r20 => ifP (r20.2 = r19.2) (some r20.1)).bind fun v21 =>
 some (v21, r19.2)) := by kernel_rfl
theorem impl_PastOk_fn (x0 : Value) (w : World) : fnC P (EV P) 34 #[x0] w =
 (bx P 30 x0 w).bind fun r1 =>
 (vl (.bool false) r1.2).bind fun r2 =>
 (fa P 30 r1.1 0 r2.2).bind fun r3 =>
 (ld P 28 r3.1 r3.2).bind fun r4 =>
 (b_len P #[28] 3 #[r4.1] r4.2).bind fun r5 =>
 (bo P .eql 3 (.tmp 5) (.const (.int .i64 4)) r5.1 (.int .i64 4) r5.2).bind fun r6 =>
 (vl r6.1 r6.2).bind fun r7 =>
 (gif r7.1 true (fa P 30 r1.1 0 r7.2) r7.2).bind fun r8 =>
 (gif r7.1 true (ld P 28 r8.1 r8.2) r8.2).bind fun r9 =>
 (gif r7.1 true (EV P 78 #[r9.1, (.func (.func 79) #[] #[])] r9.2) r9.2).bind fun r10 =>
 (gif r7.1 true (uo P .not r10.1 r10.2) r10.2).bind fun r11 =>
 (pickV r7.1 r11.1 (.bool false) r11.2).bind fun r12 =>
 (vl r12.1 r12.2).bind fun r13 =>
 some (r13.1, r13.2) := by kernel_rfl
theorem spec_PastOk_fn (x0 : Value) (w : World) : fnC P (EV P) 35 #[x0] w =
 (bx P 30 x0 w).bind fun r1 =>
 (vl (.bool false) r1.2).bind fun r2 =>
 (ld P 30 r1.1 r2.2).bind fun r3 =>
 (EV P 76 #[r3.1] r3.2).bind fun r4 =>
 (vl r4.1 r4.2).bind fun r5 =>
 some (r5.1, r5.2) := by kernel_rfl
theorem impl_PastWithin_fn (x0 x1 : Value) (w : World) : fnC P (EV P) 36 #[x0, x1] w =
 (bx P 30 x0 w).bind fun r1 =>
 (bx P 30 x1 r1.2).bind fun r2 =>
 (vl (.bool false) r2.2).bind fun r3 =>
 (ld P 30 r1.1 r3.2).bind fun r4 =>
 (EV P 34 #[r4.1] r4.2).bind fun r5 =>
 (vl r5.1 r5.2).bind fun r6 =>
 (gif r6.1 true (ld P 30 r2.1 r6.2) r6.2).bind fun r7 =>
 (gif r6.1 true (EV P 34 #[r7.1] r7.2) r7.2).bind fun r8 =>
 (pickV r6.1 r8.1 (.bool false) r8.2).bind fun r9 =>
 (vl r9.1 r9.2).bind fun r10 =>
 (gif r10.1 true (ld P 30 r1.1 r10.2) r10.2).bind fun r11 =>
 (gif r10.1 true (ld P 30 r2.1 r11.2) r11.2).bind fun r12 =>
 (gif r10.1 true (EV P 80 #[r11.1, r12.1] r12.2) r12.2).bind fun r13 =>
 (pickV r10.1 r13.1 (.bool false) r13.2).bind fun r14 =>
 (vl r14.1 r14.2).bind fun r15 =>
 some (r15.1, r15.2) := by kernel_rfl
theorem impl_PastNone_fn (w : World) : fnC P (EV P) 37 #[] w =
 (al P 30 w).bind fun r1 =>
 (ms P 28 (.int .i64 4) (.int .i64 4) r1.2).bind fun r2 =>
 (bd P 30 #[(0, r2.1)] r2.2).bind fun r3 =>
 (st P 30 r1.1 r3.1 r3.2).bind fun r4 =>
 ((ld P 30 r1.1 r4.2).bind fun r5 => ifP (r5.2 = r4.2) (some r5.1)).bind fun v6 =>
 some (v6, r4.2) := by kernel_rfl
noncomputable def spec_l20Open_j1 (e : Env) (w : World) : Option (Value × World) := exC P (EV P) 38 11 (cB (cB (bodyOf P 38))) e w (kFn P (fnOf P 38))
theorem spec_l20Open_j1_eq (e : Env) (w : World) : spec_l20Open_j1 e w =
 (vl (e 0) w).bind fun r1 =>
 (bd P 95 #[(0, r1.1)] r1.2).bind fun r2 =>
 (bx P 95 r2.1 r2.2).bind fun r3 =>
 (vl r3.1 r3.2).bind fun r4 =>
 some (r4.1, r4.2) := by kernel_rfl
theorem spec_l20Open_fn (x0 : Value) (w : World) : fnC P (EV P) 38 #[x0] w =
 (vl (Go.Value.pointer none) w).bind fun r1 =>
 (vl x0 r1.2).bind fun r2 =>
 (b_len P #[22] 3 #[r2.1] r2.2).bind fun r3 =>
 (bo P .gtr 3 (.tmp 4) (.const (.int .i64 2000)) r3.1 (.int .i64 2000) r3.2).bind fun r4 =>
 cnd r4.1 (
 (vl x0 r4.2).bind fun r5 =>
 (sl P 22 r5.1 none (some (.int .i64 2000)) none r5.2).bind fun r6 =>
 (vl r6.1 r6.2).bind fun r7 =>
 spec_l20Open_j1 (ups (env0 #[x0]) [(2, r1.1), (3, r2.1), (4, r3.1), (5, r4.1), (6, r5.1), (7, r6.1), (0, r7.1)]) r7.2) (
 spec_l20Open_j1 (ups (env0 #[x0]) [(2, r1.1), (3, r2.1), (4, r3.1), (5, r4.1)]) r4.2) := by kernel_rfl
theorem impl_TagOk_fn (x0 : Value) (w : World) : fnC P (EV P) 56 #[x0] w =
 (bx P 27 x0 w).bind fun r1 =>
 (vl (.bool false) r1.2).bind fun r2 =>
 (ld P 27 r1.1 r2.2).bind fun r3 =>
 (bd P 27 #[] r3.2).bind fun r4 =>
 (bo P .eql 27 (.tmp 3) (.tmp 4) r3.1 r4.1 r4.2).bind fun r5 =>
 (vl r5.1 r5.2).bind fun r6 =>
 (gif r6.1 false (fa P 27 r1.1 0 r6.2) r6.2).bind fun r7 =>
 (gif r6.1 false (ld P 3 r7.1 r7.2) r7.2).bind fun r8 =>
 (gif r6.1 false (EV P 95 #[r8.1, (.int .i64 1), (.int .i64 999)] r8.2) r8.2).bind fun r9 =>
 (gif r6.1 false (vl r9.1 r9.2) r9.2).bind fun r10 =>
 (gif r10.1 true (fa P 27 r1.1 1 r10.2) r10.2).bind fun r11 =>
 (gif r10.1 true (ld P 3 r11.1 r11.2) r11.2).bind fun r12 =>
 (gif r10.1 true (EV P 100 #[r12.1] r12.2) r12.2).bind fun r13 =>
 (gif r6.1 false (pickV r10.1 r13.1 (.bool false) r13.2) r13.2).bind fun r14 =>
 (pickV r6.1 (.bool true) r14.1 r14.2).bind fun r15 =>
 (vl r15.1 r15.2).bind fun r16 =>
 some (r16.1, r16.2) := by kernel_rfl
theorem spec_l20Rd_one_fn (x0 x1 : Value) (w : World) : fnC P (EV P) 62 #[x0, x1] w =
 (vl (.int .i64 0) w).bind fun r1 =>
 (vl x1 r1.2).bind fun r2 =>
 (vl x0 r2.2).bind fun r3 =>
 (vl x1 r3.2).bind fun r4 =>
 (b_len P #[85] 3 #[r4.1] r4.2).bind fun r5 =>
 (EV P 82 #[r3.1, r5.1] r5.2).bind fun r6 =>
 (ia P 85 r2.1 r6.1 r6.2).bind fun r7 =>
 (ld P 3 r7.1 r7.2).bind fun r8 =>
 (vl r8.1 r8.2).bind fun r9 =>
 some (r9.1, r9.2) := by kernel_rfl
end Go.Proofs.Ytjagkbamkohnoaa.X
