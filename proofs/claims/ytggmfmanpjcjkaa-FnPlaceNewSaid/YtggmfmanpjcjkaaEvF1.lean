/- A part of the proof: an evaluator of the model, its laws, and contracts of functions; no condition. -/
import Derived.Test.YtggmfmanpjcjkaaEvT
set_option linter.unusedVariables false
set_option maxRecDepth 100000
namespace Go.Proofs.Ytggmfmanpjcjkaa.X
open Go Go.Ev
noncomputable def impl_logOk_l1 (e : Env) (w : World) : Option (Value × World) := exC P (EV P) 46 36 (.loop (cA (cA (cB (cA (cB (bodyOf P 46))))))) e w (kBlock 0 (kSeq P (EV P) 46 36 (cB (cB (bodyOf P 46))) (kFn P (fnOf P 46))))
theorem impl_logOk_l1_eq (e : Env) (w : World) : impl_logOk_l1 e w =
 (bo P .lss 3 (.tmp 9) (.tmp 8) (e 9) (e 8) w).bind fun r1 =>
 cnd r1.1 (
 (vl (e 9) r1.2).bind fun r2 =>
 (ia P 22 (e 7) (e 9) r2.2).bind fun r3 =>
 (ld P 78 r3.1 r3.2).bind fun r4 =>
 (al P 78 r4.2).bind fun r5 =>
 (vl r2.1 r5.2).bind fun r6 =>
 (st P 78 r5.1 r4.1 r6.2).bind fun r7 =>
 (ld P 78 r5.1 (dw r7.2)).bind fun r9 =>
 ifP (r9.2 = (dw r7.2)) <|
 (EV P 80 #[r9.1] (dw r7.2)).bind fun r10 =>
 ifP (True ∧ True) <|
 (uo P .not r10.1 r10.2).bind fun r11 =>
 ifP (r11.2 = r10.2) <|
 (vl r11.1 r10.2).bind fun r12 =>
 ifP (r12.2 = r10.2) <|
 (gif r12.1 false (fa P 78 r5.1 1 r10.2) r10.2).bind fun r13 =>
 ifP (r13.2 = r10.2) <|
 (gif r12.1 false (fa P 76 r13.1 1 r10.2) r10.2).bind fun r14 =>
 ifP (r14.2 = r10.2) <|
 (gif r12.1 false (ld P 3 r14.1 r10.2) r10.2).bind fun r15 =>
 ifP (r15.2 = r10.2) <|
 (gif r12.1 false (vl (e 1) r10.2) r10.2).bind fun r16 =>
 ifP (r16.2 = r10.2) <|
 (gif r12.1 false (bo P .neq 3 (.tmp 20) (.tmp 21) r15.1 r16.1 r10.2) r10.2).bind fun r17 =>
 ifP (r17.2 = r10.2) <|
 (pickV r12.1 (.bool true) r17.1 r10.2).bind fun r18 =>
 ifP (r18.2 = r10.2) <|
 (vl r18.1 r10.2).bind fun r19 =>
 ifP (r19.2 = r10.2) <|
 (gif r19.1 false (vl (e 0) r10.2) r10.2).bind fun r20 =>
 ifP (r20.2 = r10.2) <|
 (gif r19.1 false (vl r6.1 r10.2) r10.2).bind fun r21 =>
 ifP (r21.2 = r10.2) <|
 (gif r19.1 false (sl P 22 r20.1 none (some r21.1) none r10.2) r10.2).bind fun r22 =>
 ifP (r22.2 = r10.2) <|
 (gif r19.1 false (fa P 78 r5.1 1 r10.2) r10.2).bind fun r23 =>
 ifP (r23.2 = r10.2) <|
 (gif r19.1 false (ld P 76 r23.1 r10.2) r10.2).bind fun r24 =>
 ifP (r24.2 = r10.2) <|
 (gif r19.1 false (EV P 83 #[r22.1, r24.1] r10.2) r10.2).bind fun r25 =>
 ifP (True ∧ True ∧ True ∧ True ∧ True ∧ True ∧ True ∧ True ∧ True ∧ True) <|
 (pickV r19.1 (.bool true) r25.1 r25.2).bind fun r26 =>
 ifP (r26.2 = r25.2) <|
 cnd r26.1 (
 (vl (.bool false) r25.2).bind fun r27 =>
 some (r27.1, r27.2)) (
 (bo P .add 3 (.tmp 9) (.const (.int .i64 1)) (e 9) (.int .i64 1) r25.2).bind fun r28 =>
 (vl r28.1 r28.2).bind fun r29 =>
 impl_logOk_l1 (ups e [(10, r1.1), (11, r2.1), (12, r3.1), (13, r4.1), (6, r5.1), (5, r6.1), (14, r9.1), (15, r10.1), (16, r11.1), (17, r12.1), (18, r13.1), (19, r14.1), (20, r15.1), (21, r16.1), (22, r17.1), (23, r18.1), (24, r19.1), (25, r20.1), (26, r21.1), (27, r22.1), (28, r23.1), (29, r24.1), (30, r25.1), (31, r26.1), (32, r28.1), (9, r29.1)]) r29.2)) (
 (vl (e 0) r1.2).bind fun r30 =>
 (b_len P #[22] 3 #[r30.1] r30.2).bind fun r31 =>
 (bo P .leq 3 (.tmp 34) (.const (.int .i64 60)) r31.1 (.int .i64 60) r31.2).bind fun r32 =>
 (vl r32.1 r32.2).bind fun r33 =>
 some (r33.1, r33.2)) := (exC_loop P (EV P) 46 36 (cA (cA (cB (cA (cB (bodyOf P 46)))))) e w (kBlock 0 (kSeq P (EV P) 46 36 (cB (cB (bodyOf P 46))) (kFn P (fnOf P 46))))).trans (by kernel_rfl)
theorem impl_logOk_fn (x0 x1 : Value) (w : World) : fnC P (EV P) 46 #[x0, x1] w =
 (vl (.bool false) w).bind fun r1 =>
 (vl x0 r1.2).bind fun r2 =>
 (b_len P #[22] 3 #[r2.1] r2.2).bind fun r3 =>
 (vl (.int .i64 0) r3.2).bind fun r4 =>
 impl_logOk_l1 (ups (env0 #[x0, x1]) [(4, r1.1), (7, r2.1), (8, r3.1), (9, r4.1)]) r4.2 := by kernel_rfl
theorem impl_Chain_tail_fn (x0 : Value) (w : World) : fnC P (EV P) 47 #[x0] w =
 (al P 24 w).bind fun r1 =>
 (vl x0 (dw r1.2)).bind fun r3 =>
 ifP (r3.2 = (dw r1.2)) <|
 (nk P r3.1 (dw r1.2)).bind fun r4 =>
 ifP (r4.2 = (dw r1.2)) <|
 (fa P 31 r4.1 0 (dw r1.2)).bind fun r5 =>
 ifP (r5.2 = (dw r1.2)) <|
 (ld P 29 r5.1 (dw r1.2)).bind fun r6 =>
 ifP (r6.2 = (dw r1.2)) <|
 (vl x0 (dw r1.2)).bind fun r7 =>
 ifP (r7.2 = (dw r1.2)) <|
 (nk P r7.1 (dw r1.2)).bind fun r8 =>
 ifP (r8.2 = (dw r1.2)) <|
 (fa P 31 r8.1 0 (dw r1.2)).bind fun r9 =>
 ifP (r9.2 = (dw r1.2)) <|
 (ld P 29 r9.1 (dw r1.2)).bind fun r10 =>
 ifP (r10.2 = (dw r1.2)) <|
 (b_len P #[29] 3 #[r10.1] (dw r1.2)).bind fun r11 =>
 ifP (r11.2 = (dw r1.2)) <|
 (bo P .sub 3 (.tmp 11) (.const (.int .i64 1)) r11.1 (.int .i64 1) (dw r1.2)).bind fun r12 =>
 ifP (r12.2 = (dw r1.2)) <|
 (ia P 29 r6.1 r12.1 (dw r1.2)).bind fun r13 =>
 ifP (r13.2 = (dw r1.2)) <|
 (fa P 73 r13.1 0 (dw r1.2)).bind fun r14 =>
 ifP (r14.2 = (dw r1.2)) <|
 (ld P 24 r14.1 (dw r1.2)).bind fun r15 =>
 ifP (r15.2 = (dw r1.2)) <|
 (st P 24 r1.1 r15.1 (dw r1.2)).bind fun r16 =>
 ifP (True ∧ True ∧ True ∧ True ∧ True ∧ True ∧ True ∧ True ∧ True ∧ True ∧ True ∧ True) <|
 ((ld P 24 r1.1 r16.2).bind fun r17 => ifP (r17.2 = r16.2) (some r17.1)).bind fun v18 =>
 some (v18, r16.2) := by kernel_rfl
noncomputable def impl_Store_tags_l1 (e : Env) (w : World) : Option (Value × World) := exC P (EV P) 48 23 (.loop (cA (cA (cB (cA (cB (cB (bodyOf P 48)))))))) e w (kBlock 0 (kSeq P (EV P) 48 23 (cB (cB (cB (bodyOf P 48)))) (kFn P (fnOf P 48))))
theorem impl_Store_tags_l1_eq (e : Env) (w : World) : impl_Store_tags_l1 e w =
 (bo P .lss 3 (.tmp 10) (.tmp 9) (e 10) (e 9) w).bind fun r1 =>
 cnd r1.1 (
 (vl (e 10) r1.2).bind fun r2 =>
 (ia P 22 (e 8) (e 10) r2.2).bind fun r3 =>
 (ld P 78 r3.1 r3.2).bind fun r4 =>
 (al P 78 r4.2).bind fun r5 =>
 (vl r2.1 r5.2).bind fun r6 =>
 (st P 78 r5.1 r4.1 r6.2).bind fun r7 =>
 (fa P 70 (e 3) 0 r7.2).bind fun r8 =>
 (ld P 68 r8.1 r8.2).bind fun r9 =>
 (vl r6.1 r9.2).bind fun r10 =>
 (fa P 78 r5.1 1 r10.2).bind fun r11 =>
 (ld P 76 r11.1 r11.2).bind fun r12 =>
 (ia P 68 r9.1 r10.1 r12.2).bind fun r13 =>
 (st P 76 r13.1 r12.1 r13.2).bind fun r14 =>
 (bo P .add 3 (.tmp 10) (.const (.int .i64 1)) (e 10) (.int .i64 1) r14.2).bind fun r15 =>
 (vl r15.1 r15.2).bind fun r16 =>
 impl_Store_tags_l1 (ups e [(11, r1.1), (12, r2.1), (13, r3.1), (14, r4.1), (5, r5.1), (4, r6.1), (15, r8.1), (16, r9.1), (17, r10.1), (18, r11.1), (19, r12.1), (20, r13.1), (21, r15.1), (10, r16.1)]) r16.2) (
 (ld P 70 (e 3) r1.2).bind fun r17 =>
 (st P 70 (e 2) r17.1 r17.2).bind fun r18 =>
 ((ld P 70 (e 2) r18.2).bind fun r19 => ifP (r19.2 = r18.2) (some r19.1)).bind fun v20 =>
 some (v20, r18.2)) := (exC_loop P (EV P) 48 23 (cA (cA (cB (cA (cB (cB (bodyOf P 48))))))) e w (kBlock 0 (kSeq P (EV P) 48 23 (cB (cB (cB (bodyOf P 48)))) (kFn P (fnOf P 48))))).trans (by kernel_rfl)
theorem impl_Store_tags_fn (x0 : Value) (w : World) : fnC P (EV P) 48 #[x0] w =
 (bx P 24 x0 w).bind fun r1 =>
 (al P 70 r1.2).bind fun r2 =>
 (EV P 84 #[] r2.2).bind fun r3 =>
 (al P 70 r3.2).bind fun r4 =>
 (st P 70 r4.1 r3.1 r4.2).bind fun r5 =>
 (fa P 24 r1.1 0 r5.2).bind fun r6 =>
 (ld P 22 r6.1 r6.2).bind fun r7 =>
 (b_len P #[22] 3 #[r7.1] r7.2).bind fun r8 =>
 (vl (.int .i64 0) r8.2).bind fun r9 =>
 impl_Store_tags_l1 (ups (env0 #[x0]) [(1, r1.1), (2, r2.1), (6, r3.1), (3, r4.1), (7, r6.1), (8, r7.1), (9, r8.1), (10, r9.1)]) r9.2 := by kernel_rfl
noncomputable def slices_Concat_Ver_l1 (e : Env) (w : World) : Option (Value × World) := exC P (EV P) 49 36 (.loop (cA (cA (cB (cA (cB (cB (bodyOf P 49)))))))) e w (kBlock 0 (kSeq P (EV P) 49 36 (cB (cB (cB (bodyOf P 49)))) (kFn P (fnOf P 49))))
noncomputable def slices_Concat_Ver_j1 (e : Env) (w : World) : Option (Value × World) := exC P (EV P) 49 36 (cB (cB (cB (cA (cA (cB (cA (cB (cB (bodyOf P 49)))))))))) e w (kLoop P (EV P) 49 36 (cA (cA (cB (cA (cB (cB (bodyOf P 49))))))) (kBlock 0 (kSeq P (EV P) 49 36 (cB (cB (cB (bodyOf P 49)))) (kFn P (fnOf P 49)))))
noncomputable def slices_Concat_Ver_l2 (e : Env) (w : World) : Option (Value × World) := exC P (EV P) 49 36 (.loop (cA (cA (cB (cA (cB (cB (cB (cB (bodyOf P 49)))))))))) e w (kBlock 2 (kSeq P (EV P) 49 36 (cB (cB (cB (cB (cB (bodyOf P 49)))))) (kFn P (fnOf P 49))))
theorem slices_Concat_Ver_l1_eq (e : Env) (w : World) : slices_Concat_Ver_l1 e w =
 (bo P .lss 3 (.tmp 11) (.tmp 10) (e 11) (e 10) w).bind fun r1 =>
 cnd r1.1 (
 (ia P 32 (e 9) (e 11) r1.2).bind fun r2 =>
 (ld P 22 r2.1 r2.2).bind fun r3 =>
 (vl r3.1 r3.2).bind fun r4 =>
 (vl (e 3) r4.2).bind fun r5 =>
 (vl r4.1 r5.2).bind fun r6 =>
 (b_len P #[22] 3 #[r6.1] r6.2).bind fun r7 =>
 (bo P .add 3 (.tmp 15) (.tmp 17) r5.1 r7.1 r7.2).bind fun r8 =>
 (vl r8.1 r8.2).bind fun r9 =>
 (vl r9.1 r9.2).bind fun r10 =>
 (bo P .lss 3 (.tmp 19) (.const (.int .i64 0)) r10.1 (.int .i64 0) r10.2).bind fun r11 =>
 cnd r11.1 (
 (mi P 9 (Go.Value.string { data := #[108, 101, 110, 32, 111, 117, 116, 32, 111, 102, 32, 114, 97, 110, 103, 101] }) r11.2).bind fun r12 =>
 (gn P { dst := none, op := (Go.Op.panic (Go.Operand.tmp 21)), type := 0, pos := "slices.go:496", after := #[{ on := 0, ground := Go.Ground.data }], guard := none } (ups e [(12, r1.1), (13, r2.1), (14, r3.1), (5, r4.1), (15, r5.1), (16, r6.1), (17, r7.1), (18, r8.1), (3, r9.1), (19, r10.1), (20, r11.1), (21, r12.1)]) r12.2).bind fun r13 =>
 slices_Concat_Ver_j1 (ups e [(12, r1.1), (13, r2.1), (14, r3.1), (5, r4.1), (15, r5.1), (16, r6.1), (17, r7.1), (18, r8.1), (3, r9.1), (19, r10.1), (20, r11.1), (21, r12.1)]) r13.2) (
 slices_Concat_Ver_j1 (ups e [(12, r1.1), (13, r2.1), (14, r3.1), (5, r4.1), (15, r5.1), (16, r6.1), (17, r7.1), (18, r8.1), (3, r9.1), (19, r10.1), (20, r11.1)]) r11.2)) (
 (vl (e 3) r1.2).bind fun r14 =>
 (EV P 85 #[(Go.Value.slice none 0 0), r14.1] r14.2).bind fun r15 =>
 (vl r15.1 r15.2).bind fun r16 =>
 (vl (e 0) r16.2).bind fun r17 =>
 (b_len P #[32] 3 #[r17.1] r17.2).bind fun r18 =>
 (vl (.int .i64 0) r18.2).bind fun r19 =>
 slices_Concat_Ver_l2 (ups e [(12, r1.1), (23, r14.1), (24, r15.1), (6, r16.1), (25, r17.1), (26, r18.1), (27, r19.1)]) r19.2) := (exC_loop P (EV P) 49 36 (cA (cA (cB (cA (cB (cB (bodyOf P 49))))))) e w (kBlock 0 (kSeq P (EV P) 49 36 (cB (cB (cB (bodyOf P 49)))) (kFn P (fnOf P 49))))).trans (by kernel_rfl)
theorem slices_Concat_Ver_j1_eq (e : Env) (w : World) : slices_Concat_Ver_j1 e w =
 (bo P .add 3 (.tmp 11) (.const (.int .i64 1)) (e 11) (.int .i64 1) w).bind fun r1 =>
 (vl r1.1 r1.2).bind fun r2 =>
 slices_Concat_Ver_l1 (ups e [(22, r1.1), (11, r2.1)]) r2.2 := by kernel_rfl
theorem slices_Concat_Ver_l2_eq (e : Env) (w : World) : slices_Concat_Ver_l2 e w =
 (bo P .lss 3 (.tmp 27) (.tmp 26) (e 27) (e 26) w).bind fun r1 =>
 cnd r1.1 (
 (ia P 32 (e 25) (e 27) r1.2).bind fun r2 =>
 (ld P 22 r2.1 r2.2).bind fun r3 =>
 (vl r3.1 r3.2).bind fun r4 =>
 (vl (e 6) r4.2).bind fun r5 =>
 (vl r4.1 r5.2).bind fun r6 =>
 (b_append P #[22, 22] 22 #[r5.1, r6.1] r6.2).bind fun r7 =>
 (vl r7.1 r7.2).bind fun r8 =>
 (bo P .add 3 (.tmp 27) (.const (.int .i64 1)) (e 27) (.int .i64 1) r8.2).bind fun r9 =>
 (vl r9.1 r9.2).bind fun r10 =>
 slices_Concat_Ver_l2 (ups e [(28, r1.1), (29, r2.1), (30, r3.1), (8, r4.1), (31, r5.1), (32, r6.1), (33, r7.1), (6, r8.1), (34, r9.1), (27, r10.1)]) r10.2) (
 (vl (e 6) r1.2).bind fun r11 =>
 (vl r11.1 r11.2).bind fun r12 =>
 some (r12.1, r12.2)) := (exC_loop P (EV P) 49 36 (cA (cA (cB (cA (cB (cB (cB (cB (bodyOf P 49))))))))) e w (kBlock 2 (kSeq P (EV P) 49 36 (cB (cB (cB (cB (cB (bodyOf P 49)))))) (kFn P (fnOf P 49))))).trans (by kernel_rfl)
theorem slices_Concat_Ver_fn (x0 : Value) (w : World) : fnC P (EV P) 49 #[x0] w =
 (vl (Go.Value.slice none 0 0) w).bind fun r1 =>
 (vl (.int .i64 0) r1.2).bind fun r2 =>
 (vl x0 r2.2).bind fun r3 =>
 (b_len P #[32] 3 #[r3.1] r3.2).bind fun r4 =>
 (vl (.int .i64 0) r4.2).bind fun r5 =>
 slices_Concat_Ver_l1 (ups (env0 #[x0]) [(2, r1.1), (3, r2.1), (9, r3.1), (10, r4.1), (11, r5.1)]) r5.2 := by kernel_rfl
noncomputable def impl_Past_under_l1 (e : Env) (w : World) : Option (Value × World) := exC P (EV P) 50 23 (.loop (cA (cA (cB (cA (cB (bodyOf P 50))))))) e w (kBlock 0 (kSeq P (EV P) 50 23 (cB (cB (bodyOf P 50))) (kFn P (fnOf P 50))))
theorem impl_Past_under_l1_eq (e : Env) (w : World) : impl_Past_under_l1 e w =
 (bo P .lss 3 (.tmp 10) (.tmp 9) (e 10) (e 9) w).bind fun r1 =>
 cnd r1.1 (
 (vl (e 10) r1.2).bind fun r2 =>
 (ia P 68 (e 8) (e 10) r2.2).bind fun r3 =>
 (ld P 76 r3.1 r3.2).bind fun r4 =>
 (al P 76 r4.2).bind fun r5 =>
 (vl r2.1 r5.2).bind fun r6 =>
 (st P 76 r5.1 r4.1 r6.2).bind fun r7 =>
 (fa P 70 (e 3) 0 (dw r7.2)).bind fun r9 =>
 ifP (r9.2 = (dw r7.2)) <|
 (ld P 68 r9.1 (dw r7.2)).bind fun r10 =>
 ifP (r10.2 = (dw r7.2)) <|
 (vl r6.1 (dw r7.2)).bind fun r11 =>
 ifP (r11.2 = (dw r7.2)) <|
 (ia P 68 r10.1 r11.1 (dw r7.2)).bind fun r12 =>
 ifP (r12.2 = (dw r7.2)) <|
 (ld P 76 r12.1 (dw r7.2)).bind fun r13 =>
 ifP (r13.2 = (dw r7.2)) <|
 (ld P 76 r5.1 (dw r7.2)).bind fun r14 =>
 ifP (r14.2 = (dw r7.2)) <|
 (EV P 86 #[r13.1, r14.1] (dw r7.2)).bind fun r15 =>
 ifP (True ∧ True ∧ True ∧ True ∧ True ∧ True) <|
 cnd r15.1 (
 (vl (.bool false) r15.2).bind fun r16 =>
 some (r16.1, r16.2)) (
 (bo P .add 3 (.tmp 10) (.const (.int .i64 1)) (e 10) (.int .i64 1) r15.2).bind fun r17 =>
 (vl r17.1 r17.2).bind fun r18 =>
 impl_Past_under_l1 (ups e [(11, r1.1), (12, r2.1), (13, r3.1), (14, r4.1), (6, r5.1), (5, r6.1), (15, r9.1), (16, r10.1), (17, r11.1), (18, r12.1), (19, r13.1), (20, r14.1), (21, r15.1), (22, r17.1), (10, r18.1)]) r18.2)) (
 (vl (.bool true) r1.2).bind fun r19 =>
 some (r19.1, r19.2)) := (exC_loop P (EV P) 50 23 (cA (cA (cB (cA (cB (bodyOf P 50)))))) e w (kBlock 0 (kSeq P (EV P) 50 23 (cB (cB (bodyOf P 50))) (kFn P (fnOf P 50))))).trans (by kernel_rfl)
theorem impl_Past_under_fn (x0 x1 : Value) (w : World) : fnC P (EV P) 50 #[x0, x1] w =
 (bx P 70 x0 w).bind fun r1 =>
 (bx P 70 x1 r1.2).bind fun r2 =>
 (vl (.bool false) r2.2).bind fun r3 =>
 (fa P 70 r1.1 0 r3.2).bind fun r4 =>
 (ld P 68 r4.1 r4.2).bind fun r5 =>
 (b_len P #[68] 3 #[r5.1] r5.2).bind fun r6 =>
 (vl (.int .i64 0) r6.2).bind fun r7 =>
 impl_Past_under_l1 (ups (env0 #[x0, x1]) [(2, r1.1), (3, r2.1), (4, r3.1), (7, r4.1), (8, r5.1), (9, r6.1), (10, r7.1)]) r7.2 := by kernel_rfl
noncomputable def spec_ChainNew_l1 (e : Env) (w : World) : Option (Value × World) := exC P (EV P) 70 23 (.loop (cA (cA (cB (cA (cB (cB (cB (bodyOf P 70))))))))) e w (kBlock 0 (kSeq P (EV P) 70 23 (cB (cB (cB (cB (bodyOf P 70))))) (kFn P (fnOf P 70))))
theorem spec_ChainNew_l1_eq (e : Env) (w : World) : spec_ChainNew_l1 e w =
 (vl (e 4) w).bind fun r1 =>
 (vl (e 0) r1.2).bind fun r2 =>
 (bo P .lss 3 (.tmp 10) (.tmp 11) r1.1 r2.1 r2.2).bind fun r3 =>
 cnd r3.1 (
 (fa P 31 (e 3) 0 (dw r3.2)).bind fun r5 =>
 ifP (r5.2 = (dw r3.2)) <|
 (ld P 29 r5.1 (dw r3.2)).bind fun r6 =>
 ifP (r6.2 = (dw r3.2)) <|
 (EV P 25 #[] (dw r3.2)).bind fun r7 =>
 ifP (ld P 29 r5.1 r7.2 = some (r6.1, r7.2) ∧ fa P 31 (e 3) 0 r7.2 = some (r5.1, r7.2) ∧ True) <|
 (bd P 73 #[(0, r7.1)] r7.2).bind fun r8 =>
 ifP (r8.2 = r7.2) <|
 (bs P 29 1 #[(0, r8.1)] r7.2).bind fun r9 =>
 ifP (True ∧ ld P 29 r5.1 r9.2 = some (r6.1, r9.2) ∧ fa P 31 (e 3) 0 r9.2 = some (r5.1, r9.2) ∧ True) <|
 (b_append P #[29, 29] 29 #[r6.1, r9.1] r9.2).bind fun r10 =>
 ifP (True ∧ True ∧ True ∧ True) <|
 (fa P 31 (e 3) 0 r10.2).bind fun r11 =>
 ifP (r11.2 = r10.2) <|
 (st P 29 r11.1 r10.1 r10.2).bind fun r12 =>
 ifP (True ∧ True ∧ True ∧ True ∧ True) <|
 (vl (e 4) r12.2).bind fun r13 =>
 (bo P .add 3 (.tmp 13) (.const (.int .i64 1)) r13.1 (.int .i64 1) r13.2).bind fun r14 =>
 (vl r14.1 r14.2).bind fun r15 =>
 spec_ChainNew_l1 (ups e [(10, r1.1), (11, r2.1), (12, r3.1), (15, r5.1), (16, r6.1), (17, r7.1), (18, r8.1), (19, r9.1), (20, r10.1), (21, r11.1), (13, r13.1), (14, r14.1), (4, r15.1)]) r15.2) (
 (ld P 31 (e 3) r3.2).bind fun r16 =>
 (st P 31 (e 2) r16.1 r16.2).bind fun r17 =>
 ((ld P 31 (e 2) r17.2).bind fun r18 => ifP (r18.2 = r17.2) (some r18.1)).bind fun v19 =>
 some (v19, r17.2)) := (exC_loop P (EV P) 70 23 (cA (cA (cB (cA (cB (cB (cB (bodyOf P 70)))))))) e w (kBlock 0 (kSeq P (EV P) 70 23 (cB (cB (cB (cB (bodyOf P 70))))) (kFn P (fnOf P 70))))).trans (by kernel_rfl)
theorem spec_ChainNew_fn (x0 : Value) (w : World) : fnC P (EV P) 70 #[x0] w =
 (al P 31 w).bind fun r1 =>
 (bd P 31 #[] r1.2).bind fun r2 =>
 (al P 31 r2.2).bind fun r3 =>
 (st P 31 r3.1 r2.1 r3.2).bind fun r4 =>
 (vl x0 r4.2).bind fun r5 =>
 (EV P 29 #[r5.1, (.int .i64 1), (.int .i64 4)] r5.2).bind fun r6 =>
 (uo P .not r6.1 r6.2).bind fun r7 =>
 cnd r7.1 (
 (ld P 31 r3.1 r7.2).bind fun r8 =>
 (st P 31 r1.1 r8.1 r8.2).bind fun r9 =>
 ((ld P 31 r1.1 r9.2).bind fun r10 => ifP (r10.2 = r9.2) (some r10.1)).bind fun v11 =>
 some (v11, r9.2)) (
 (vl (.int .i64 0) r7.2).bind fun r12 =>
 spec_ChainNew_l1 (ups (env0 #[x0]) [(2, r1.1), (5, r2.1), (3, r3.1), (6, r5.1), (7, r6.1), (8, r7.1), (4, r12.1)]) r12.2) := by kernel_rfl
end Go.Proofs.Ytggmfmanpjcjkaa.X
