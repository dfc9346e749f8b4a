/- A part of the proof: an evaluator of the model, its laws, and contracts of functions; no condition. -/
import Derived.Test.YtggmfmanpjcjkaaEvT
set_option linter.unusedVariables false
set_option maxRecDepth 100000
namespace Go.Proofs.Ytggmfmanpjcjkaa.X
open Go Go.Ev
theorem laws_eqVer_fn (x0 x1 : Value) (w : World) : fnC P (EV P) 66 #[x0, x1] w =
 (bx P 78 x0 w).bind fun r1 =>
 (bx P 78 x1 r1.2).bind fun r2 =>
 (vl (.bool false) r2.2).bind fun r3 =>
 (fa P 78 r1.1 0 r3.2).bind fun r4 =>
 (ld P 3 r4.1 r4.2).bind fun r5 =>
 (fa P 78 r2.1 0 r5.2).bind fun r6 =>
 (ld P 3 r6.1 r6.2).bind fun r7 =>
 (bo P .neq 3 (.tmp 6) (.tmp 8) r5.1 r7.1 r7.2).bind fun r8 =>
 cnd r8.1 (
 (vl (.bool false) r8.2).bind fun r9 =>
 some (r9.1, r9.2)) (
 (fa P 78 r1.1 1 r8.2).bind fun r10 =>
 (ld P 76 r10.1 r10.2).bind fun r11 =>
 (fa P 78 r2.1 1 r11.2).bind fun r12 =>
 (ld P 76 r12.1 r12.2).bind fun r13 =>
 (EV P 91 #[r11.1, r13.1] r13.2).bind fun r14 =>
 (uo P .not r14.1 r14.2).bind fun r15 =>
 cnd r15.1 (
 (vl (.bool false) r15.2).bind fun r16 =>
 some (r16.1, r16.2)) (
 (fa P 78 r1.1 2 r15.2).bind fun r17 =>
 (ld P 70 r17.1 r17.2).bind fun r18 =>
 (fa P 78 r2.1 2 r18.2).bind fun r19 =>
 (ld P 70 r19.1 r19.2).bind fun r20 =>
 (EV P 92 #[r18.1, r20.1] r20.2).bind fun r21 =>
 (uo P .not r21.1 r21.2).bind fun r22 =>
 cnd r22.1 (
 (vl (.bool false) r22.2).bind fun r23 =>
 some (r23.1, r23.2)) (
 (fa P 78 r1.1 3 r22.2).bind fun r24 =>
 (ld P 9 r24.1 r24.2).bind fun r25 =>
 (fa P 78 r2.1 3 r25.2).bind fun r26 =>
 (ld P 9 r26.1 r26.2).bind fun r27 =>
 (bo P .neq 9 (.tmp 23) (.tmp 25) r25.1 r27.1 r27.2).bind fun r28 =>
 cnd r28.1 (
 (vl (.bool false) r28.2).bind fun r29 =>
 some (r29.1, r29.2)) (
 (fa P 78 r1.1 4 r28.2).bind fun r30 =>
 (ld P 4 r30.1 r30.2).bind fun r31 =>
 (fa P 78 r2.1 4 r31.2).bind fun r32 =>
 (ld P 4 r32.1 r32.2).bind fun r33 =>
 (bo P .neq 4 (.tmp 28) (.tmp 30) r31.1 r33.1 r33.2).bind fun r34 =>
 cnd r34.1 (
 (vl (.bool false) r34.2).bind fun r35 =>
 some (r35.1, r35.2)) (
 (vl (.bool true) r34.2).bind fun r36 =>
 some (r36.1, r36.2)))))) := by kernel_rfl
noncomputable def laws_markTagS_l1 (e : Env) (w : World) : Option (Value × World) := exC P (EV P) 67 27 (.loop (cA (cA (cB (cA (cB (bodyOf P 67))))))) e w (kBlock 0 (kSeq P (EV P) 67 27 (cB (cB (bodyOf P 67))) (kFn P (fnOf P 67))))
theorem laws_markTagS_l1_eq (e : Env) (w : World) : laws_markTagS_l1 e w =
 (vl (e 5) w).bind fun r1 =>
 (vl (e 0) r1.2).bind fun r2 =>
 (b_len P #[68] 3 #[r2.1] r2.2).bind fun r3 =>
 (bo P .lss 3 (.tmp 6) (.tmp 8) r1.1 r3.1 r3.2).bind fun r4 =>
 cnd r4.1 (
 (vl (e 0) r4.2).bind fun r5 =>
 (vl (e 5) r5.2).bind fun r6 =>
 (vl (e 1) r6.2).bind fun r7 =>
 (ia P 68 r5.1 r6.1 r7.2).bind fun r8 =>
 (fa P 76 r8.1 0 r8.2).bind fun r9 =>
 (st P 3 r9.1 r7.1 r9.2).bind fun r10 =>
 (vl (e 1) r10.2).bind fun r11 =>
 (bo P .add 3 (.tmp 17) (.const (.int .i64 1)) r11.1 (.int .i64 1) r11.2).bind fun r12 =>
 (vl r12.1 r12.2).bind fun r13 =>
 (vl (e 0) r13.2).bind fun r14 =>
 (vl (e 5) r14.2).bind fun r15 =>
 (vl r13.1 r15.2).bind fun r16 =>
 (ia P 68 r14.1 r15.1 r16.2).bind fun r17 =>
 (fa P 76 r17.1 1 r17.2).bind fun r18 =>
 (st P 3 r18.1 r16.1 r18.2).bind fun r19 =>
 (vl r13.1 r19.2).bind fun r20 =>
 (bo P .add 3 (.tmp 24) (.const (.int .i64 1)) r20.1 (.int .i64 1) r20.2).bind fun r21 =>
 (vl r21.1 r21.2).bind fun r22 =>
 (vl (e 5) r22.2).bind fun r23 =>
 (bo P .add 3 (.tmp 10) (.const (.int .i64 1)) r23.1 (.int .i64 1) r23.2).bind fun r24 =>
 (vl r24.1 r24.2).bind fun r25 =>
 laws_markTagS_l1 (ups e [(6, r1.1), (7, r2.1), (8, r3.1), (9, r4.1), (12, r5.1), (13, r6.1), (14, r7.1), (15, r8.1), (16, r9.1), (17, r11.1), (18, r12.1), (1, r13.1), (19, r14.1), (20, r15.1), (21, r16.1), (22, r17.1), (23, r18.1), (24, r20.1), (25, r21.1), (1, r22.1), (10, r23.1), (11, r24.1), (5, r25.1)]) r25.2) (
 (vl (e 1) r4.2).bind fun r26 =>
 (vl r26.1 r26.2).bind fun r27 =>
 some (r27.1, r27.2)) := (exC_loop P (EV P) 67 27 (cA (cA (cB (cA (cB (bodyOf P 67)))))) e w (kBlock 0 (kSeq P (EV P) 67 27 (cB (cB (bodyOf P 67))) (kFn P (fnOf P 67))))).trans (by kernel_rfl)
theorem laws_markTagS_fn (x0 x1 : Value) (w : World) : fnC P (EV P) 67 #[x0, x1] w =
 (vl (.int .i64 0) w).bind fun r1 =>
 (vl (.int .i64 0) r1.2).bind fun r2 =>
 laws_markTagS_l1 (ups (env0 #[x0, x1]) [(4, r1.1), (5, r2.1)]) r2.2 := by kernel_rfl
noncomputable def laws_markText_l1 (e : Env) (w : World) : Option (Value × World) := exC P (EV P) 68 20 (.loop (cA (cA (cA (cB (cB (cB (bodyOf P 68)))))))) e w (kBlock 0 (kSeq P (EV P) 68 20 (cB (cB (cB (cB (bodyOf P 68))))) (kFn P (fnOf P 68))))
theorem laws_markText_l1_eq (e : Env) (w : World) : laws_markText_l1 e w =
 (vl (e 0) w).bind fun r1 =>
 (bo P .gtr 3 (.tmp 6) (.const (.int .i64 0)) r1.1 (.int .i64 0) r1.2).bind fun r2 =>
 cnd r2.1 (
 (vl (e 0) r2.2).bind fun r3 =>
 (bo P .rem 3 (.tmp 8) (.const (.int .i64 10)) r3.1 (.int .i64 10) r3.2).bind fun r4 =>
 (bo P .add 3 (.const (.int .i64 48)) (.tmp 9) (.int .i64 48) r4.1 r4.2).bind fun r5 =>
 (cv P 3 5 r5.1 r5.2).bind fun r6 =>
 (bs P 39 1 #[(0, r6.1)] r6.2).bind fun r7 =>
 (cv P 39 9 r7.1 r7.2).bind fun r8 =>
 (vl (e 3) r8.2).bind fun r9 =>
 (bo P .add 9 (.tmp 13) (.tmp 14) r8.1 r9.1 r9.2).bind fun r10 =>
 (vl r10.1 r10.2).bind fun r11 =>
 (vl (e 0) r11.2).bind fun r12 =>
 (bo P .quo 3 (.tmp 16) (.const (.int .i64 10)) r12.1 (.int .i64 10) r12.2).bind fun r13 =>
 (vl r13.1 r13.2).bind fun r14 =>
 laws_markText_l1 (ups e [(6, r1.1), (7, r2.1), (8, r3.1), (9, r4.1), (10, r5.1), (11, r6.1), (12, r7.1), (13, r8.1), (14, r9.1), (15, r10.1), (3, r11.1), (16, r12.1), (17, r13.1), (0, r14.1)]) r14.2) (
 (vl (e 3) r2.2).bind fun r15 =>
 (bo P .add 9 (.const (Go.Value.string { data := #[109] })) (.tmp 18) (Go.Value.string { data := #[109] }) r15.1 r15.2).bind fun r16 =>
 (vl r16.1 r16.2).bind fun r17 =>
 some (r17.1, r17.2)) := (exC_loop P (EV P) 68 20 (cA (cA (cA (cB (cB (cB (bodyOf P 68))))))) e w (kBlock 0 (kSeq P (EV P) 68 20 (cB (cB (cB (cB (bodyOf P 68))))) (kFn P (fnOf P 68))))).trans (by kernel_rfl)
theorem laws_markText_fn (x0 : Value) (w : World) : fnC P (EV P) 68 #[x0] w =
 (vl (Go.Value.string { data := #[] }) w).bind fun r1 =>
 (vl x0 r1.2).bind fun r2 =>
 (bo P .leq 3 (.tmp 4) (.const (.int .i64 0)) r2.1 (.int .i64 0) r2.2).bind fun r3 =>
 cnd r3.1 (
 (vl (Go.Value.string { data := #[109, 48] }) r3.2).bind fun r4 =>
 some (r4.1, r4.2)) (
 (vl (Go.Value.string { data := #[] }) r3.2).bind fun r5 =>
 laws_markText_l1 (ups (env0 #[x0]) [(2, r1.1), (4, r2.1), (5, r3.1), (3, r5.1)]) r5.2) := by kernel_rfl
noncomputable def laws_heldTagS_l1 (e : Env) (w : World) : Option (Value × World) := exC P (EV P) 69 31 (.loop (cA (cA (cB (cA (cB (bodyOf P 69))))))) e w (kBlock 0 (kSeq P (EV P) 69 31 (cB (cB (bodyOf P 69))) (kFn P (fnOf P 69))))
theorem laws_heldTagS_l1_eq (e : Env) (w : World) : laws_heldTagS_l1 e w =
 (vl (e 5) w).bind fun r1 =>
 (vl (e 0) r1.2).bind fun r2 =>
 (b_len P #[68] 3 #[r2.1] r2.2).bind fun r3 =>
 (bo P .lss 3 (.tmp 6) (.tmp 8) r1.1 r3.1 r3.2).bind fun r4 =>
 cnd r4.1 (
 (vl (e 0) r4.2).bind fun r5 =>
 (vl (e 5) r5.2).bind fun r6 =>
 (ia P 68 r5.1 r6.1 r6.2).bind fun r7 =>
 (fa P 76 r7.1 0 r7.2).bind fun r8 =>
 (ld P 3 r8.1 r8.2).bind fun r9 =>
 (vl (e 1) r9.2).bind fun r10 =>
 (bo P .neq 3 (.tmp 16) (.tmp 17) r9.1 r10.1 r10.2).bind fun r11 =>
 cnd r11.1 (
 (vl (.int .i64 (-1)) r11.2).bind fun r12 =>
 some (r12.1, r12.2)) (
 (vl (e 1) r11.2).bind fun r13 =>
 (bo P .add 3 (.tmp 19) (.const (.int .i64 1)) r13.1 (.int .i64 1) r13.2).bind fun r14 =>
 (vl r14.1 r14.2).bind fun r15 =>
 (vl (e 0) r15.2).bind fun r16 =>
 (vl (e 5) r16.2).bind fun r17 =>
 (ia P 68 r16.1 r17.1 r17.2).bind fun r18 =>
 (fa P 76 r18.1 1 r18.2).bind fun r19 =>
 (ld P 3 r19.1 r19.2).bind fun r20 =>
 (vl r15.1 r20.2).bind fun r21 =>
 (bo P .neq 3 (.tmp 25) (.tmp 26) r20.1 r21.1 r21.2).bind fun r22 =>
 cnd r22.1 (
 (vl (.int .i64 (-1)) r22.2).bind fun r23 =>
 some (r23.1, r23.2)) (
 (vl r15.1 r22.2).bind fun r24 =>
 (bo P .add 3 (.tmp 28) (.const (.int .i64 1)) r24.1 (.int .i64 1) r24.2).bind fun r25 =>
 (vl r25.1 r25.2).bind fun r26 =>
 (vl (e 5) r26.2).bind fun r27 =>
 (bo P .add 3 (.tmp 10) (.const (.int .i64 1)) r27.1 (.int .i64 1) r27.2).bind fun r28 =>
 (vl r28.1 r28.2).bind fun r29 =>
 laws_heldTagS_l1 (ups e [(6, r1.1), (7, r2.1), (8, r3.1), (9, r4.1), (12, r5.1), (13, r6.1), (14, r7.1), (15, r8.1), (16, r9.1), (17, r10.1), (18, r11.1), (19, r13.1), (20, r14.1), (1, r15.1), (21, r16.1), (22, r17.1), (23, r18.1), (24, r19.1), (25, r20.1), (26, r21.1), (27, r22.1), (28, r24.1), (29, r25.1), (1, r26.1), (10, r27.1), (11, r28.1), (5, r29.1)]) r29.2))) (
 (vl (e 1) r4.2).bind fun r30 =>
 (vl r30.1 r30.2).bind fun r31 =>
 some (r31.1, r31.2)) := (exC_loop P (EV P) 69 31 (cA (cA (cB (cA (cB (bodyOf P 69)))))) e w (kBlock 0 (kSeq P (EV P) 69 31 (cB (cB (bodyOf P 69))) (kFn P (fnOf P 69))))).trans (by kernel_rfl)
theorem laws_heldTagS_fn (x0 x1 : Value) (w : World) : fnC P (EV P) 69 #[x0, x1] w =
 (vl (.int .i64 0) w).bind fun r1 =>
 (vl (.int .i64 0) r1.2).bind fun r2 =>
 laws_heldTagS_l1 (ups (env0 #[x0, x1]) [(4, r1.1), (5, r2.1)]) r2.2 := by kernel_rfl
noncomputable def spec_ChainNew_l1 (e : Env) (w : World) : Option (Value × World) := exC P (EV P) 70 23 (.loop (cA (cA (cB (cA (cB (cB (cB (bodyOf P 70))))))))) e w (kBlock 0 (kSeq P (EV P) 70 23 (cB (cB (cB (cB (bodyOf P 70))))) (kFn P (fnOf P 70))))
theorem spec_ChainNew_l1_eq (e : Env) (w : World) : spec_ChainNew_l1 e w =
 (vl (e 4) w).bind fun r1 =>
 (vl (e 0) r1.2).bind fun r2 =>
 (bo P .lss 3 (.tmp 10) (.tmp 11) r1.1 r2.1 r2.2).bind fun r3 =>
 cnd r3.1 (
 (fa P 31 (e 3) 0 (dw r3.2)).bind fun r5 =>
 ifP (r5.2 = (dw r3.2)) <|
 (ld P 29 r5.1 (dw r3.2)).bind fun r6 =>
 ifP (r6.2 = (dw r3.2)) <|
 (EV P 25 #[] (dw r3.2)).bind fun r7 =>
 ifP (ld P 29 r5.1 r7.2 = some (r6.1, r7.2) ∧ fa P 31 (e 3) 0 r7.2 = some (r5.1, r7.2) ∧ True) <|
 (bd P 73 #[(0, r7.1)] r7.2).bind fun r8 =>
 ifP (r8.2 = r7.2) <|
 (bs P 29 1 #[(0, r8.1)] r7.2).bind fun r9 =>
 ifP (True ∧ ld P 29 r5.1 r9.2 = some (r6.1, r9.2) ∧ fa P 31 (e 3) 0 r9.2 = some (r5.1, r9.2) ∧ True) <|
 (b_append P #[29, 29] 29 #[r6.1, r9.1] r9.2).bind fun r10 =>
 ifP (True ∧ True ∧ True ∧ True) <|
 (fa P 31 (e 3) 0 r10.2).bind fun r11 =>
 ifP (r11.2 = r10.2) <|
 (st P 29 r11.1 r10.1 r10.2).bind fun r12 =>
 ifP (True ∧ True ∧ True ∧ True ∧ True) <|
 (vl (e 4) r12.2).bind fun r13 =>
 (bo P .add 3 (.tmp 13) (.const (.int .i64 1)) r13.1 (.int .i64 1) r13.2).bind fun r14 =>
 (vl r14.1 r14.2).bind fun r15 =>
 spec_ChainNew_l1 (ups e [(10, r1.1), (11, r2.1), (12, r3.1), (15, r5.1), (16, r6.1), (17, r7.1), (18, r8.1), (19, r9.1), (20, r10.1), (21, r11.1), (13, r13.1), (14, r14.1), (4, r15.1)]) r15.2) (
 (ld P 31 (e 3) r3.2).bind fun r16 =>
 (st P 31 (e 2) r16.1 r16.2).bind fun r17 =>
 ((ld P 31 (e 2) r17.2).bind fun r18 => ifP (r18.2 = r17.2) (some r18.1)).bind fun v19 =>
 some (v19, r17.2)) := (exC_loop P (EV P) 70 23 (cA (cA (cB (cA (cB (cB (cB (bodyOf P 70)))))))) e w (kBlock 0 (kSeq P (EV P) 70 23 (cB (cB (cB (cB (bodyOf P 70))))) (kFn P (fnOf P 70))))).trans (by kernel_rfl)
theorem spec_ChainNew_fn (x0 : Value) (w : World) : fnC P (EV P) 70 #[x0] w =
 (al P 31 w).bind fun r1 =>
 (bd P 31 #[] r1.2).bind fun r2 =>
 (al P 31 r2.2).bind fun r3 =>
 (st P 31 r3.1 r2.1 r3.2).bind fun r4 =>
 (vl x0 r4.2).bind fun r5 =>
 (EV P 29 #[r5.1, (.int .i64 1), (.int .i64 4)] r5.2).bind fun r6 =>
 (uo P .not r6.1 r6.2).bind fun r7 =>
 cnd r7.1 (
 (ld P 31 r3.1 r7.2).bind fun r8 =>
 (st P 31 r1.1 r8.1 r8.2).bind fun r9 =>
 ((ld P 31 r1.1 r9.2).bind fun r10 => ifP (r10.2 = r9.2) (some r10.1)).bind fun v11 =>
 some (v11, r9.2)) (
 (vl (.int .i64 0) r7.2).bind fun r12 =>
 spec_ChainNew_l1 (ups (env0 #[x0]) [(2, r1.1), (5, r2.1), (3, r3.1), (6, r5.1), (7, r6.1), (8, r7.1), (4, r12.1)]) r12.2) := by kernel_rfl
end Go.Proofs.Ytggmfmanpjcjkaa.X
