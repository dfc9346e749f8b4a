/- A part of the proof: an evaluator of the model, its laws, and contracts of functions; no condition. -/
import Derived.Test.YtggmfmanpjcjkaaEvT
set_option linter.unusedVariables false
set_option maxRecDepth 100000
namespace Go.Proofs.Ytggmfmanpjcjkaa.X
open Go Go.Ev
theorem laws_FnPlaceNew_fn (x0 : Value) (w : World) : fnC P (EV P) 5 #[x0] w =
 (vl (.bool false) w).bind fun r1 =>
 (vl x0 r1.2).bind fun r2 =>
 (b_len P #[39] 3 #[r2.1] r2.2).bind fun r3 =>
 (bo P .gtr 3 (.tmp 7) (.const (.int .i64 1048576)) r3.1 (.int .i64 1048576) r3.2).bind fun r4 =>
 cnd r4.1 (
 (vl (.bool true) r4.2).bind fun r5 =>
 some (r5.1, r5.2)) (
 (vl x0 r4.2).bind fun r6 =>
 (EV P 17 #[r6.1] r6.2).bind fun r7 =>
 (vl r7.1 r7.2).bind fun r8 =>
 (xt P r8.1 0 r8.2).bind fun r9 =>
 (xt P r8.1 1 r9.2).bind fun r10 =>
 (vl r9.1 r10.2).bind fun r11 =>
 (vl r10.1 r11.2).bind fun r12 =>
 (vl r11.1 r12.2).bind fun r13 =>
 (vl r12.1 r13.2).bind fun r14 =>
 (EV P 13 #[r13.1, r14.1] r14.2).bind fun r15 =>
 (al P 34 r15.2).bind fun r16 =>
 (st P 34 r16.1 r15.1 r16.2).bind fun r17 =>
 (ld P 34 r16.1 (dw r17.2)).bind fun r19 =>
 ifP (r19.2 = (dw r17.2)) <|
 (vl r11.1 (dw r17.2)).bind fun r20 =>
 ifP (r20.2 = (dw r17.2)) <|
 (vl r12.1 (dw r17.2)).bind fun r21 =>
 ifP (r21.2 = (dw r17.2)) <|
 (EV P 12 #[r20.1, r21.1] (dw r17.2)).bind fun r22 =>
 ifP (ld P 34 r16.1 r22.2 = some (r19.1, r22.2) ∧ True) <|
 (EV P 18 #[r19.1, r22.1] r22.2).bind fun r23 =>
 ifP (True ∧ True) <|
 (uo P .not r23.1 r23.2).bind fun r24 =>
 ifP (r24.2 = r23.2) <|
 (vl r24.1 r23.2).bind fun r25 =>
 ifP (r25.2 = r23.2) <|
 (gif r25.1 false (fa P 34 r16.1 2 r23.2) r23.2).bind fun r26 =>
 ifP (r26.2 = r23.2) <|
 (gif r25.1 false (fa P 31 r26.1 0 r23.2) r23.2).bind fun r27 =>
 ifP (r27.2 = r23.2) <|
 (gif r25.1 false (ld P 29 r27.1 r23.2) r23.2).bind fun r28 =>
 ifP (r28.2 = r23.2) <|
 (gif r25.1 false (b_len P #[29] 3 #[r28.1] r23.2) r23.2).bind fun r29 =>
 ifP (r29.2 = r23.2) <|
 (gif r25.1 false (bo P .eql 3 (.tmp 27) (.const (.int .i64 0)) r29.1 (.int .i64 0) r23.2) r23.2).bind fun r30 =>
 ifP (r30.2 = r23.2) <|
 (pickV r25.1 (.bool true) r30.1 r23.2).bind fun r31 =>
 ifP (r31.2 = r23.2) <|
 cnd r31.1 (
 (ld P 34 r16.1 (dw r23.2)).bind fun r33 =>
 ifP (r33.2 = (dw r23.2)) <|
 (vl r11.1 (dw r23.2)).bind fun r34 =>
 ifP (r34.2 = (dw r23.2)) <|
 (vl r12.1 (dw r23.2)).bind fun r35 =>
 ifP (r35.2 = (dw r23.2)) <|
 (EV P 12 #[r34.1, r35.1] (dw r23.2)).bind fun r36 =>
 ifP (ld P 34 r16.1 r36.2 = some (r33.1, r36.2) ∧ True) <|
 (EV P 18 #[r33.1, r36.1] r36.2).bind fun r37 =>
 ifP (True ∧ True) <|
 (vl r37.1 r37.2).bind fun r38 =>
 ifP (r38.2 = r37.2) <|
 some (r38.1, r37.2)) (
 (ld P 34 r16.1 r23.2).bind fun r39 =>
 (EV P 19 #[r39.1] r39.2).bind fun r40 =>
 (vl r40.1 r40.2).bind fun r41 =>
 (gif r41.1 true (fa P 34 r16.1 0 r41.2) r41.2).bind fun r42 =>
 (gif r41.1 true (ld P 3 r42.1 r42.2) r42.2).bind fun r43 =>
 (gif r41.1 true (vl r11.1 r43.2) r43.2).bind fun r44 =>
 (gif r41.1 true (bo P .eql 3 (.tmp 39) (.tmp 40) r43.1 r44.1 r44.2) r44.2).bind fun r45 =>
 (pickV r41.1 r45.1 (.bool false) r45.2).bind fun r46 =>
 (vl r46.1 r46.2).bind fun r47 =>
 (gif r47.1 true (fa P 34 r16.1 3 r47.2) r47.2).bind fun r48 =>
 (gif r47.1 true (ld P 22 r48.1 r48.2) r48.2).bind fun r49 =>
 (gif r47.1 true (b_len P #[22] 3 #[r49.1] r49.2) r49.2).bind fun r50 =>
 (gif r47.1 true (bo P .eql 3 (.tmp 46) (.const (.int .i64 0)) r50.1 (.int .i64 0) r50.2) r50.2).bind fun r51 =>
 (pickV r47.1 r51.1 (.bool false) r51.2).bind fun r52 =>
 (vl r52.1 r52.2).bind fun r53 =>
 (gif r53.1 true (fa P 34 r16.1 2 r53.2) r53.2).bind fun r54 =>
 (gif r53.1 true (fa P 31 r54.1 0 r54.2) r54.2).bind fun r55 =>
 (gif r53.1 true (ld P 29 r55.1 r55.2) r55.2).bind fun r56 =>
 (gif r53.1 true (b_len P #[29] 3 #[r56.1] r56.2) r56.2).bind fun r57 =>
 (gif r53.1 true (vl r12.1 r57.2) r57.2).bind fun r58 =>
 (gif r53.1 true (bo P .eql 3 (.tmp 53) (.tmp 54) r57.1 r58.1 r58.2) r58.2).bind fun r59 =>
 (pickV r53.1 r59.1 (.bool false) r59.2).bind fun r60 =>
 (vl r60.1 r60.2).bind fun r61 =>
 some (r61.1, r61.2))) := by kernel_rfl
theorem impl_StoreNew_fn (w : World) : fnC P (EV P) 8 #[] w =
 (al P 24 w).bind fun r1 =>
 (ms P 22 (.int .i64 4) (.int .i64 4) r1.2).bind fun r2 =>
 (bd P 24 #[(0, r2.1)] r2.2).bind fun r3 =>
 (st P 24 r1.1 r3.1 r3.2).bind fun r4 =>
 ((ld P 24 r1.1 r4.2).bind fun r5 => ifP (r5.2 = r4.2) (some r5.1)).bind fun v6 =>
 some (v6, r4.2) := by kernel_rfl
theorem spec_PlaceNew_fn (x0 x1 : Value) (w : World) : fnC P (EV P) 12 #[x0, x1] w =
 (al P 34 w).bind fun r1 =>
 (vl x0 r1.2).bind fun r2 =>
 (EV P 29 #[r2.1, (.int .i64 0), (.int .i64 2)] r2.2).bind fun r3 =>
 (uo P .not r3.1 r3.2).bind fun r4 =>
 (vl r4.1 r4.2).bind fun r5 =>
 (gif r5.1 false (vl x1 r5.2) r5.2).bind fun r6 =>
 (gif r5.1 false (EV P 29 #[r6.1, (.int .i64 1), (.int .i64 4)] r6.2) r6.2).bind fun r7 =>
 (gif r5.1 false (uo P .not r7.1 r7.2) r7.2).bind fun r8 =>
 (pickV r5.1 (.bool true) r8.1 r8.2).bind fun r9 =>
 cnd r9.1 (
 (bd P 34 #[] r9.2).bind fun r10 =>
 (st P 34 r1.1 r10.1 r10.2).bind fun r11 =>
 ((ld P 34 r1.1 r11.2).bind fun r12 => ifP (r12.2 = r11.2) (some r12.1)).bind fun v13 =>
 some (v13, r11.2)) (
 (vl x0 r9.2).bind fun r14 =>
 (vl x1 r14.2).bind fun r15 =>
 (EV P 30 #[r14.1, r15.1] r15.2).bind fun r16 =>
 (st P 34 r1.1 r16.1 r16.2).bind fun r17 =>
 ((ld P 34 r1.1 r17.2).bind fun r18 => ifP (r18.2 = r17.2) (some r18.1)).bind fun v19 =>
 some (v19, r17.2)) := by kernel_rfl
noncomputable def impl_PlaceNew_a1 (e : Env) (w : World) : Option (Value × World) := exC P (EV P) 13 19 (cA (cB (cB (bodyOf P 13)))) e w (kSeq P (EV P) 13 19 (cB (cB (cB (bodyOf P 13)))) (kFn P (fnOf P 13)))
noncomputable def impl_PlaceNew_j1 (e : Env) (w : World) : Option (Value × World) := exC P (EV P) 13 19 (cB (cB (cB (bodyOf P 13)))) e w (kFn P (fnOf P 13))
theorem impl_PlaceNew_a1_any (e : Env) (w : World) {Q : Value × World → Prop} (h :
 (Ret (vl (e 0) (dw w)) fun r1 => r1.2 = (dw w) ∧
 (Ret (vl (e 1) (dw w)) fun r2 => r2.2 = (dw w) ∧
 ((Ret (EV P 33 #[r2.1] (dw w)) fun r3 => (True) ∧
 ((Ret (ms P 32 (.int .i64 3) (.int .i64 3) r3.2) fun r4 => (True) ∧
 (Ret (bd P 34 #[(0, r1.1), (2, r3.1), (4, r4.1)] r4.2) fun r5 => r5.2 = r4.2 ∧
 ((Ret (st P 34 (e 4) r5.1 r4.2) fun r6 => (True ∧ True) ∧
 Ret (impl_PlaceNew_j1 (ups e [(14, r1.1), (15, r2.1), (16, r3.1), (17, r4.1), (18, r5.1)]) r6.2) Q)))))) ∧
 (Ret (ms P 32 (.int .i64 3) (.int .i64 3) (dw w)) fun r7 => (True) ∧
 ((Ret (EV P 33 #[r2.1] r7.2) fun r8 => (True) ∧
 (Ret (bd P 34 #[(0, r1.1), (2, r8.1), (4, r7.1)] r8.2) fun r9 => r9.2 = r8.2 ∧
 ((Ret (st P 34 (e 4) r9.1 r8.2) fun r10 => (True ∧ True) ∧
 Ret (impl_PlaceNew_j1 (ups e [(14, r1.1), (15, r2.1), (17, r7.1), (16, r8.1), (18, r9.1)]) r10.2) Q)))))))))) : Ret (impl_PlaceNew_a1 e w) Q := exC_any (id := 3) (ops := opsOf (cA (cB (cB (bodyOf P 13))))) (by kernel_rfl) (by kernel_rfl) (Eq.mpr (by kernel_rfl) h)
theorem impl_PlaceNew_j1_eq (e : Env) (w : World) : impl_PlaceNew_j1 e w =
 ((ld P 34 (e 4) w).bind fun r1 => ifP (r1.2 = w) (some r1.1)).bind fun v2 =>
 some (v2, w) := by kernel_rfl
theorem impl_PlaceNew_fn (x0 x1 : Value) (w : World) : fnC P (EV P) 13 #[x0, x1] w =
 (al P 34 w).bind fun r1 =>
 (vl x0 r1.2).bind fun r2 =>
 (EV P 31 #[r2.1] r2.2).bind fun r3 =>
 (uo P .not r3.1 r3.2).bind fun r4 =>
 (vl r4.1 r4.2).bind fun r5 =>
 (gif r5.1 false (vl x1 r5.2) r5.2).bind fun r6 =>
 (gif r5.1 false (EV P 32 #[r6.1] r6.2) r6.2).bind fun r7 =>
 (gif r5.1 false (uo P .not r7.1 r7.2) r7.2).bind fun r8 =>
 (pickV r5.1 (.bool true) r8.1 r8.2).bind fun r9 =>
 cnd r9.1 (
 (bd P 34 #[] r9.2).bind fun r10 =>
 (st P 34 r1.1 r10.1 r10.2).bind fun r11 =>
 ((ld P 34 r1.1 r11.2).bind fun r12 => ifP (r12.2 = r11.2) (some r12.1)).bind fun v13 =>
 some (v13, r11.2)) (
 impl_PlaceNew_a1 (ups (env0 #[x0, x1]) [(4, r1.1), (5, r2.1), (6, r3.1), (7, r4.1), (8, r5.1), (9, r6.1), (10, r7.1), (11, r8.1), (12, r9.1)]) r9.2) := by kernel_rfl
theorem spec_DrawPlaceNew_fn (x0 : Value) (w : World) : fnC P (EV P) 17 #[x0] w =
 (vl (.int .i64 0) w).bind fun r1 =>
 (vl (.int .i64 0) r1.2).bind fun r2 =>
 (vl x0 r2.2).bind fun r3 =>
 (EV P 40 #[r3.1] r3.2).bind fun r4 =>
 (vl r4.1 r4.2).bind fun r5 =>
 (vl r5.1 r5.2).bind fun r6 =>
 (bs P 65 5 #[(0, (.int .i64 0)), (1, (.int .i64 1)), (2, (.int .i64 2)), (3, (.int .i64 3)), (4, (.int .i64 (-1)))] r6.2).bind fun r7 =>
 (EV P 41 #[r6.1, r7.1] r7.2).bind fun r8 =>
 (vl r5.1 r8.2).bind fun r9 =>
 (bs P 65 6 #[(0, (.int .i64 1)), (1, (.int .i64 2)), (2, (.int .i64 3)), (3, (.int .i64 4)), (4, (.int .i64 0)), (5, (.int .i64 5))] r9.2).bind fun r10 =>
 (EV P 41 #[r9.1, r10.1] r10.2).bind fun r11 =>
 (vl r8.1 r11.2).bind fun r12 =>
 (vl r11.1 r12.2).bind fun r13 =>
 some (.tuple #[r12.1, r13.1], r13.2) := by kernel_rfl
noncomputable def laws_cfPlace_l1 (e : Env) (w : World) : Option (Value × World) := exC P (EV P) 18 69 (.loop (cA (cA (cB (cA (cB (cB (bodyOf P 18)))))))) e w (kBlock 0 (kSeq P (EV P) 18 69 (cB (cB (cB (bodyOf P 18)))) (kFn P (fnOf P 18))))
theorem laws_cfPlace_l1_eq (e : Env) (w : World) : laws_cfPlace_l1 e w =
 (vl (e 5) w).bind fun r1 =>
 (fa P 34 (e 2) 4 r1.2).bind fun r2 =>
 (ld P 32 r2.1 r2.2).bind fun r3 =>
 (b_len P #[32] 3 #[r3.1] r3.2).bind fun r4 =>
 (bo P .lss 3 (.tmp 50) (.tmp 53) r1.1 r4.1 r4.2).bind fun r5 =>
 cnd r5.1 (
 (fa P 34 (e 2) 4 (dw r5.2)).bind fun r7 =>
 ifP (r7.2 = (dw r5.2)) <|
 (ld P 32 r7.1 (dw r5.2)).bind fun r8 =>
 ifP (r8.2 = (dw r5.2)) <|
 (vl (e 5) (dw r5.2)).bind fun r9 =>
 ifP (r9.2 = (dw r5.2)) <|
 (ia P 32 r8.1 r9.1 (dw r5.2)).bind fun r10 =>
 ifP (r10.2 = (dw r5.2)) <|
 (ld P 22 r10.1 (dw r5.2)).bind fun r11 =>
 ifP (r11.2 = (dw r5.2)) <|
 (fa P 34 (e 3) 4 (dw r5.2)).bind fun r12 =>
 ifP (r12.2 = (dw r5.2)) <|
 (ld P 32 r12.1 (dw r5.2)).bind fun r13 =>
 ifP (r13.2 = (dw r5.2)) <|
 (vl (e 5) (dw r5.2)).bind fun r14 =>
 ifP (r14.2 = (dw r5.2)) <|
 (ia P 32 r13.1 r14.1 (dw r5.2)).bind fun r15 =>
 ifP (r15.2 = (dw r5.2)) <|
 (ld P 22 r15.1 (dw r5.2)).bind fun r16 =>
 ifP (r16.2 = (dw r5.2)) <|
 (EV P 43 #[r11.1, r16.1] (dw r5.2)).bind fun r17 =>
 ifP (True ∧ True ∧ True ∧ True ∧ True ∧ True ∧ True ∧ True ∧ True) <|
 (uo P .not r17.1 r17.2).bind fun r18 =>
 ifP (r18.2 = r17.2) <|
 cnd r18.1 (
 (vl (.bool false) r17.2).bind fun r19 =>
 some (r19.1, r19.2)) (
 (vl (e 5) r17.2).bind fun r20 =>
 (bo P .add 3 (.tmp 55) (.const (.int .i64 1)) r20.1 (.int .i64 1) r20.2).bind fun r21 =>
 (vl r21.1 r21.2).bind fun r22 =>
 laws_cfPlace_l1 (ups e [(50, r1.1), (51, r2.1), (52, r3.1), (53, r4.1), (54, r5.1), (57, r7.1), (58, r8.1), (59, r9.1), (60, r10.1), (61, r11.1), (62, r12.1), (63, r13.1), (64, r14.1), (65, r15.1), (66, r16.1), (67, r17.1), (68, r18.1), (55, r20.1), (56, r21.1), (5, r22.1)]) r22.2)) (
 (vl (.bool true) r5.2).bind fun r23 =>
 some (r23.1, r23.2)) := (exC_loop P (EV P) 18 69 (cA (cA (cB (cA (cB (cB (bodyOf P 18))))))) e w (kBlock 0 (kSeq P (EV P) 18 69 (cB (cB (cB (bodyOf P 18)))) (kFn P (fnOf P 18))))).trans (by kernel_rfl)
theorem laws_cfPlace_fn (x0 x1 : Value) (w : World) : fnC P (EV P) 18 #[x0, x1] w =
 (bx P 34 x0 w).bind fun r1 =>
 (bx P 34 x1 r1.2).bind fun r2 =>
 (vl (.bool false) r2.2).bind fun r3 =>
 (fa P 34 r1.1 0 r3.2).bind fun r4 =>
 (ld P 3 r4.1 r4.2).bind fun r5 =>
 (fa P 34 r2.1 0 r5.2).bind fun r6 =>
 (ld P 3 r6.1 r6.2).bind fun r7 =>
 (bo P .neq 3 (.tmp 7) (.tmp 9) r5.1 r7.1 r7.2).bind fun r8 =>
 (vl r8.1 r8.2).bind fun r9 =>
 (gif r9.1 false (fa P 34 r1.1 1 r9.2) r9.2).bind fun r10 =>
 (gif r9.1 false (ld P 3 r10.1 r10.2) r10.2).bind fun r11 =>
 (gif r9.1 false (fa P 34 r2.1 1 r11.2) r11.2).bind fun r12 =>
 (gif r9.1 false (ld P 3 r12.1 r12.2) r12.2).bind fun r13 =>
 (gif r9.1 false (bo P .neq 3 (.tmp 13) (.tmp 15) r11.1 r13.1 r13.2) r13.2).bind fun r14 =>
 (pickV r9.1 (.bool true) r14.1 r14.2).bind fun r15 =>
 (vl r15.1 r15.2).bind fun r16 =>
 (gif r16.1 false (fa P 34 r1.1 5 r16.2) r16.2).bind fun r17 =>
 (gif r16.1 false (ld P 4 r17.1 r17.2) r17.2).bind fun r18 =>
 (gif r16.1 false (fa P 34 r2.1 5 r18.2) r18.2).bind fun r19 =>
 (gif r16.1 false (ld P 4 r19.1 r19.2) r19.2).bind fun r20 =>
 (gif r16.1 false (bo P .neq 4 (.tmp 20) (.tmp 22) r18.1 r20.1 r20.2) r20.2).bind fun r21 =>
 (pickV r16.1 (.bool true) r21.1 r21.2).bind fun r22 =>
 (vl r22.1 r22.2).bind fun r23 =>
 (gif r23.1 false (fa P 34 r1.1 2 r23.2) r23.2).bind fun r24 =>
 (gif r23.1 false (ld P 31 r24.1 r24.2) r24.2).bind fun r25 =>
 (gif r23.1 false (fa P 34 r2.1 2 r25.2) r25.2).bind fun r26 =>
 (gif r23.1 false (ld P 31 r26.1 r26.2) r26.2).bind fun r27 =>
 (gif r23.1 false (EV P 42 #[r25.1, r27.1] r27.2) r27.2).bind fun r28 =>
 (gif r23.1 false (uo P .not r28.1 r28.2) r28.2).bind fun r29 =>
 (pickV r23.1 (.bool true) r29.1 r29.2).bind fun r30 =>
 (vl r30.1 r30.2).bind fun r31 =>
 (gif r31.1 false (fa P 34 r1.1 3 r31.2) r31.2).bind fun r32 =>
 (gif r31.1 false (ld P 22 r32.1 r32.2) r32.2).bind fun r33 =>
 (gif r31.1 false (fa P 34 r2.1 3 r33.2) r33.2).bind fun r34 =>
 (gif r31.1 false (ld P 22 r34.1 r34.2) r34.2).bind fun r35 =>
 (gif r31.1 false (EV P 43 #[r33.1, r35.1] r35.2) r35.2).bind fun r36 =>
 (gif r31.1 false (uo P .not r36.1 r36.2) r36.2).bind fun r37 =>
 (pickV r31.1 (.bool true) r37.1 r37.2).bind fun r38 =>
 (vl r38.1 r38.2).bind fun r39 =>
 (gif r39.1 false (fa P 34 r1.1 4 r39.2) r39.2).bind fun r40 =>
 (gif r39.1 false (ld P 32 r40.1 r40.2) r40.2).bind fun r41 =>
 (gif r39.1 false (b_len P #[32] 3 #[r41.1] r41.2) r41.2).bind fun r42 =>
 (gif r39.1 false (fa P 34 r2.1 4 r42.2) r42.2).bind fun r43 =>
 (gif r39.1 false (ld P 32 r43.1 r43.2) r43.2).bind fun r44 =>
 (gif r39.1 false (b_len P #[32] 3 #[r44.1] r44.2) r44.2).bind fun r45 =>
 (gif r39.1 false (bo P .neq 3 (.tmp 44) (.tmp 47) r42.1 r45.1 r45.2) r45.2).bind fun r46 =>
 (pickV r39.1 (.bool true) r46.1 r46.2).bind fun r47 =>
 cnd r47.1 (
 (vl (.bool false) r47.2).bind fun r48 =>
 some (r48.1, r48.2)) (
 (vl (.int .i64 0) r47.2).bind fun r49 =>
 laws_cfPlace_l1 (ups (env0 #[x0, x1]) [(2, r1.1), (3, r2.1), (4, r3.1), (6, r4.1), (7, r5.1), (8, r6.1), (9, r7.1), (10, r8.1), (11, r9.1), (12, r10.1), (13, r11.1), (14, r12.1), (15, r13.1), (16, r14.1), (17, r15.1), (18, r16.1), (19, r17.1), (20, r18.1), (21, r19.1), (22, r20.1), (23, r21.1), (24, r22.1), (25, r23.1), (26, r24.1), (27, r25.1), (28, r26.1), (29, r27.1), (30, r28.1), (31, r29.1), (32, r30.1), (33, r31.1), (34, r32.1), (35, r33.1), (36, r34.1), (37, r35.1), (38, r36.1), (39, r37.1), (40, r38.1), (41, r39.1), (42, r40.1), (43, r41.1), (44, r42.1), (45, r43.1), (46, r44.1), (47, r45.1), (48, r46.1), (49, r47.1), (5, r49.1)]) r49.2) := by kernel_rfl
noncomputable def impl_PlaceOk_l1 (e : Env) (w : World) : Option (Value × World) := exC P (EV P) 19 113 (.loop (cA (cA (cB (cA (cB (cB (cB (bodyOf P 19))))))))) e w (kBlock 0 (kSeq P (EV P) 19 113 (cB (cB (cB (cB (bodyOf P 19))))) (kFn P (fnOf P 19))))
noncomputable def impl_PlaceOk_l2 (e : Env) (w : World) : Option (Value × World) := exC P (EV P) 19 113 (.loop (cA (cA (cB (cB (cA (cA (cB (cB (cA (cA (cB (cA (cB (cB (cB (bodyOf P 19))))))))))))))))) e w (kBlock 2 (kBlock 1 (kSeq P (EV P) 19 113 (cB (cB (cB (cA (cA (cB (cA (cB (cB (cB (bodyOf P 19))))))))))) (kLoop P (EV P) 19 113 (cA (cA (cB (cA (cB (cB (cB (bodyOf P 19)))))))) (kBlock 0 (kSeq P (EV P) 19 113 (cB (cB (cB (cB (bodyOf P 19))))) (kFn P (fnOf P 19))))))))
noncomputable def impl_PlaceOk_l3 (e : Env) (w : World) : Option (Value × World) := exC P (EV P) 19 113 (.loop (cA (cA (cB (cA (cB (cB (cB (cB (bodyOf P 19)))))))))) e w (kBlock 4 (kSeq P (EV P) 19 113 (cB (cB (cB (cB (cB (bodyOf P 19)))))) (kFn P (fnOf P 19))))
theorem impl_PlaceOk_l1_eq (e : Env) (w : World) : impl_PlaceOk_l1 e w =
 (bo P .lss 3 (.tmp 47) (.tmp 46) (e 47) (e 46) w).bind fun r1 =>
 cnd r1.1 (
 (vl (e 47) r1.2).bind fun r2 =>
 (ia P 29 (e 45) (e 47) r2.2).bind fun r3 =>
 (ld P 73 r3.1 r3.2).bind fun r4 =>
 (al P 73 r4.2).bind fun r5 =>
 (vl r2.1 r5.2).bind fun r6 =>
 (st P 73 r5.1 r4.1 r6.2).bind fun r7 =>
 (fa P 73 r5.1 0 r7.2).bind fun r8 =>
 (fa P 24 r8.1 0 r8.2).bind fun r9 =>
 (ld P 22 r9.1 r9.2).bind fun r10 =>
 (fa P 73 r5.1 1 r10.2).bind fun r11 =>
 (ld P 22 r11.1 r11.2).bind fun r12 =>
 (bs P 32 2 #[(0, r10.1), (1, r12.1)] r12.2).bind fun r13 =>
 (EV P 49 #[r13.1] r13.2).bind fun r14 =>
 (b_len P #[22] 3 #[r14.1] r14.2).bind fun r15 =>
 (vl (.int .i64 0) r15.2).bind fun r16 =>
 impl_PlaceOk_l2 (ups e [(48, r1.1), (49, r2.1), (50, r3.1), (51, r4.1), (5, r5.1), (4, r6.1), (52, r8.1), (53, r9.1), (54, r10.1), (55, r11.1), (56, r12.1), (57, r13.1), (58, r14.1), (59, r15.1), (60, r16.1)]) r16.2) (
 (fa P 34 (e 1) 4 r1.2).bind fun r17 =>
 (ld P 32 r17.1 r17.2).bind fun r18 =>
 (b_len P #[32] 3 #[r18.1] r18.2).bind fun r19 =>
 (vl (.int .i64 0) r19.2).bind fun r20 =>
 impl_PlaceOk_l3 (ups e [(48, r1.1), (89, r17.1), (90, r18.1), (91, r19.1), (92, r20.1)]) r20.2) := (exC_loop P (EV P) 19 113 (cA (cA (cB (cA (cB (cB (cB (bodyOf P 19)))))))) e w (kBlock 0 (kSeq P (EV P) 19 113 (cB (cB (cB (cB (bodyOf P 19))))) (kFn P (fnOf P 19))))).trans (by kernel_rfl)
theorem impl_PlaceOk_l2_eq (e : Env) (w : World) : impl_PlaceOk_l2 e w =
 (bo P .lss 3 (.tmp 60) (.tmp 59) (e 60) (e 59) w).bind fun r1 =>
 cnd r1.1 (
 (ia P 22 (e 58) (e 60) r1.2).bind fun r2 =>
 (ld P 78 r2.1 r2.2).bind fun r3 =>
 (al P 78 r3.2).bind fun r4 =>
 (st P 78 r4.1 r3.1 r4.2).bind fun r5 =>
 (fa P 78 r4.1 1 r5.2).bind fun r6 =>
 (ld P 76 r6.1 r6.2).bind fun r7 =>
 (bd P 76 #[] r7.2).bind fun r8 =>
 (bo P .neq 76 (.tmp 65) (.tmp 66) r7.1 r8.1 r8.2).bind fun r9 =>
 (vl r9.1 r9.2).bind fun r10 =>
 (gif r10.1 true (fa P 78 r4.1 2 r10.2) r10.2).bind fun r11 =>
 (gif r10.1 true (ld P 70 r11.1 r11.2) r11.2).bind fun r12 =>
 (gif r10.1 true (ld P 70 (e 3) r12.2) r12.2).bind fun r13 =>
 (gif r10.1 true (EV P 50 #[r12.1, r13.1] r13.2) r13.2).bind fun r14 =>
 (gif r10.1 true (uo P .not r14.1 r14.2) r14.2).bind fun r15 =>
 (pickV r10.1 r15.1 (.bool false) r15.2).bind fun r16 =>
 (vl r16.1 r16.2).bind fun r17 =>
 (gif r17.1 false (vl (e 4) r17.2) r17.2).bind fun r18 =>
 (gif r17.1 false (bo P .eql 3 (.tmp 76) (.const (.int .i64 0)) r18.1 (.int .i64 0) r18.2) r18.2).bind fun r19 =>
 (gif r17.1 false (vl r19.1 r19.2) r19.2).bind fun r20 =>
 (gif r20.1 true (fa P 78 r4.1 1 r20.2) r20.2).bind fun r21 =>
 (gif r20.1 true (fa P 76 r21.1 0 r21.2) r21.2).bind fun r22 =>
 (gif r20.1 true (ld P 3 r22.1 r22.2) r22.2).bind fun r23 =>
 (gif r20.1 true (fa P 34 (e 1) 1 r23.2) r23.2).bind fun r24 =>
 (gif r20.1 true (ld P 3 r24.1 r24.2) r24.2).bind fun r25 =>
 (gif r20.1 true (bo P .gtr 3 (.tmp 81) (.tmp 83) r23.1 r25.1 r25.2) r25.2).bind fun r26 =>
 (gif r17.1 false (pickV r20.1 r26.1 (.bool false) r26.2) r26.2).bind fun r27 =>
 (pickV r17.1 (.bool true) r27.1 r27.2).bind fun r28 =>
 cnd r28.1 (
 (vl (.bool false) r28.2).bind fun r29 =>
 some (r29.1, r29.2)) (
 (bo P .add 3 (.tmp 60) (.const (.int .i64 1)) (e 60) (.int .i64 1) r28.2).bind fun r30 =>
 (vl r30.1 r30.2).bind fun r31 =>
 impl_PlaceOk_l2 (ups e [(61, r1.1), (62, r2.1), (63, r3.1), (7, r4.1), (64, r6.1), (65, r7.1), (66, r8.1), (67, r9.1), (68, r10.1), (69, r11.1), (70, r12.1), (71, r13.1), (72, r14.1), (73, r15.1), (74, r16.1), (75, r17.1), (76, r18.1), (77, r19.1), (78, r20.1), (79, r21.1), (80, r22.1), (81, r23.1), (82, r24.1), (83, r25.1), (84, r26.1), (85, r27.1), (86, r28.1), (87, r30.1), (60, r31.1)]) r31.2)) (
 (bo P .add 3 (.tmp 47) (.const (.int .i64 1)) (e 47) (.int .i64 1) r1.2).bind fun r32 =>
 (vl r32.1 r32.2).bind fun r33 =>
 impl_PlaceOk_l1 (ups e [(61, r1.1), (88, r32.1), (47, r33.1)]) r33.2) := (exC_loop P (EV P) 19 113 (cA (cA (cB (cB (cA (cA (cB (cB (cA (cA (cB (cA (cB (cB (cB (bodyOf P 19)))))))))))))))) e w (kBlock 2 (kBlock 1 (kSeq P (EV P) 19 113 (cB (cB (cB (cA (cA (cB (cA (cB (cB (cB (bodyOf P 19))))))))))) (kLoop P (EV P) 19 113 (cA (cA (cB (cA (cB (cB (cB (bodyOf P 19)))))))) (kBlock 0 (kSeq P (EV P) 19 113 (cB (cB (cB (cB (bodyOf P 19))))) (kFn P (fnOf P 19))))))))).trans (by kernel_rfl)
theorem impl_PlaceOk_l3_eq (e : Env) (w : World) : impl_PlaceOk_l3 e w =
 (bo P .lss 3 (.tmp 92) (.tmp 91) (e 92) (e 91) w).bind fun r1 =>
 cnd r1.1 (
 (vl (e 92) r1.2).bind fun r2 =>
 (ia P 32 (e 90) (e 92) r2.2).bind fun r3 =>
 (ld P 22 r3.1 r3.2).bind fun r4 =>
 (vl r2.1 r4.2).bind fun r5 =>
 (vl r4.1 r5.2).bind fun r6 =>
 (vl r6.1 r6.2).bind fun r7 =>
 (vl r5.1 r7.2).bind fun r8 =>
 (EV P 46 #[r7.1, r8.1] r8.2).bind fun r9 =>
 (uo P .not r9.1 r9.2).bind fun r10 =>
 (vl r10.1 r10.2).bind fun r11 =>
 (gif r11.1 false (vl r5.1 r11.2) r11.2).bind fun r12 =>
 (gif r11.1 false (fa P 34 (e 1) 0 r12.2) r12.2).bind fun r13 =>
 (gif r11.1 false (ld P 3 r13.1 r13.2) r13.2).bind fun r14 =>
 (gif r11.1 false (bo P .eql 3 (.tmp 102) (.tmp 104) r12.1 r14.1 r14.2) r14.2).bind fun r15 =>
 (gif r11.1 false (vl r15.1 r15.2) r15.2).bind fun r16 =>
 (gif r16.1 true (vl r6.1 r16.2) r16.2).bind fun r17 =>
 (gif r16.1 true (b_len P #[22] 3 #[r17.1] r17.2) r17.2).bind fun r18 =>
 (gif r16.1 true (bo P .gtr 3 (.tmp 108) (.const (.int .i64 0)) r18.1 (.int .i64 0) r18.2) r18.2).bind fun r19 =>
 (gif r11.1 false (pickV r16.1 r19.1 (.bool false) r19.2) r19.2).bind fun r20 =>
 (pickV r11.1 (.bool true) r20.1 r20.2).bind fun r21 =>
 cnd r21.1 (
 (vl (.bool false) r21.2).bind fun r22 =>
 some (r22.1, r22.2)) (
 (bo P .add 3 (.tmp 92) (.const (.int .i64 1)) (e 92) (.int .i64 1) r21.2).bind fun r23 =>
 (vl r23.1 r23.2).bind fun r24 =>
 impl_PlaceOk_l3 (ups e [(93, r1.1), (94, r2.1), (95, r3.1), (96, r4.1), (8, r5.1), (9, r6.1), (97, r7.1), (98, r8.1), (99, r9.1), (100, r10.1), (101, r11.1), (102, r12.1), (103, r13.1), (104, r14.1), (105, r15.1), (106, r16.1), (107, r17.1), (108, r18.1), (109, r19.1), (110, r20.1), (111, r21.1), (112, r23.1), (92, r24.1)]) r24.2)) (
 (vl (.bool true) r1.2).bind fun r25 =>
 some (r25.1, r25.2)) := (exC_loop P (EV P) 19 113 (cA (cA (cB (cA (cB (cB (cB (cB (bodyOf P 19))))))))) e w (kBlock 4 (kSeq P (EV P) 19 113 (cB (cB (cB (cB (cB (bodyOf P 19)))))) (kFn P (fnOf P 19))))).trans (by kernel_rfl)
theorem impl_PlaceOk_fn (x0 : Value) (w : World) : fnC P (EV P) 19 #[x0] w =
 (bx P 34 x0 w).bind fun r1 =>
 (vl (.bool false) r1.2).bind fun r2 =>
 (fa P 34 r1.1 0 r2.2).bind fun r3 =>
 (ld P 3 r3.1 r3.2).bind fun r4 =>
 (EV P 31 #[r4.1] r4.2).bind fun r5 =>
 (uo P .not r5.1 r5.2).bind fun r6 =>
 (vl r6.1 r6.2).bind fun r7 =>
 (gif r7.1 false (fa P 34 r1.1 1 r7.2) r7.2).bind fun r8 =>
 (gif r7.1 false (ld P 3 r8.1 r8.2) r8.2).bind fun r9 =>
 (gif r7.1 false (EV P 44 #[r9.1, (.int .i64 0), (.int .i64 999)] r9.2) r9.2).bind fun r10 =>
 (gif r7.1 false (uo P .not r10.1 r10.2) r10.2).bind fun r11 =>
 (pickV r7.1 (.bool true) r11.1 r11.2).bind fun r12 =>
 (vl r12.1 r12.2).bind fun r13 =>
 (gif r13.1 false (fa P 34 r1.1 2 r13.2) r13.2).bind fun r14 =>
 (gif r13.1 false (ld P 31 r14.1 r14.2) r14.2).bind fun r15 =>
 (gif r13.1 false (EV P 45 #[r15.1] r15.2) r15.2).bind fun r16 =>
 (gif r13.1 false (uo P .not r16.1 r16.2) r16.2).bind fun r17 =>
 (pickV r13.1 (.bool true) r17.1 r17.2).bind fun r18 =>
 (vl r18.1 r18.2).bind fun r19 =>
 (gif r19.1 false (fa P 34 r1.1 3 r19.2) r19.2).bind fun r20 =>
 (gif r19.1 false (ld P 22 r20.1 r20.2) r20.2).bind fun r21 =>
 (gif r19.1 false (fa P 34 r1.1 0 r21.2) r21.2).bind fun r22 =>
 (gif r19.1 false (ld P 3 r22.1 r22.2) r22.2).bind fun r23 =>
 (gif r19.1 false (EV P 46 #[r21.1, r23.1] r23.2) r23.2).bind fun r24 =>
 (gif r19.1 false (uo P .not r24.1 r24.2) r24.2).bind fun r25 =>
 (pickV r19.1 (.bool true) r25.1 r25.2).bind fun r26 =>
 (vl r26.1 r26.2).bind fun r27 =>
 (gif r27.1 false (fa P 34 r1.1 4 r27.2) r27.2).bind fun r28 =>
 (gif r27.1 false (ld P 32 r28.1 r28.2) r28.2).bind fun r29 =>
 (gif r27.1 false (b_len P #[32] 3 #[r29.1] r29.2) r29.2).bind fun r30 =>
 (gif r27.1 false (bo P .neq 3 (.tmp 37) (.const (.int .i64 3)) r30.1 (.int .i64 3) r30.2) r30.2).bind fun r31 =>
 (pickV r27.1 (.bool true) r31.1 r31.2).bind fun r32 =>
 cnd r32.1 (
 (vl (.bool false) r32.2).bind fun r33 =>
 some (r33.1, r33.2)) (
 (fa P 34 r1.1 2 r32.2).bind fun r34 =>
 (EV P 47 #[r34.1] r34.2).bind fun r35 =>
 (EV P 48 #[r35.1] r35.2).bind fun r36 =>
 (al P 70 r36.2).bind fun r37 =>
 (st P 70 r37.1 r36.1 r37.2).bind fun r38 =>
 (fa P 34 r1.1 2 r38.2).bind fun r39 =>
 (fa P 31 r39.1 0 r39.2).bind fun r40 =>
 (ld P 29 r40.1 r40.2).bind fun r41 =>
 (b_len P #[29] 3 #[r41.1] r41.2).bind fun r42 =>
 (vl (.int .i64 0) r42.2).bind fun r43 =>
 impl_PlaceOk_l1 (ups (env0 #[x0]) [(1, r1.1), (2, r2.1), (10, r3.1), (11, r4.1), (12, r5.1), (13, r6.1), (14, r7.1), (15, r8.1), (16, r9.1), (17, r10.1), (18, r11.1), (19, r12.1), (20, r13.1), (21, r14.1), (22, r15.1), (23, r16.1), (24, r17.1), (25, r18.1), (26, r19.1), (27, r20.1), (28, r21.1), (29, r22.1), (30, r23.1), (31, r24.1), (32, r25.1), (33, r26.1), (34, r27.1), (35, r28.1), (36, r29.1), (37, r30.1), (38, r31.1), (39, r32.1), (40, r34.1), (41, r35.1), (42, r36.1), (3, r37.1), (43, r39.1), (44, r40.1), (45, r41.1), (46, r42.1), (47, r43.1)]) r43.2) := by kernel_rfl
theorem spec_l2New_fn (w : World) : fnC P (EV P) 25 #[] w =
 (al P 24 w).bind fun r1 =>
 (ms P 22 (.int .i64 4) (.int .i64 4) r1.2).bind fun r2 =>
 (bd P 24 #[(0, r2.1)] r2.2).bind fun r3 =>
 (st P 24 r1.1 r3.1 r3.2).bind fun r4 =>
 ((ld P 24 r1.1 r4.2).bind fun r5 => ifP (r5.2 = r4.2) (some r5.1)).bind fun v6 =>
 some (v6, r4.2) := by kernel_rfl
theorem spec_l1In_fn (x0 x1 x2 : Value) (w : World) : fnC P (EV P) 29 #[x0, x1, x2] w =
 (vl (.bool false) w).bind fun r1 =>
 (vl x0 r1.2).bind fun r2 =>
 (vl x1 r2.2).bind fun r3 =>
 (bo P .geq 3 (.tmp 7) (.tmp 8) r2.1 r3.1 r3.2).bind fun r4 =>
 (vl r4.1 r4.2).bind fun r5 =>
 (gif r5.1 true (vl x0 r5.2) r5.2).bind fun r6 =>
 (gif r5.1 true (vl x2 r6.2) r6.2).bind fun r7 =>
 (gif r5.1 true (bo P .leq 3 (.tmp 11) (.tmp 12) r6.1 r7.1 r7.2) r7.2).bind fun r8 =>
 (pickV r5.1 r8.1 (.bool false) r8.2).bind fun r9 =>
 (vl r9.1 r9.2).bind fun r10 =>
 some (r10.1, r10.2) := by kernel_rfl
noncomputable def spec_l4New_a1 (e : Env) (w : World) : Option (Value × World) := exC P (EV P) 30 10 (cA (cB (bodyOf P 30))) e w (kSeq P (EV P) 30 10 (cB (cB (bodyOf P 30))) (kFn P (fnOf P 30)))
noncomputable def spec_l4New_j1 (e : Env) (w : World) : Option (Value × World) := exC P (EV P) 30 10 (cB (cB (bodyOf P 30))) e w (kFn P (fnOf P 30))
theorem spec_l4New_a1_any (e : Env) (w : World) {Q : Value × World → Prop} (h :
 (Ret (vl (e 0) (dw w)) fun r1 => r1.2 = (dw w) ∧
 (Ret (vl (e 1) (dw w)) fun r2 => r2.2 = (dw w) ∧
 ((Ret (EV P 70 #[r2.1] (dw w)) fun r3 => (True) ∧
 ((Ret (ms P 32 (.int .i64 3) (.int .i64 3) r3.2) fun r4 => (True) ∧
 (Ret (bd P 34 #[(0, r1.1), (2, r3.1), (4, r4.1)] r4.2) fun r5 => r5.2 = r4.2 ∧
 ((Ret (st P 34 (e 4) r5.1 r4.2) fun r6 => (True ∧ True) ∧
 Ret (spec_l4New_j1 (ups e [(5, r1.1), (6, r2.1), (7, r3.1), (8, r4.1), (9, r5.1)]) r6.2) Q)))))) ∧
 (Ret (ms P 32 (.int .i64 3) (.int .i64 3) (dw w)) fun r7 => (True) ∧
 ((Ret (EV P 70 #[r2.1] r7.2) fun r8 => (True) ∧
 (Ret (bd P 34 #[(0, r1.1), (2, r8.1), (4, r7.1)] r8.2) fun r9 => r9.2 = r8.2 ∧
 ((Ret (st P 34 (e 4) r9.1 r8.2) fun r10 => (True ∧ True) ∧
 Ret (spec_l4New_j1 (ups e [(5, r1.1), (6, r2.1), (8, r7.1), (7, r8.1), (9, r9.1)]) r10.2) Q)))))))))) : Ret (spec_l4New_a1 e w) Q := exC_any (id := 1) (ops := opsOf (cA (cB (bodyOf P 30)))) (by kernel_rfl) (by kernel_rfl) (Eq.mpr (by kernel_rfl) h)
theorem spec_l4New_j1_eq (e : Env) (w : World) : spec_l4New_j1 e w =
 ((ld P 34 (e 4) w).bind fun r1 => ifP (r1.2 = w) (some r1.1)).bind fun v2 =>
 some (v2, w) := by kernel_rfl
theorem spec_l4New_fn (x0 x1 : Value) (w : World) : fnC P (EV P) 30 #[x0, x1] w =
 (al P 34 w).bind fun r1 =>
 spec_l4New_a1 (ups (env0 #[x0, x1]) [(4, r1.1)]) r1.2 := by kernel_rfl
theorem impl_placeOk_fn (x0 : Value) (w : World) : fnC P (EV P) 31 #[x0] w =
 (vl (.bool false) w).bind fun r1 =>
 (vl x0 r1.2).bind fun r2 =>
 (EV P 44 #[r2.1, (.int .i64 0), (.int .i64 2)] r2.2).bind fun r3 =>
 (vl r3.1 r3.2).bind fun r4 =>
 some (r4.1, r4.2) := by kernel_rfl
theorem impl_nodesOk_fn (x0 : Value) (w : World) : fnC P (EV P) 32 #[x0] w =
 (vl (.bool false) w).bind fun r1 =>
 (vl x0 r1.2).bind fun r2 =>
 (EV P 44 #[r2.1, (.int .i64 1), (.int .i64 4)] r2.2).bind fun r3 =>
 (vl r3.1 r3.2).bind fun r4 =>
 some (r4.1, r4.2) := by kernel_rfl
noncomputable def impl_ChainNew_l1 (e : Env) (w : World) : Option (Value × World) := exC P (EV P) 33 23 (.loop (cA (cA (cB (cA (cB (cB (cB (bodyOf P 33))))))))) e w (kBlock 0 (kSeq P (EV P) 33 23 (cB (cB (cB (cB (bodyOf P 33))))) (kFn P (fnOf P 33))))
theorem impl_ChainNew_l1_eq (e : Env) (w : World) : impl_ChainNew_l1 e w =
 (bo P .lss 3 (.tmp 12) (.tmp 11) (e 12) (e 11) w).bind fun r1 =>
 cnd r1.1 (
 (fa P 31 (e 3) 0 (dw r1.2)).bind fun r3 =>
 ifP (r3.2 = (dw r1.2)) <|
 (ld P 29 r3.1 (dw r1.2)).bind fun r4 =>
 ifP (r4.2 = (dw r1.2)) <|
 (EV P 8 #[] (dw r1.2)).bind fun r5 =>
 ifP (ld P 29 r3.1 r5.2 = some (r4.1, r5.2) ∧ fa P 31 (e 3) 0 r5.2 = some (r3.1, r5.2) ∧ True) <|
 (bd P 73 #[(0, r5.1)] r5.2).bind fun r6 =>
 ifP (r6.2 = r5.2) <|
 (bs P 29 1 #[(0, r6.1)] r5.2).bind fun r7 =>
 ifP (True ∧ ld P 29 r3.1 r7.2 = some (r4.1, r7.2) ∧ fa P 31 (e 3) 0 r7.2 = some (r3.1, r7.2) ∧ True) <|
 (b_append P #[29, 29] 29 #[r4.1, r7.1] r7.2).bind fun r8 =>
 ifP (True ∧ True ∧ True ∧ True) <|
 (fa P 31 (e 3) 0 r8.2).bind fun r9 =>
 ifP (r9.2 = r8.2) <|
 (st P 29 r9.1 r8.1 r8.2).bind fun r10 =>
 ifP (True ∧ True ∧ True ∧ True ∧ True) <|
 (bo P .add 3 (.tmp 12) (.const (.int .i64 1)) (e 12) (.int .i64 1) r10.2).bind fun r11 =>
 (vl r11.1 r11.2).bind fun r12 =>
 impl_ChainNew_l1 (ups e [(13, r1.1), (14, r3.1), (15, r4.1), (16, r5.1), (17, r6.1), (18, r7.1), (19, r8.1), (20, r9.1), (21, r11.1), (12, r12.1)]) r12.2) (
 (ld P 31 (e 3) r1.2).bind fun r13 =>
 (st P 31 (e 2) r13.1 r13.2).bind fun r14 =>
 ((ld P 31 (e 2) r14.2).bind fun r15 => ifP (r15.2 = r14.2) (some r15.1)).bind fun v16 =>
 some (v16, r14.2)) := (exC_loop P (EV P) 33 23 (cA (cA (cB (cA (cB (cB (cB (bodyOf P 33)))))))) e w (kBlock 0 (kSeq P (EV P) 33 23 (cB (cB (cB (cB (bodyOf P 33))))) (kFn P (fnOf P 33))))).trans (by kernel_rfl)
theorem impl_ChainNew_fn (x0 : Value) (w : World) : fnC P (EV P) 33 #[x0] w =
 (al P 31 w).bind fun r1 =>
 (vl x0 r1.2).bind fun r2 =>
 (EV P 32 #[r2.1] r2.2).bind fun r3 =>
 (uo P .not r3.1 r3.2).bind fun r4 =>
 cnd r4.1 (
 (bd P 31 #[] r4.2).bind fun r5 =>
 (st P 31 r1.1 r5.1 r5.2).bind fun r6 =>
 ((ld P 31 r1.1 r6.2).bind fun r7 => ifP (r7.2 = r6.2) (some r7.1)).bind fun v8 =>
 some (v8, r6.2)) (
 (vl x0 r4.2).bind fun r9 =>
 (ms P 29 (.int .i64 0) r9.1 r9.2).bind fun r10 =>
 (bd P 31 #[(0, r10.1)] r10.2).bind fun r11 =>
 (al P 31 r11.2).bind fun r12 =>
 (st P 31 r12.1 r11.1 r12.2).bind fun r13 =>
 (vl x0 r13.2).bind fun r14 =>
 (vl (.int .i64 0) r14.2).bind fun r15 =>
 impl_ChainNew_l1 (ups (env0 #[x0]) [(2, r1.1), (4, r2.1), (5, r3.1), (6, r4.1), (8, r9.1), (9, r10.1), (10, r11.1), (3, r12.1), (11, r14.1), (12, r15.1)]) r15.2) := by kernel_rfl
noncomputable def spec_l20Open_j1 (e : Env) (w : World) : Option (Value × World) := exC P (EV P) 40 11 (cB (cB (bodyOf P 40))) e w (kFn P (fnOf P 40))
theorem spec_l20Open_j1_eq (e : Env) (w : World) : spec_l20Open_j1 e w =
 (vl (e 0) w).bind fun r1 =>
 (bd P 94 #[(0, r1.1)] r1.2).bind fun r2 =>
 (bx P 94 r2.1 r2.2).bind fun r3 =>
 (vl r3.1 r3.2).bind fun r4 =>
 some (r4.1, r4.2) := by kernel_rfl
theorem spec_l20Open_fn (x0 : Value) (w : World) : fnC P (EV P) 40 #[x0] w =
 (vl (Go.Value.pointer none) w).bind fun r1 =>
 (vl x0 r1.2).bind fun r2 =>
 (b_len P #[39] 3 #[r2.1] r2.2).bind fun r3 =>
 (bo P .gtr 3 (.tmp 4) (.const (.int .i64 2000)) r3.1 (.int .i64 2000) r3.2).bind fun r4 =>
 cnd r4.1 (
 (vl x0 r4.2).bind fun r5 =>
 (sl P 39 r5.1 none (some (.int .i64 2000)) none r5.2).bind fun r6 =>
 (vl r6.1 r6.2).bind fun r7 =>
 spec_l20Open_j1 (ups (env0 #[x0]) [(2, r1.1), (3, r2.1), (4, r3.1), (5, r4.1), (6, r5.1), (7, r6.1), (0, r7.1)]) r7.2) (
 spec_l20Open_j1 (ups (env0 #[x0]) [(2, r1.1), (3, r2.1), (4, r3.1), (5, r4.1)]) r4.2) := by kernel_rfl
theorem spec_l20Rd_one_fn (x0 x1 : Value) (w : World) : fnC P (EV P) 41 #[x0, x1] w =
 (vl (.int .i64 0) w).bind fun r1 =>
 (vl x1 r1.2).bind fun r2 =>
 (vl x0 r2.2).bind fun r3 =>
 (vl x1 r3.2).bind fun r4 =>
 (b_len P #[65] 3 #[r4.1] r4.2).bind fun r5 =>
 (EV P 74 #[r3.1, r5.1] r5.2).bind fun r6 =>
 (ia P 65 r2.1 r6.1 r6.2).bind fun r7 =>
 (ld P 3 r7.1 r7.2).bind fun r8 =>
 (vl r8.1 r8.2).bind fun r9 =>
 some (r9.1, r9.2) := by kernel_rfl
noncomputable def laws_cfChain_l1 (e : Env) (w : World) : Option (Value × World) := exC P (EV P) 42 50 (.loop (cA (cA (cB (cA (cB (cB (bodyOf P 42)))))))) e w (kBlock 0 (kSeq P (EV P) 42 50 (cB (cB (cB (bodyOf P 42)))) (kFn P (fnOf P 42))))
theorem laws_cfChain_l1_eq (e : Env) (w : World) : laws_cfChain_l1 e w =
 (vl (e 5) w).bind fun r1 =>
 (fa P 31 (e 2) 0 r1.2).bind fun r2 =>
 (ld P 29 r2.1 r2.2).bind fun r3 =>
 (b_len P #[29] 3 #[r3.1] r3.2).bind fun r4 =>
 (bo P .lss 3 (.tmp 13) (.tmp 16) r1.1 r4.1 r4.2).bind fun r5 =>
 cnd r5.1 (
 (fa P 31 (e 2) 0 (dw r5.2)).bind fun r7 =>
 ifP (r7.2 = (dw r5.2)) <|
 (ld P 29 r7.1 (dw r5.2)).bind fun r8 =>
 ifP (r8.2 = (dw r5.2)) <|
 (vl (e 5) (dw r5.2)).bind fun r9 =>
 ifP (r9.2 = (dw r5.2)) <|
 (ia P 29 r8.1 r9.1 (dw r5.2)).bind fun r10 =>
 ifP (r10.2 = (dw r5.2)) <|
 (fa P 73 r10.1 0 (dw r5.2)).bind fun r11 =>
 ifP (r11.2 = (dw r5.2)) <|
 (ld P 24 r11.1 (dw r5.2)).bind fun r12 =>
 ifP (r12.2 = (dw r5.2)) <|
 (fa P 31 (e 3) 0 (dw r5.2)).bind fun r13 =>
 ifP (r13.2 = (dw r5.2)) <|
 (ld P 29 r13.1 (dw r5.2)).bind fun r14 =>
 ifP (r14.2 = (dw r5.2)) <|
 (vl (e 5) (dw r5.2)).bind fun r15 =>
 ifP (r15.2 = (dw r5.2)) <|
 (ia P 29 r14.1 r15.1 (dw r5.2)).bind fun r16 =>
 ifP (r16.2 = (dw r5.2)) <|
 (fa P 73 r16.1 0 (dw r5.2)).bind fun r17 =>
 ifP (r17.2 = (dw r5.2)) <|
 (ld P 24 r17.1 (dw r5.2)).bind fun r18 =>
 ifP (r18.2 = (dw r5.2)) <|
 (EV P 75 #[r12.1, r18.1] (dw r5.2)).bind fun r19 =>
 ifP (True ∧ True ∧ True ∧ True ∧ True ∧ True ∧ True ∧ True ∧ True ∧ True ∧ True) <|
 (uo P .not r19.1 r19.2).bind fun r20 =>
 ifP (r20.2 = r19.2) <|
 (vl r20.1 r19.2).bind fun r21 =>
 ifP (r21.2 = r19.2) <|
 (gif r21.1 false (fa P 31 (e 2) 0 r19.2) r19.2).bind fun r22 =>
 ifP (r22.2 = r19.2) <|
 (gif r21.1 false (ld P 29 r22.1 r19.2) r19.2).bind fun r23 =>
 ifP (r23.2 = r19.2) <|
 (gif r21.1 false (vl (e 5) r19.2) r19.2).bind fun r24 =>
 ifP (r24.2 = r19.2) <|
 (gif r21.1 false (ia P 29 r23.1 r24.1 r19.2) r19.2).bind fun r25 =>
 ifP (r25.2 = r19.2) <|
 (gif r21.1 false (fa P 73 r25.1 1 r19.2) r19.2).bind fun r26 =>
 ifP (r26.2 = r19.2) <|
 (gif r21.1 false (ld P 22 r26.1 r19.2) r19.2).bind fun r27 =>
 ifP (r27.2 = r19.2) <|
 (gif r21.1 false (fa P 31 (e 3) 0 r19.2) r19.2).bind fun r28 =>
 ifP (r28.2 = r19.2) <|
 (gif r21.1 false (ld P 29 r28.1 r19.2) r19.2).bind fun r29 =>
 ifP (r29.2 = r19.2) <|
 (gif r21.1 false (vl (e 5) r19.2) r19.2).bind fun r30 =>
 ifP (r30.2 = r19.2) <|
 (gif r21.1 false (ia P 29 r29.1 r30.1 r19.2) r19.2).bind fun r31 =>
 ifP (r31.2 = r19.2) <|
 (gif r21.1 false (fa P 73 r31.1 1 r19.2) r19.2).bind fun r32 =>
 ifP (r32.2 = r19.2) <|
 (gif r21.1 false (ld P 22 r32.1 r19.2) r19.2).bind fun r33 =>
 ifP (r33.2 = r19.2) <|
 (gif r21.1 false (EV P 43 #[r27.1, r33.1] r19.2) r19.2).bind fun r34 =>
 ifP (True ∧ True ∧ True ∧ True ∧ True ∧ True ∧ True ∧ True ∧ True ∧ True ∧ True ∧ True ∧ True ∧ True ∧ True ∧ True ∧ True ∧ True ∧ True ∧ True ∧ True ∧ True) <|
 (gif r21.1 false (uo P .not r34.1 r34.2) r34.2).bind fun r35 =>
 ifP (r35.2 = r34.2) <|
 (pickV r21.1 (.bool true) r35.1 r34.2).bind fun r36 =>
 ifP (r36.2 = r34.2) <|
 cnd r36.1 (
 (vl (.bool false) r34.2).bind fun r37 =>
 some (r37.1, r37.2)) (
 (vl (e 5) r34.2).bind fun r38 =>
 (bo P .add 3 (.tmp 18) (.const (.int .i64 1)) r38.1 (.int .i64 1) r38.2).bind fun r39 =>
 (vl r39.1 r39.2).bind fun r40 =>
 laws_cfChain_l1 (ups e [(13, r1.1), (14, r2.1), (15, r3.1), (16, r4.1), (17, r5.1), (20, r7.1), (21, r8.1), (22, r9.1), (23, r10.1), (24, r11.1), (25, r12.1), (26, r13.1), (27, r14.1), (28, r15.1), (29, r16.1), (30, r17.1), (31, r18.1), (32, r19.1), (33, r20.1), (34, r21.1), (35, r22.1), (36, r23.1), (37, r24.1), (38, r25.1), (39, r26.1), (40, r27.1), (41, r28.1), (42, r29.1), (43, r30.1), (44, r31.1), (45, r32.1), (46, r33.1), (47, r34.1), (48, r35.1), (49, r36.1), (18, r38.1), (19, r39.1), (5, r40.1)]) r40.2)) (
 (vl (.bool true) r5.2).bind fun r41 =>
 some (r41.1, r41.2)) := (exC_loop P (EV P) 42 50 (cA (cA (cB (cA (cB (cB (bodyOf P 42))))))) e w (kBlock 0 (kSeq P (EV P) 42 50 (cB (cB (cB (bodyOf P 42)))) (kFn P (fnOf P 42))))).trans (by kernel_rfl)
theorem laws_cfChain_fn (x0 x1 : Value) (w : World) : fnC P (EV P) 42 #[x0, x1] w =
 (bx P 31 x0 w).bind fun r1 =>
 (bx P 31 x1 r1.2).bind fun r2 =>
 (vl (.bool false) r2.2).bind fun r3 =>
 (fa P 31 r1.1 0 r3.2).bind fun r4 =>
 (ld P 29 r4.1 r4.2).bind fun r5 =>
 (b_len P #[29] 3 #[r5.1] r5.2).bind fun r6 =>
 (fa P 31 r2.1 0 r6.2).bind fun r7 =>
 (ld P 29 r7.1 r7.2).bind fun r8 =>
 (b_len P #[29] 3 #[r8.1] r8.2).bind fun r9 =>
 (bo P .neq 3 (.tmp 8) (.tmp 11) r6.1 r9.1 r9.2).bind fun r10 =>
 cnd r10.1 (
 (vl (.bool false) r10.2).bind fun r11 =>
 some (r11.1, r11.2)) (
 (vl (.int .i64 0) r10.2).bind fun r12 =>
 laws_cfChain_l1 (ups (env0 #[x0, x1]) [(2, r1.1), (3, r2.1), (4, r3.1), (6, r4.1), (7, r5.1), (8, r6.1), (9, r7.1), (10, r8.1), (11, r9.1), (12, r10.1), (5, r12.1)]) r12.2) := by kernel_rfl
noncomputable def laws_cfVers_l1 (e : Env) (w : World) : Option (Value × World) := exC P (EV P) 43 27 (.loop (cA (cA (cB (cA (cB (cB (bodyOf P 43)))))))) e w (kBlock 0 (kSeq P (EV P) 43 27 (cB (cB (cB (bodyOf P 43)))) (kFn P (fnOf P 43))))
theorem laws_cfVers_l1_eq (e : Env) (w : World) : laws_cfVers_l1 e w =
 (vl (e 5) w).bind fun r1 =>
 (vl (e 0) r1.2).bind fun r2 =>
 (b_len P #[22] 3 #[r2.1] r2.2).bind fun r3 =>
 (bo P .lss 3 (.tmp 11) (.tmp 13) r1.1 r3.1 r3.2).bind fun r4 =>
 cnd r4.1 (
 (vl (e 0) (dw r4.2)).bind fun r6 =>
 ifP (r6.2 = (dw r4.2)) <|
 (vl (e 5) (dw r4.2)).bind fun r7 =>
 ifP (r7.2 = (dw r4.2)) <|
 (ia P 22 r6.1 r7.1 (dw r4.2)).bind fun r8 =>
 ifP (r8.2 = (dw r4.2)) <|
 (ld P 78 r8.1 (dw r4.2)).bind fun r9 =>
 ifP (r9.2 = (dw r4.2)) <|
 (vl (e 1) (dw r4.2)).bind fun r10 =>
 ifP (r10.2 = (dw r4.2)) <|
 (vl (e 5) (dw r4.2)).bind fun r11 =>
 ifP (r11.2 = (dw r4.2)) <|
 (ia P 22 r10.1 r11.1 (dw r4.2)).bind fun r12 =>
 ifP (r12.2 = (dw r4.2)) <|
 (ld P 78 r12.1 (dw r4.2)).bind fun r13 =>
 ifP (r13.2 = (dw r4.2)) <|
 (EV P 76 #[r9.1, r13.1] (dw r4.2)).bind fun r14 =>
 ifP (True ∧ True ∧ True ∧ True ∧ True) <|
 (uo P .not r14.1 r14.2).bind fun r15 =>
 ifP (r15.2 = r14.2) <|
 cnd r15.1 (
 (vl (.bool false) r14.2).bind fun r16 =>
 some (r16.1, r16.2)) (
 (vl (e 5) r14.2).bind fun r17 =>
 (bo P .add 3 (.tmp 15) (.const (.int .i64 1)) r17.1 (.int .i64 1) r17.2).bind fun r18 =>
 (vl r18.1 r18.2).bind fun r19 =>
 laws_cfVers_l1 (ups e [(11, r1.1), (12, r2.1), (13, r3.1), (14, r4.1), (17, r6.1), (18, r7.1), (19, r8.1), (20, r9.1), (21, r10.1), (22, r11.1), (23, r12.1), (24, r13.1), (25, r14.1), (26, r15.1), (15, r17.1), (16, r18.1), (5, r19.1)]) r19.2)) (
 (vl (.bool true) r4.2).bind fun r20 =>
 some (r20.1, r20.2)) := (exC_loop P (EV P) 43 27 (cA (cA (cB (cA (cB (cB (bodyOf P 43))))))) e w (kBlock 0 (kSeq P (EV P) 43 27 (cB (cB (cB (bodyOf P 43)))) (kFn P (fnOf P 43))))).trans (by kernel_rfl)
theorem laws_cfVers_fn (x0 x1 : Value) (w : World) : fnC P (EV P) 43 #[x0, x1] w =
 (vl (.bool false) w).bind fun r1 =>
 (vl x0 r1.2).bind fun r2 =>
 (b_len P #[22] 3 #[r2.1] r2.2).bind fun r3 =>
 (vl x1 r3.2).bind fun r4 =>
 (b_len P #[22] 3 #[r4.1] r4.2).bind fun r5 =>
 (bo P .neq 3 (.tmp 7) (.tmp 9) r3.1 r5.1 r5.2).bind fun r6 =>
 cnd r6.1 (
 (vl (.bool false) r6.2).bind fun r7 =>
 some (r7.1, r7.2)) (
 (vl (.int .i64 0) r6.2).bind fun r8 =>
 laws_cfVers_l1 (ups (env0 #[x0, x1]) [(4, r1.1), (6, r2.1), (7, r3.1), (8, r4.1), (9, r5.1), (10, r6.1), (5, r8.1)]) r8.2) := by kernel_rfl
theorem impl_within_fn (x0 x1 x2 : Value) (w : World) : fnC P (EV P) 44 #[x0, x1, x2] w =
 (vl (.bool false) w).bind fun r1 =>
 (vl x0 r1.2).bind fun r2 =>
 (vl x1 r2.2).bind fun r3 =>
 (bo P .geq 3 (.tmp 7) (.tmp 8) r2.1 r3.1 r3.2).bind fun r4 =>
 (vl r4.1 r4.2).bind fun r5 =>
 (gif r5.1 true (vl x0 r5.2) r5.2).bind fun r6 =>
 (gif r5.1 true (vl x2 r6.2) r6.2).bind fun r7 =>
 (gif r5.1 true (bo P .leq 3 (.tmp 11) (.tmp 12) r6.1 r7.1 r7.2) r7.2).bind fun r8 =>
 (pickV r5.1 r8.1 (.bool false) r8.2).bind fun r9 =>
 (vl r9.1 r9.2).bind fun r10 =>
 some (r10.1, r10.2) := by kernel_rfl
noncomputable def impl_ChainOk_l1 (e : Env) (w : World) : Option (Value × World) := exC P (EV P) 45 71 (.loop (cA (cA (cB (cA (cB (cB (bodyOf P 45)))))))) e w (kBlock 0 (kSeq P (EV P) 45 71 (cB (cB (cB (bodyOf P 45)))) (kFn P (fnOf P 45))))
noncomputable def impl_ChainOk_l2 (e : Env) (w : World) : Option (Value × World) := exC P (EV P) 45 71 (.loop (cA (cA (cB (cA (cB (cB (cB (bodyOf P 45))))))))) e w (kBlock 2 (kSeq P (EV P) 45 71 (cB (cB (cB (cB (bodyOf P 45))))) (kFn P (fnOf P 45))))
theorem impl_ChainOk_l1_eq (e : Env) (w : World) : impl_ChainOk_l1 e w =
 (bo P .lss 3 (.tmp 15) (.tmp 14) (e 15) (e 14) w).bind fun r1 =>
 cnd r1.1 (
 (ia P 29 (e 13) (e 15) r1.2).bind fun r2 =>
 (ld P 73 r2.1 r2.2).bind fun r3 =>
 (al P 73 r3.2).bind fun r4 =>
 (st P 73 r4.1 r3.1 r4.2).bind fun r5 =>
 (fa P 73 r4.1 0 r5.2).bind fun r6 =>
 (ld P 24 r6.1 r6.2).bind fun r7 =>
 (EV P 77 #[r7.1] r7.2).bind fun r8 =>
 (uo P .not r8.1 r8.2).bind fun r9 =>
 (vl r9.1 r9.2).bind fun r10 =>
 (gif r10.1 false (fa P 73 r4.1 1 r10.2) r10.2).bind fun r11 =>
 (gif r10.1 false (ld P 22 r11.1 r11.2) r11.2).bind fun r12 =>
 (gif r10.1 false (b_len P #[22] 3 #[r12.1] r12.2) r12.2).bind fun r13 =>
 (gif r10.1 false (bo P .gtr 3 (.tmp 26) (.const (.int .i64 6)) r13.1 (.int .i64 6) r13.2) r13.2).bind fun r14 =>
 (pickV r10.1 (.bool true) r14.1 r14.2).bind fun r15 =>
 (vl r15.1 r15.2).bind fun r16 =>
 (gif r16.1 false (fa P 73 r4.1 1 r16.2) r16.2).bind fun r17 =>
 (gif r16.1 false (ld P 22 r17.1 r17.2) r17.2).bind fun r18 =>
 (gif r16.1 false (EV P 78 #[r18.1, (.func (.func 79) #[] #[])] r18.2) r18.2).bind fun r19 =>
 (pickV r16.1 (.bool true) r19.1 r19.2).bind fun r20 =>
 cnd r20.1 (
 (vl (.bool false) r20.2).bind fun r21 =>
 some (r21.1, r21.2)) (
 (bo P .add 3 (.tmp 15) (.const (.int .i64 1)) (e 15) (.int .i64 1) r20.2).bind fun r22 =>
 (vl r22.1 r22.2).bind fun r23 =>
 impl_ChainOk_l1 (ups e [(16, r1.1), (17, r2.1), (18, r3.1), (4, r4.1), (19, r6.1), (20, r7.1), (21, r8.1), (22, r9.1), (23, r10.1), (24, r11.1), (25, r12.1), (26, r13.1), (27, r14.1), (28, r15.1), (29, r16.1), (30, r17.1), (31, r18.1), (32, r19.1), (33, r20.1), (34, r22.1), (15, r23.1)]) r23.2)) (
 (fa P 31 (e 1) 0 r1.2).bind fun r24 =>
 (ld P 29 r24.1 r24.2).bind fun r25 =>
 (b_len P #[29] 3 #[r25.1] r25.2).bind fun r26 =>
 (vl (.int .i64 0) r26.2).bind fun r27 =>
 impl_ChainOk_l2 (ups e [(16, r1.1), (35, r24.1), (36, r25.1), (37, r26.1), (38, r27.1)]) r27.2) := (exC_loop P (EV P) 45 71 (cA (cA (cB (cA (cB (cB (bodyOf P 45))))))) e w (kBlock 0 (kSeq P (EV P) 45 71 (cB (cB (cB (bodyOf P 45)))) (kFn P (fnOf P 45))))).trans (by kernel_rfl)
theorem impl_ChainOk_l2_eq (e : Env) (w : World) : impl_ChainOk_l2 e w =
 (bo P .lss 3 (.tmp 38) (.tmp 37) (e 38) (e 37) w).bind fun r1 =>
 cnd r1.1 (
 (vl (e 38) r1.2).bind fun r2 =>
 (ia P 29 (e 36) (e 38) r2.2).bind fun r3 =>
 (ld P 73 r3.1 r3.2).bind fun r4 =>
 (al P 73 r4.2).bind fun r5 =>
 (vl r2.1 r5.2).bind fun r6 =>
 (st P 73 r5.1 r4.1 r6.2).bind fun r7 =>
 (ld P 31 (e 1) (dw r7.2)).bind fun r9 =>
 ifP (r9.2 = (dw r7.2)) <|
 (vl r6.1 (dw r7.2)).bind fun r10 =>
 ifP (r10.2 = (dw r7.2)) <|
 (EV P 81 #[r9.1, r10.1] (dw r7.2)).bind fun r11 =>
 ifP (True ∧ True) <|
 (vl r11.1 r11.2).bind fun r12 =>
 ifP (r12.2 = r11.2) <|
 (gif r12.1 true (fa P 73 r5.1 1 r11.2) r11.2).bind fun r13 =>
 ifP (r13.2 = r11.2) <|
 (gif r12.1 true (ld P 22 r13.1 r11.2) r11.2).bind fun r14 =>
 ifP (r14.2 = r11.2) <|
 (gif r12.1 true (b_len P #[22] 3 #[r14.1] r11.2) r11.2).bind fun r15 =>
 ifP (r15.2 = r11.2) <|
 (gif r12.1 true (bo P .gtr 3 (.tmp 49) (.const (.int .i64 0)) r15.1 (.int .i64 0) r11.2) r11.2).bind fun r16 =>
 ifP (r16.2 = r11.2) <|
 (pickV r12.1 r16.1 (.bool false) r11.2).bind fun r17 =>
 ifP (r17.2 = r11.2) <|
 (vl r17.1 r11.2).bind fun r18 =>
 ifP (r18.2 = r11.2) <|
 (gif r18.1 false (ld P 31 (e 1) r11.2) r11.2).bind fun r19 =>
 ifP (r19.2 = r11.2) <|
 (gif r18.1 false (vl r6.1 r11.2) r11.2).bind fun r20 =>
 ifP (r20.2 = r11.2) <|
 (gif r18.1 false (EV P 81 #[r19.1, r20.1] r11.2) r11.2).bind fun r21 =>
 ifP (True ∧ True ∧ True ∧ True ∧ True ∧ True ∧ True) <|
 (gif r18.1 false (uo P .not r21.1 r21.2) r21.2).bind fun r22 =>
 ifP (r22.2 = r21.2) <|
 (gif r18.1 false (vl r22.1 r21.2) r21.2).bind fun r23 =>
 ifP (r23.2 = r21.2) <|
 (gif r23.1 true (ld P 73 r5.1 r21.2) r21.2).bind fun r24 =>
 ifP (r24.2 = r21.2) <|
 (gif r23.1 true (fa P 31 (e 1) 0 r21.2) r21.2).bind fun r25 =>
 ifP (r25.2 = r21.2) <|
 (gif r23.1 true (ld P 29 r25.1 r21.2) r21.2).bind fun r26 =>
 ifP (r26.2 = r21.2) <|
 (gif r23.1 true (vl r6.1 r21.2) r21.2).bind fun r27 =>
 ifP (r27.2 = r21.2) <|
 (gif r23.1 true (bo P .add 3 (.tmp 61) (.const (.int .i64 1)) r27.1 (.int .i64 1) r21.2) r21.2).bind fun r28 =>
 ifP (r28.2 = r21.2) <|
 (gif r23.1 true (ia P 29 r26.1 r28.1 r21.2) r21.2).bind fun r29 =>
 ifP (r29.2 = r21.2) <|
 (gif r23.1 true (fa P 73 r29.1 0 r21.2) r21.2).bind fun r30 =>
 ifP (r30.2 = r21.2) <|
 (gif r23.1 true (ld P 24 r30.1 r21.2) r21.2).bind fun r31 =>
 ifP (r31.2 = r21.2) <|
 (gif r23.1 true (EV P 82 #[r24.1, r31.1] r21.2) r21.2).bind fun r32 =>
 ifP (True ∧ True ∧ True ∧ True ∧ True ∧ True ∧ True ∧ True ∧ True ∧ True ∧ True ∧ True ∧ True ∧ True ∧ True) <|
 (gif r23.1 true (uo P .not r32.1 r32.2) r32.2).bind fun r33 =>
 ifP (r33.2 = r32.2) <|
 (gif r18.1 false (pickV r23.1 r33.1 (.bool false) r32.2) r32.2).bind fun r34 =>
 ifP (r34.2 = r32.2) <|
 (pickV r18.1 (.bool true) r34.1 r32.2).bind fun r35 =>
 ifP (r35.2 = r32.2) <|
 cnd r35.1 (
 (vl (.bool false) r32.2).bind fun r36 =>
 some (r36.1, r36.2)) (
 (bo P .add 3 (.tmp 38) (.const (.int .i64 1)) (e 38) (.int .i64 1) r32.2).bind fun r37 =>
 (vl r37.1 r37.2).bind fun r38 =>
 impl_ChainOk_l2 (ups e [(39, r1.1), (40, r2.1), (41, r3.1), (42, r4.1), (6, r5.1), (5, r6.1), (43, r9.1), (44, r10.1), (45, r11.1), (46, r12.1), (47, r13.1), (48, r14.1), (49, r15.1), (50, r16.1), (51, r17.1), (52, r18.1), (53, r19.1), (54, r20.1), (55, r21.1), (56, r22.1), (57, r23.1), (58, r24.1), (59, r25.1), (60, r26.1), (61, r27.1), (62, r28.1), (63, r29.1), (64, r30.1), (65, r31.1), (66, r32.1), (67, r33.1), (68, r34.1), (69, r35.1), (70, r37.1), (38, r38.1)]) r38.2)) (
 (vl (.bool true) r1.2).bind fun r39 =>
 some (r39.1, r39.2)) := (exC_loop P (EV P) 45 71 (cA (cA (cB (cA (cB (cB (cB (bodyOf P 45)))))))) e w (kBlock 2 (kSeq P (EV P) 45 71 (cB (cB (cB (cB (bodyOf P 45))))) (kFn P (fnOf P 45))))).trans (by kernel_rfl)
theorem impl_ChainOk_fn (x0 : Value) (w : World) : fnC P (EV P) 45 #[x0] w =
 (bx P 31 x0 w).bind fun r1 =>
 (vl (.bool false) r1.2).bind fun r2 =>
 (fa P 31 r1.1 0 r2.2).bind fun r3 =>
 (ld P 29 r3.1 r3.2).bind fun r4 =>
 (b_len P #[29] 3 #[r4.1] r4.2).bind fun r5 =>
 (EV P 32 #[r5.1] r5.2).bind fun r6 =>
 (uo P .not r6.1 r6.2).bind fun r7 =>
 cnd r7.1 (
 (vl (.bool false) r7.2).bind fun r8 =>
 some (r8.1, r8.2)) (
 (fa P 31 r1.1 0 r7.2).bind fun r9 =>
 (ld P 29 r9.1 r9.2).bind fun r10 =>
 (b_len P #[29] 3 #[r10.1] r10.2).bind fun r11 =>
 (vl (.int .i64 0) r11.2).bind fun r12 =>
 impl_ChainOk_l1 (ups (env0 #[x0]) [(1, r1.1), (2, r2.1), (7, r3.1), (8, r4.1), (9, r5.1), (10, r6.1), (11, r7.1), (12, r9.1), (13, r10.1), (14, r11.1), (15, r12.1)]) r12.2) := by kernel_rfl
end Go.Proofs.Ytggmfmanpjcjkaa.X
