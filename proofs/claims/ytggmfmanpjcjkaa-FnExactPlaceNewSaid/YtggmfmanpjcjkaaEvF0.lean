/- A part of the proof: an evaluator of the model, its laws, and contracts of functions; no condition. -/
import Derived.Test.YtggmfmanpjcjkaaEvT
set_option linter.unusedVariables false
set_option maxRecDepth 100000
namespace Go.Proofs.Ytggmfmanpjcjkaa.X
open Go Go.Ev
theorem laws_FnExactPlaceNew_fn (x0 x1 : Value) (w : World) : fnC P (EV P) 4 #[x0, x1] w =
 (vl (.bool false) w).bind fun r1 =>
 (vl x0 r1.2).bind fun r2 =>
 (vl x1 r2.2).bind fun r3 =>
 (EV P 12 #[r2.1, r3.1] r3.2).bind fun r4 =>
 (al P 34 r4.2).bind fun r5 =>
 (st P 34 r5.1 r4.1 r5.2).bind fun r6 =>
 (vl x0 r6.2).bind fun r7 =>
 (vl x1 r7.2).bind fun r8 =>
 (EV P 13 #[r7.1, r8.1] r8.2).bind fun r9 =>
 (al P 34 r9.2).bind fun r10 =>
 (st P 34 r10.1 r9.1 r10.2).bind fun r11 =>
 (ld P 34 r10.1 r11.2).bind fun r12 =>
 (ld P 34 r5.1 r12.2).bind fun r13 =>
 (EV P 14 #[r12.1, r13.1] r13.2).bind fun r14 =>
 (uo P .not r14.1 r14.2).bind fun r15 =>
 cnd r15.1 (
 (vl (.bool false) r15.2).bind fun r16 =>
 some (r16.1, r16.2)) (
 (vl (.int .i64 1) r15.2).bind fun r17 =>
 (ld P 34 r10.1 r17.2).bind fun r18 =>
 (vl r17.1 r18.2).bind fun r19 =>
 (EV P 15 #[r18.1, r19.1] r19.2).bind fun r20 =>
 (vl r20.1 r20.2).bind fun r21 =>
 (vl (.int .i64 1) r21.2).bind fun r22 =>
 (ld P 34 r10.1 r22.2).bind fun r23 =>
 (vl r22.1 r23.2).bind fun r24 =>
 (EV P 16 #[r23.1, r24.1] r24.2).bind fun r25 =>
 (vl r25.1 r25.2).bind fun r26 =>
 (vl r26.1 r26.2).bind fun r27 =>
 (bo P .lss 3 (.tmp 26) (.const (.int .i64 0)) r27.1 (.int .i64 0) r27.2).bind fun r28 =>
 cnd r28.1 (
 (vl (.bool false) r28.2).bind fun r29 =>
 some (r29.1, r29.2)) (
 (vl r26.1 r28.2).bind fun r30 =>
 (vl r21.1 r30.2).bind fun r31 =>
 (bo P .neq 3 (.tmp 28) (.tmp 29) r30.1 r31.1 r31.2).bind fun r32 =>
 cnd r32.1 (
 (vl (.bool false) r32.2).bind fun r33 =>
 some (r33.1, r33.2)) (
 (vl x0 r32.2).bind fun r34 =>
 (vl x1 r34.2).bind fun r35 =>
 (EV P 13 #[r34.1, r35.1] r35.2).bind fun r36 =>
 (al P 34 r36.2).bind fun r37 =>
 (st P 34 r37.1 r36.1 r37.2).bind fun r38 =>
 (ld P 34 r37.1 r38.2).bind fun r39 =>
 (ld P 34 r5.1 r39.2).bind fun r40 =>
 (EV P 14 #[r39.1, r40.1] r40.2).bind fun r41 =>
 (uo P .not r41.1 r41.2).bind fun r42 =>
 cnd r42.1 (
 (vl (.bool false) r42.2).bind fun r43 =>
 some (r43.1, r43.2)) (
 (vl (.int .i64 1) r42.2).bind fun r44 =>
 (ld P 34 r10.1 r44.2).bind fun r45 =>
 (vl r44.1 r45.2).bind fun r46 =>
 (EV P 16 #[r45.1, r46.1] r46.2).bind fun r47 =>
 (vl r47.1 r47.2).bind fun r48 =>
 (vl r48.1 r48.2).bind fun r49 =>
 (bo P .lss 3 (.tmp 41) (.const (.int .i64 0)) r49.1 (.int .i64 0) r49.2).bind fun r50 =>
 cnd r50.1 (
 (vl (.bool false) r50.2).bind fun r51 =>
 some (r51.1, r51.2)) (
 (vl r48.1 r50.2).bind fun r52 =>
 (vl r21.1 r52.2).bind fun r53 =>
 (bo P .neq 3 (.tmp 43) (.tmp 44) r52.1 r53.1 r53.2).bind fun r54 =>
 cnd r54.1 (
 (vl (.bool false) r54.2).bind fun r55 =>
 some (r55.1, r55.2)) (
 (vl (.bool true) r54.2).bind fun r56 =>
 some (r56.1, r56.2))))))) := by kernel_rfl
theorem impl_StoreNew_fn (w : World) : fnC P (EV P) 8 #[] w =
 (al P 24 w).bind fun r1 =>
 (ms P 22 (.int .i64 4) (.int .i64 4) r1.2).bind fun r2 =>
 (bd P 24 #[(0, r2.1)] r2.2).bind fun r3 =>
 (st P 24 r1.1 r3.1 r3.2).bind fun r4 =>
 ((ld P 24 r1.1 r4.2).bind fun r5 => ifP (r5.2 = r4.2) (some r5.1)).bind fun v6 =>
 some (v6, r4.2) := by kernel_rfl
theorem laws_eqStore_fn (x0 x1 : Value) (w : World) : fnC P (EV P) 9 #[x0, x1] w =
 (bx P 24 x0 w).bind fun r1 =>
 (bx P 24 x1 r1.2).bind fun r2 =>
 (vl (.bool false) r2.2).bind fun r3 =>
 (fa P 24 r1.1 0 r3.2).bind fun r4 =>
 (ld P 22 r4.1 r4.2).bind fun r5 =>
 (fa P 24 r2.1 0 r5.2).bind fun r6 =>
 (ld P 22 r6.1 r6.2).bind fun r7 =>
 (EV P 26 #[r5.1, r7.1] r7.2).bind fun r8 =>
 (uo P .not r8.1 r8.2).bind fun r9 =>
 cnd r9.1 (
 (vl (.bool false) r9.2).bind fun r10 =>
 some (r10.1, r10.2)) (
 (vl (.bool true) r9.2).bind fun r11 =>
 some (r11.1, r11.2)) := by kernel_rfl
theorem spec_PlaceNew_fn (x0 x1 : Value) (w : World) : fnC P (EV P) 12 #[x0, x1] w =
 (al P 34 w).bind fun r1 =>
 (vl x0 r1.2).bind fun r2 =>
 (EV P 29 #[r2.1, (.int .i64 0), (.int .i64 2)] r2.2).bind fun r3 =>
 (uo P .not r3.1 r3.2).bind fun r4 =>
 (vl r4.1 r4.2).bind fun r5 =>
 (gif r5.1 false (vl x1 r5.2) r5.2).bind fun r6 =>
 (gif r5.1 false (EV P 29 #[r6.1, (.int .i64 1), (.int .i64 4)] r6.2) r6.2).bind fun r7 =>
 (gif r5.1 false (uo P .not r7.1 r7.2) r7.2).bind fun r8 =>
 (pickV r5.1 (.bool true) r8.1 r8.2).bind fun r9 =>
 cnd r9.1 (
 (bd P 34 #[] r9.2).bind fun r10 =>
 (st P 34 r1.1 r10.1 r10.2).bind fun r11 =>
 ((ld P 34 r1.1 r11.2).bind fun r12 => ifP (r12.2 = r11.2) (some r12.1)).bind fun v13 =>
 some (v13, r11.2)) (
 (vl x0 r9.2).bind fun r14 =>
 (vl x1 r14.2).bind fun r15 =>
 (EV P 30 #[r14.1, r15.1] r15.2).bind fun r16 =>
 (st P 34 r1.1 r16.1 r16.2).bind fun r17 =>
 ((ld P 34 r1.1 r17.2).bind fun r18 => ifP (r18.2 = r17.2) (some r18.1)).bind fun v19 =>
 some (v19, r17.2)) := by kernel_rfl
noncomputable def impl_PlaceNew_a1 (e : Env) (w : World) : Option (Value × World) := exC P (EV P) 13 19 (cA (cB (cB (bodyOf P 13)))) e w (kSeq P (EV P) 13 19 (cB (cB (cB (bodyOf P 13)))) (kFn P (fnOf P 13)))
noncomputable def impl_PlaceNew_j1 (e : Env) (w : World) : Option (Value × World) := exC P (EV P) 13 19 (cB (cB (cB (bodyOf P 13)))) e w (kFn P (fnOf P 13))
theorem impl_PlaceNew_a1_any (e : Env) (w : World) {Q : Value × World → Prop} (h :
 (Ret (vl (e 0) (dw w)) fun r1 => r1.2 = (dw w) ∧
 (Ret (vl (e 1) (dw w)) fun r2 => r2.2 = (dw w) ∧
 ((Ret (EV P 33 #[r2.1] (dw w)) fun r3 => (True) ∧
 ((Ret (ms P 32 (.int .i64 3) (.int .i64 3) r3.2) fun r4 => (True) ∧
 (Ret (bd P 34 #[(0, r1.1), (2, r3.1), (4, r4.1)] r4.2) fun r5 => r5.2 = r4.2 ∧
 ((Ret (st P 34 (e 4) r5.1 r4.2) fun r6 => (True ∧ True) ∧
 Ret (impl_PlaceNew_j1 (ups e [(14, r1.1), (15, r2.1), (16, r3.1), (17, r4.1), (18, r5.1)]) r6.2) Q)))))) ∧
 (Ret (ms P 32 (.int .i64 3) (.int .i64 3) (dw w)) fun r7 => (True) ∧
 ((Ret (EV P 33 #[r2.1] r7.2) fun r8 => (True) ∧
 (Ret (bd P 34 #[(0, r1.1), (2, r8.1), (4, r7.1)] r8.2) fun r9 => r9.2 = r8.2 ∧
 ((Ret (st P 34 (e 4) r9.1 r8.2) fun r10 => (True ∧ True) ∧
 Ret (impl_PlaceNew_j1 (ups e [(14, r1.1), (15, r2.1), (17, r7.1), (16, r8.1), (18, r9.1)]) r10.2) Q)))))))))) : Ret (impl_PlaceNew_a1 e w) Q := exC_any (id := 3) (ops := opsOf (cA (cB (cB (bodyOf P 13))))) (by kernel_rfl) (by kernel_rfl) (Eq.mpr (by kernel_rfl) h)
theorem impl_PlaceNew_j1_eq (e : Env) (w : World) : impl_PlaceNew_j1 e w =
 ((ld P 34 (e 4) w).bind fun r1 => ifP (r1.2 = w) (some r1.1)).bind fun v2 =>
 some (v2, w) := by kernel_rfl
theorem impl_PlaceNew_fn (x0 x1 : Value) (w : World) : fnC P (EV P) 13 #[x0, x1] w =
 (al P 34 w).bind fun r1 =>
 (vl x0 r1.2).bind fun r2 =>
 (EV P 31 #[r2.1] r2.2).bind fun r3 =>
 (uo P .not r3.1 r3.2).bind fun r4 =>
 (vl r4.1 r4.2).bind fun r5 =>
 (gif r5.1 false (vl x1 r5.2) r5.2).bind fun r6 =>
 (gif r5.1 false (EV P 32 #[r6.1] r6.2) r6.2).bind fun r7 =>
 (gif r5.1 false (uo P .not r7.1 r7.2) r7.2).bind fun r8 =>
 (pickV r5.1 (.bool true) r8.1 r8.2).bind fun r9 =>
 cnd r9.1 (
 (bd P 34 #[] r9.2).bind fun r10 =>
 (st P 34 r1.1 r10.1 r10.2).bind fun r11 =>
 ((ld P 34 r1.1 r11.2).bind fun r12 => ifP (r12.2 = r11.2) (some r12.1)).bind fun v13 =>
 some (v13, r11.2)) (
 impl_PlaceNew_a1 (ups (env0 #[x0, x1]) [(4, r1.1), (5, r2.1), (6, r3.1), (7, r4.1), (8, r5.1), (9, r6.1), (10, r7.1), (11, r8.1), (12, r9.1)]) r9.2) := by kernel_rfl
theorem laws_eqPlace_fn (x0 x1 : Value) (w : World) : fnC P (EV P) 14 #[x0, x1] w =
 (bx P 34 x0 w).bind fun r1 =>
 (bx P 34 x1 r1.2).bind fun r2 =>
 (vl (.bool false) r2.2).bind fun r3 =>
 (fa P 34 r1.1 0 r3.2).bind fun r4 =>
 (ld P 3 r4.1 r4.2).bind fun r5 =>
 (fa P 34 r2.1 0 r5.2).bind fun r6 =>
 (ld P 3 r6.1 r6.2).bind fun r7 =>
 (bo P .neq 3 (.tmp 6) (.tmp 8) r5.1 r7.1 r7.2).bind fun r8 =>
 cnd r8.1 (
 (vl (.bool false) r8.2).bind fun r9 =>
 some (r9.1, r9.2)) (
 (fa P 34 r1.1 1 r8.2).bind fun r10 =>
 (ld P 3 r10.1 r10.2).bind fun r11 =>
 (fa P 34 r2.1 1 r11.2).bind fun r12 =>
 (ld P 3 r12.1 r12.2).bind fun r13 =>
 (bo P .neq 3 (.tmp 11) (.tmp 13) r11.1 r13.1 r13.2).bind fun r14 =>
 cnd r14.1 (
 (vl (.bool false) r14.2).bind fun r15 =>
 some (r15.1, r15.2)) (
 (fa P 34 r1.1 2 r14.2).bind fun r16 =>
 (ld P 31 r16.1 r16.2).bind fun r17 =>
 (fa P 34 r2.1 2 r17.2).bind fun r18 =>
 (ld P 31 r18.1 r18.2).bind fun r19 =>
 (EV P 34 #[r17.1, r19.1] r19.2).bind fun r20 =>
 (uo P .not r20.1 r20.2).bind fun r21 =>
 cnd r21.1 (
 (vl (.bool false) r21.2).bind fun r22 =>
 some (r22.1, r22.2)) (
 (fa P 34 r1.1 3 r21.2).bind fun r23 =>
 (ld P 22 r23.1 r23.2).bind fun r24 =>
 (fa P 34 r2.1 3 r24.2).bind fun r25 =>
 (ld P 22 r25.1 r25.2).bind fun r26 =>
 (EV P 26 #[r24.1, r26.1] r26.2).bind fun r27 =>
 (uo P .not r27.1 r27.2).bind fun r28 =>
 cnd r28.1 (
 (vl (.bool false) r28.2).bind fun r29 =>
 some (r29.1, r29.2)) (
 (fa P 34 r1.1 4 r28.2).bind fun r30 =>
 (ld P 32 r30.1 r30.2).bind fun r31 =>
 (fa P 34 r2.1 4 r31.2).bind fun r32 =>
 (ld P 32 r32.1 r32.2).bind fun r33 =>
 (EV P 35 #[r31.1, r33.1] r33.2).bind fun r34 =>
 (uo P .not r34.1 r34.2).bind fun r35 =>
 cnd r35.1 (
 (vl (.bool false) r35.2).bind fun r36 =>
 some (r36.1, r36.2)) (
 (fa P 34 r1.1 5 r35.2).bind fun r37 =>
 (ld P 4 r37.1 r37.2).bind fun r38 =>
 (fa P 34 r2.1 5 r38.2).bind fun r39 =>
 (ld P 4 r39.1 r39.2).bind fun r40 =>
 (bo P .neq 4 (.tmp 34) (.tmp 36) r38.1 r40.1 r40.2).bind fun r41 =>
 cnd r41.1 (
 (vl (.bool false) r41.2).bind fun r42 =>
 some (r42.1, r42.2)) (
 (vl (.bool true) r41.2).bind fun r43 =>
 some (r43.1, r43.2))))))) := by kernel_rfl
theorem laws_markPlace_fn (x0 x1 : Value) (w : World) : fnC P (EV P) 15 #[x0, x1] w =
 (bx P 34 x0 w).bind fun r1 =>
 (vl (.int .i64 0) r1.2).bind fun r2 =>
 (fa P 34 r1.1 2 r2.2).bind fun r3 =>
 (ld P 31 r3.1 r3.2).bind fun r4 =>
 (vl x1 r4.2).bind fun r5 =>
 (EV P 36 #[r4.1, r5.1] r5.2).bind fun r6 =>
 (vl r6.1 r6.2).bind fun r7 =>
 (fa P 34 r1.1 3 r7.2).bind fun r8 =>
 (ld P 22 r8.1 r8.2).bind fun r9 =>
 (vl r7.1 r9.2).bind fun r10 =>
 (EV P 27 #[r9.1, r10.1] r10.2).bind fun r11 =>
 (vl r11.1 r11.2).bind fun r12 =>
 (fa P 34 r1.1 4 r12.2).bind fun r13 =>
 (ld P 32 r13.1 r13.2).bind fun r14 =>
 (vl r12.1 r14.2).bind fun r15 =>
 (EV P 37 #[r14.1, r15.1] r15.2).bind fun r16 =>
 (vl r16.1 r16.2).bind fun r17 =>
 (vl r17.1 r17.2).bind fun r18 =>
 (vl r18.1 r18.2).bind fun r19 =>
 some (r19.1, r19.2) := by kernel_rfl
theorem laws_heldPlace_fn (x0 x1 : Value) (w : World) : fnC P (EV P) 16 #[x0, x1] w =
 (bx P 34 x0 w).bind fun r1 =>
 (vl (.int .i64 0) r1.2).bind fun r2 =>
 (fa P 34 r1.1 2 r2.2).bind fun r3 =>
 (ld P 31 r3.1 r3.2).bind fun r4 =>
 (vl x1 r4.2).bind fun r5 =>
 (EV P 38 #[r4.1, r5.1] r5.2).bind fun r6 =>
 (vl r6.1 r6.2).bind fun r7 =>
 (vl r7.1 r7.2).bind fun r8 =>
 (bo P .lss 3 (.tmp 9) (.const (.int .i64 0)) r8.1 (.int .i64 0) r8.2).bind fun r9 =>
 cnd r9.1 (
 (vl (.int .i64 (-1)) r9.2).bind fun r10 =>
 some (r10.1, r10.2)) (
 (fa P 34 r1.1 3 r9.2).bind fun r11 =>
 (ld P 22 r11.1 r11.2).bind fun r12 =>
 (vl r7.1 r12.2).bind fun r13 =>
 (EV P 28 #[r12.1, r13.1] r13.2).bind fun r14 =>
 (vl r14.1 r14.2).bind fun r15 =>
 (vl r15.1 r15.2).bind fun r16 =>
 (bo P .lss 3 (.tmp 15) (.const (.int .i64 0)) r16.1 (.int .i64 0) r16.2).bind fun r17 =>
 cnd r17.1 (
 (vl (.int .i64 (-1)) r17.2).bind fun r18 =>
 some (r18.1, r18.2)) (
 (fa P 34 r1.1 4 r17.2).bind fun r19 =>
 (ld P 32 r19.1 r19.2).bind fun r20 =>
 (vl r15.1 r20.2).bind fun r21 =>
 (EV P 39 #[r20.1, r21.1] r21.2).bind fun r22 =>
 (vl r22.1 r22.2).bind fun r23 =>
 (vl r23.1 r23.2).bind fun r24 =>
 (bo P .lss 3 (.tmp 21) (.const (.int .i64 0)) r24.1 (.int .i64 0) r24.2).bind fun r25 =>
 cnd r25.1 (
 (vl (.int .i64 (-1)) r25.2).bind fun r26 =>
 some (r26.1, r26.2)) (
 (vl r23.1 r25.2).bind fun r27 =>
 (vl r27.1 r27.2).bind fun r28 =>
 some (r28.1, r28.2)))) := by kernel_rfl
theorem spec_l2New_fn (w : World) : fnC P (EV P) 25 #[] w =
 (al P 24 w).bind fun r1 =>
 (ms P 22 (.int .i64 4) (.int .i64 4) r1.2).bind fun r2 =>
 (bd P 24 #[(0, r2.1)] r2.2).bind fun r3 =>
 (st P 24 r1.1 r3.1 r3.2).bind fun r4 =>
 ((ld P 24 r1.1 r4.2).bind fun r5 => ifP (r5.2 = r4.2) (some r5.1)).bind fun v6 =>
 some (v6, r4.2) := by kernel_rfl
noncomputable def laws_eqVerS_l1 (e : Env) (w : World) : Option (Value × World) := exC P (EV P) 26 27 (.loop (cA (cA (cB (cA (cB (cB (bodyOf P 26)))))))) e w (kBlock 0 (kSeq P (EV P) 26 27 (cB (cB (cB (bodyOf P 26)))) (kFn P (fnOf P 26))))
theorem laws_eqVerS_l1_eq (e : Env) (w : World) : laws_eqVerS_l1 e w =
 (vl (e 5) w).bind fun r1 =>
 (vl (e 0) r1.2).bind fun r2 =>
 (b_len P #[22] 3 #[r2.1] r2.2).bind fun r3 =>
 (bo P .lss 3 (.tmp 11) (.tmp 13) r1.1 r3.1 r3.2).bind fun r4 =>
 cnd r4.1 (
 (vl (e 0) (dw r4.2)).bind fun r6 =>
 ifP (r6.2 = (dw r4.2)) <|
 (vl (e 5) (dw r4.2)).bind fun r7 =>
 ifP (r7.2 = (dw r4.2)) <|
 (ia P 22 r6.1 r7.1 (dw r4.2)).bind fun r8 =>
 ifP (r8.2 = (dw r4.2)) <|
 (ld P 78 r8.1 (dw r4.2)).bind fun r9 =>
 ifP (r9.2 = (dw r4.2)) <|
 (vl (e 1) (dw r4.2)).bind fun r10 =>
 ifP (r10.2 = (dw r4.2)) <|
 (vl (e 5) (dw r4.2)).bind fun r11 =>
 ifP (r11.2 = (dw r4.2)) <|
 (ia P 22 r10.1 r11.1 (dw r4.2)).bind fun r12 =>
 ifP (r12.2 = (dw r4.2)) <|
 (ld P 78 r12.1 (dw r4.2)).bind fun r13 =>
 ifP (r13.2 = (dw r4.2)) <|
 (EV P 66 #[r9.1, r13.1] (dw r4.2)).bind fun r14 =>
 ifP (True ∧ True ∧ True ∧ True ∧ True) <|
 (uo P .not r14.1 r14.2).bind fun r15 =>
 ifP (r15.2 = r14.2) <|
 cnd r15.1 (
 (vl (.bool false) r14.2).bind fun r16 =>
 some (r16.1, r16.2)) (
 (vl (e 5) r14.2).bind fun r17 =>
 (bo P .add 3 (.tmp 15) (.const (.int .i64 1)) r17.1 (.int .i64 1) r17.2).bind fun r18 =>
 (vl r18.1 r18.2).bind fun r19 =>
 laws_eqVerS_l1 (ups e [(11, r1.1), (12, r2.1), (13, r3.1), (14, r4.1), (17, r6.1), (18, r7.1), (19, r8.1), (20, r9.1), (21, r10.1), (22, r11.1), (23, r12.1), (24, r13.1), (25, r14.1), (26, r15.1), (15, r17.1), (16, r18.1), (5, r19.1)]) r19.2)) (
 (vl (.bool true) r4.2).bind fun r20 =>
 some (r20.1, r20.2)) := (exC_loop P (EV P) 26 27 (cA (cA (cB (cA (cB (cB (bodyOf P 26))))))) e w (kBlock 0 (kSeq P (EV P) 26 27 (cB (cB (cB (bodyOf P 26)))) (kFn P (fnOf P 26))))).trans (by kernel_rfl)
theorem laws_eqVerS_fn (x0 x1 : Value) (w : World) : fnC P (EV P) 26 #[x0, x1] w =
 (vl (.bool false) w).bind fun r1 =>
 (vl x0 r1.2).bind fun r2 =>
 (b_len P #[22] 3 #[r2.1] r2.2).bind fun r3 =>
 (vl x1 r3.2).bind fun r4 =>
 (b_len P #[22] 3 #[r4.1] r4.2).bind fun r5 =>
 (bo P .neq 3 (.tmp 7) (.tmp 9) r3.1 r5.1 r5.2).bind fun r6 =>
 cnd r6.1 (
 (vl (.bool false) r6.2).bind fun r7 =>
 some (r7.1, r7.2)) (
 (vl (.int .i64 0) r6.2).bind fun r8 =>
 laws_eqVerS_l1 (ups (env0 #[x0, x1]) [(4, r1.1), (6, r2.1), (7, r3.1), (8, r4.1), (9, r5.1), (10, r6.1), (5, r8.1)]) r8.2) := by kernel_rfl
noncomputable def laws_markVerS_l1 (e : Env) (w : World) : Option (Value × World) := exC P (EV P) 27 61 (.loop (cA (cA (cB (cA (cB (bodyOf P 27))))))) e w (kBlock 0 (kSeq P (EV P) 27 61 (cB (cB (bodyOf P 27))) (kFn P (fnOf P 27))))
theorem laws_markVerS_l1_eq (e : Env) (w : World) : laws_markVerS_l1 e w =
 (vl (e 5) w).bind fun r1 =>
 (vl (e 0) r1.2).bind fun r2 =>
 (b_len P #[22] 3 #[r2.1] r2.2).bind fun r3 =>
 (bo P .lss 3 (.tmp 6) (.tmp 8) r1.1 r3.1 r3.2).bind fun r4 =>
 cnd r4.1 (
 (vl (e 0) r4.2).bind fun r5 =>
 (vl (e 5) r5.2).bind fun r6 =>
 (vl (e 1) r6.2).bind fun r7 =>
 (ia P 22 r5.1 r6.1 r7.2).bind fun r8 =>
 (fa P 78 r8.1 0 r8.2).bind fun r9 =>
 (st P 3 r9.1 r7.1 r9.2).bind fun r10 =>
 (vl (e 1) r10.2).bind fun r11 =>
 (bo P .add 3 (.tmp 17) (.const (.int .i64 1)) r11.1 (.int .i64 1) r11.2).bind fun r12 =>
 (vl r12.1 r12.2).bind fun r13 =>
 (vl (e 0) r13.2).bind fun r14 =>
 (vl (e 5) r14.2).bind fun r15 =>
 (vl r13.1 r15.2).bind fun r16 =>
 (ia P 22 r14.1 r15.1 r16.2).bind fun r17 =>
 (fa P 78 r17.1 1 r17.2).bind fun r18 =>
 (fa P 76 r18.1 0 r18.2).bind fun r19 =>
 (st P 3 r19.1 r16.1 r19.2).bind fun r20 =>
 (vl r13.1 r20.2).bind fun r21 =>
 (bo P .add 3 (.tmp 25) (.const (.int .i64 1)) r21.1 (.int .i64 1) r21.2).bind fun r22 =>
 (vl r22.1 r22.2).bind fun r23 =>
 (vl (e 0) r23.2).bind fun r24 =>
 (vl (e 5) r24.2).bind fun r25 =>
 (vl r23.1 r25.2).bind fun r26 =>
 (ia P 22 r24.1 r25.1 r26.2).bind fun r27 =>
 (fa P 78 r27.1 1 r27.2).bind fun r28 =>
 (fa P 76 r28.1 1 r28.2).bind fun r29 =>
 (st P 3 r29.1 r26.1 r29.2).bind fun r30 =>
 (vl r23.1 r30.2).bind fun r31 =>
 (bo P .add 3 (.tmp 33) (.const (.int .i64 1)) r31.1 (.int .i64 1) r31.2).bind fun r32 =>
 (vl r32.1 r32.2).bind fun r33 =>
 (vl (e 0) r33.2).bind fun r34 =>
 (vl (e 5) r34.2).bind fun r35 =>
 (ia P 22 r34.1 r35.1 r35.2).bind fun r36 =>
 (fa P 78 r36.1 2 r36.2).bind fun r37 =>
 (fa P 70 r37.1 0 r37.2).bind fun r38 =>
 (ld P 68 r38.1 r38.2).bind fun r39 =>
 (vl r33.1 r39.2).bind fun r40 =>
 (EV P 67 #[r39.1, r40.1] r40.2).bind fun r41 =>
 (vl r41.1 r41.2).bind fun r42 =>
 (vl (e 0) r42.2).bind fun r43 =>
 (vl (e 5) r43.2).bind fun r44 =>
 (vl r42.1 r44.2).bind fun r45 =>
 (EV P 68 #[r45.1] r45.2).bind fun r46 =>
 (ia P 22 r43.1 r44.1 r46.2).bind fun r47 =>
 (fa P 78 r47.1 3 r47.2).bind fun r48 =>
 (st P 9 r48.1 r46.1 r48.2).bind fun r49 =>
 (vl r42.1 r49.2).bind fun r50 =>
 (bo P .add 3 (.tmp 49) (.const (.int .i64 1)) r50.1 (.int .i64 1) r50.2).bind fun r51 =>
 (vl r51.1 r51.2).bind fun r52 =>
 (vl (e 0) r52.2).bind fun r53 =>
 (vl (e 5) r53.2).bind fun r54 =>
 (vl r52.1 r54.2).bind fun r55 =>
 (bo P .rem 3 (.tmp 53) (.const (.int .i64 3)) r55.1 (.int .i64 3) r55.2).bind fun r56 =>
 (bo P .eql 3 (.tmp 54) (.const (.int .i64 0)) r56.1 (.int .i64 0) r56.2).bind fun r57 =>
 (ia P 22 r53.1 r54.1 r57.2).bind fun r58 =>
 (fa P 78 r58.1 4 r58.2).bind fun r59 =>
 (st P 4 r59.1 r57.1 r59.2).bind fun r60 =>
 (vl r52.1 r60.2).bind fun r61 =>
 (bo P .add 3 (.tmp 58) (.const (.int .i64 1)) r61.1 (.int .i64 1) r61.2).bind fun r62 =>
 (vl r62.1 r62.2).bind fun r63 =>
 (vl (e 5) r63.2).bind fun r64 =>
 (bo P .add 3 (.tmp 10) (.const (.int .i64 1)) r64.1 (.int .i64 1) r64.2).bind fun r65 =>
 (vl r65.1 r65.2).bind fun r66 =>
 laws_markVerS_l1 (ups e [(6, r1.1), (7, r2.1), (8, r3.1), (9, r4.1), (12, r5.1), (13, r6.1), (14, r7.1), (15, r8.1), (16, r9.1), (17, r11.1), (18, r12.1), (1, r13.1), (19, r14.1), (20, r15.1), (21, r16.1), (22, r17.1), (23, r18.1), (24, r19.1), (25, r21.1), (26, r22.1), (1, r23.1), (27, r24.1), (28, r25.1), (29, r26.1), (30, r27.1), (31, r28.1), (32, r29.1), (33, r31.1), (34, r32.1), (1, r33.1), (35, r34.1), (36, r35.1), (37, r36.1), (38, r37.1), (39, r38.1), (40, r39.1), (41, r40.1), (42, r41.1), (1, r42.1), (43, r43.1), (44, r44.1), (45, r45.1), (46, r46.1), (47, r47.1), (48, r48.1), (49, r50.1), (50, r51.1), (1, r52.1), (51, r53.1), (52, r54.1), (53, r55.1), (54, r56.1), (55, r57.1), (56, r58.1), (57, r59.1), (58, r61.1), (59, r62.1), (1, r63.1), (10, r64.1), (11, r65.1), (5, r66.1)]) r66.2) (
 (vl (e 1) r4.2).bind fun r67 =>
 (vl r67.1 r67.2).bind fun r68 =>
 some (r68.1, r68.2)) := (exC_loop P (EV P) 27 61 (cA (cA (cB (cA (cB (bodyOf P 27)))))) e w (kBlock 0 (kSeq P (EV P) 27 61 (cB (cB (bodyOf P 27))) (kFn P (fnOf P 27))))).trans (by kernel_rfl)
theorem laws_markVerS_fn (x0 x1 : Value) (w : World) : fnC P (EV P) 27 #[x0, x1] w =
 (vl (.int .i64 0) w).bind fun r1 =>
 (vl (.int .i64 0) r1.2).bind fun r2 =>
 laws_markVerS_l1 (ups (env0 #[x0, x1]) [(4, r1.1), (5, r2.1)]) r2.2 := by kernel_rfl
noncomputable def laws_heldVerS_l1 (e : Env) (w : World) : Option (Value × World) := exC P (EV P) 28 73 (.loop (cA (cA (cB (cA (cB (bodyOf P 28))))))) e w (kBlock 0 (kSeq P (EV P) 28 73 (cB (cB (bodyOf P 28))) (kFn P (fnOf P 28))))
theorem laws_heldVerS_l1_eq (e : Env) (w : World) : laws_heldVerS_l1 e w =
 (vl (e 5) w).bind fun r1 =>
 (vl (e 0) r1.2).bind fun r2 =>
 (b_len P #[22] 3 #[r2.1] r2.2).bind fun r3 =>
 (bo P .lss 3 (.tmp 6) (.tmp 8) r1.1 r3.1 r3.2).bind fun r4 =>
 cnd r4.1 (
 (vl (e 0) r4.2).bind fun r5 =>
 (vl (e 5) r5.2).bind fun r6 =>
 (ia P 22 r5.1 r6.1 r6.2).bind fun r7 =>
 (fa P 78 r7.1 0 r7.2).bind fun r8 =>
 (ld P 3 r8.1 r8.2).bind fun r9 =>
 (vl (e 1) r9.2).bind fun r10 =>
 (bo P .neq 3 (.tmp 16) (.tmp 17) r9.1 r10.1 r10.2).bind fun r11 =>
 cnd r11.1 (
 (vl (.int .i64 (-1)) r11.2).bind fun r12 =>
 some (r12.1, r12.2)) (
 (vl (e 1) r11.2).bind fun r13 =>
 (bo P .add 3 (.tmp 19) (.const (.int .i64 1)) r13.1 (.int .i64 1) r13.2).bind fun r14 =>
 (vl r14.1 r14.2).bind fun r15 =>
 (vl (e 0) r15.2).bind fun r16 =>
 (vl (e 5) r16.2).bind fun r17 =>
 (ia P 22 r16.1 r17.1 r17.2).bind fun r18 =>
 (fa P 78 r18.1 1 r18.2).bind fun r19 =>
 (fa P 76 r19.1 0 r19.2).bind fun r20 =>
 (ld P 3 r20.1 r20.2).bind fun r21 =>
 (vl r15.1 r21.2).bind fun r22 =>
 (bo P .neq 3 (.tmp 26) (.tmp 27) r21.1 r22.1 r22.2).bind fun r23 =>
 cnd r23.1 (
 (vl (.int .i64 (-1)) r23.2).bind fun r24 =>
 some (r24.1, r24.2)) (
 (vl r15.1 r23.2).bind fun r25 =>
 (bo P .add 3 (.tmp 29) (.const (.int .i64 1)) r25.1 (.int .i64 1) r25.2).bind fun r26 =>
 (vl r26.1 r26.2).bind fun r27 =>
 (vl (e 0) r27.2).bind fun r28 =>
 (vl (e 5) r28.2).bind fun r29 =>
 (ia P 22 r28.1 r29.1 r29.2).bind fun r30 =>
 (fa P 78 r30.1 1 r30.2).bind fun r31 =>
 (fa P 76 r31.1 1 r31.2).bind fun r32 =>
 (ld P 3 r32.1 r32.2).bind fun r33 =>
 (vl r27.1 r33.2).bind fun r34 =>
 (bo P .neq 3 (.tmp 36) (.tmp 37) r33.1 r34.1 r34.2).bind fun r35 =>
 cnd r35.1 (
 (vl (.int .i64 (-1)) r35.2).bind fun r36 =>
 some (r36.1, r36.2)) (
 (vl r27.1 r35.2).bind fun r37 =>
 (bo P .add 3 (.tmp 39) (.const (.int .i64 1)) r37.1 (.int .i64 1) r37.2).bind fun r38 =>
 (vl r38.1 r38.2).bind fun r39 =>
 (vl (e 0) r39.2).bind fun r40 =>
 (vl (e 5) r40.2).bind fun r41 =>
 (ia P 22 r40.1 r41.1 r41.2).bind fun r42 =>
 (fa P 78 r42.1 2 r42.2).bind fun r43 =>
 (fa P 70 r43.1 0 r43.2).bind fun r44 =>
 (ld P 68 r44.1 r44.2).bind fun r45 =>
 (vl r39.1 r45.2).bind fun r46 =>
 (EV P 69 #[r45.1, r46.1] r46.2).bind fun r47 =>
 (vl r47.1 r47.2).bind fun r48 =>
 (vl r48.1 r48.2).bind fun r49 =>
 (bo P .lss 3 (.tmp 49) (.const (.int .i64 0)) r49.1 (.int .i64 0) r49.2).bind fun r50 =>
 cnd r50.1 (
 (vl (.int .i64 (-1)) r50.2).bind fun r51 =>
 some (r51.1, r51.2)) (
 (vl (e 0) (dw r50.2)).bind fun r53 =>
 ifP (r53.2 = (dw r50.2)) <|
 (vl (e 5) (dw r50.2)).bind fun r54 =>
 ifP (r54.2 = (dw r50.2)) <|
 (ia P 22 r53.1 r54.1 (dw r50.2)).bind fun r55 =>
 ifP (r55.2 = (dw r50.2)) <|
 (fa P 78 r55.1 3 (dw r50.2)).bind fun r56 =>
 ifP (r56.2 = (dw r50.2)) <|
 (ld P 9 r56.1 (dw r50.2)).bind fun r57 =>
 ifP (r57.2 = (dw r50.2)) <|
 (vl r48.1 (dw r50.2)).bind fun r58 =>
 ifP (r58.2 = (dw r50.2)) <|
 (EV P 68 #[r58.1] (dw r50.2)).bind fun r59 =>
 ifP (ld P 9 r56.1 r59.2 = some (r57.1, r59.2) ∧ fa P 78 r55.1 3 r59.2 = some (r56.1, r59.2) ∧ ia P 22 r53.1 r54.1 r59.2 = some (r55.1, r59.2) ∧ True) <|
 (bo P .neq 9 (.tmp 55) (.tmp 57) r57.1 r59.1 r59.2).bind fun r60 =>
 ifP (r60.2 = r59.2) <|
 cnd r60.1 (
 (vl (.int .i64 (-1)) r59.2).bind fun r61 =>
 some (r61.1, r61.2)) (
 (vl r48.1 r59.2).bind fun r62 =>
 (bo P .add 3 (.tmp 59) (.const (.int .i64 1)) r62.1 (.int .i64 1) r62.2).bind fun r63 =>
 (vl r63.1 r63.2).bind fun r64 =>
 (vl (e 0) r64.2).bind fun r65 =>
 (vl (e 5) r65.2).bind fun r66 =>
 (ia P 22 r65.1 r66.1 r66.2).bind fun r67 =>
 (fa P 78 r67.1 4 r67.2).bind fun r68 =>
 (ld P 4 r68.1 r68.2).bind fun r69 =>
 (vl r64.1 r69.2).bind fun r70 =>
 (bo P .rem 3 (.tmp 66) (.const (.int .i64 3)) r70.1 (.int .i64 3) r70.2).bind fun r71 =>
 (bo P .eql 3 (.tmp 67) (.const (.int .i64 0)) r71.1 (.int .i64 0) r71.2).bind fun r72 =>
 (bo P .neq 4 (.tmp 65) (.tmp 68) r69.1 r72.1 r72.2).bind fun r73 =>
 cnd r73.1 (
 (vl (.int .i64 (-1)) r73.2).bind fun r74 =>
 some (r74.1, r74.2)) (
 (vl r64.1 r73.2).bind fun r75 =>
 (bo P .add 3 (.tmp 70) (.const (.int .i64 1)) r75.1 (.int .i64 1) r75.2).bind fun r76 =>
 (vl r76.1 r76.2).bind fun r77 =>
 (vl (e 5) r77.2).bind fun r78 =>
 (bo P .add 3 (.tmp 10) (.const (.int .i64 1)) r78.1 (.int .i64 1) r78.2).bind fun r79 =>
 (vl r79.1 r79.2).bind fun r80 =>
 laws_heldVerS_l1 (ups e [(6, r1.1), (7, r2.1), (8, r3.1), (9, r4.1), (12, r5.1), (13, r6.1), (14, r7.1), (15, r8.1), (16, r9.1), (17, r10.1), (18, r11.1), (19, r13.1), (20, r14.1), (1, r15.1), (21, r16.1), (22, r17.1), (23, r18.1), (24, r19.1), (25, r20.1), (26, r21.1), (27, r22.1), (28, r23.1), (29, r25.1), (30, r26.1), (1, r27.1), (31, r28.1), (32, r29.1), (33, r30.1), (34, r31.1), (35, r32.1), (36, r33.1), (37, r34.1), (38, r35.1), (39, r37.1), (40, r38.1), (1, r39.1), (41, r40.1), (42, r41.1), (43, r42.1), (44, r43.1), (45, r44.1), (46, r45.1), (47, r46.1), (48, r47.1), (1, r48.1), (49, r49.1), (50, r50.1), (51, r53.1), (52, r54.1), (53, r55.1), (54, r56.1), (55, r57.1), (56, r58.1), (57, r59.1), (58, r60.1), (59, r62.1), (60, r63.1), (1, r64.1), (61, r65.1), (62, r66.1), (63, r67.1), (64, r68.1), (65, r69.1), (66, r70.1), (67, r71.1), (68, r72.1), (69, r73.1), (70, r75.1), (71, r76.1), (1, r77.1), (10, r78.1), (11, r79.1), (5, r80.1)]) r80.2))))))) (
 (vl (e 1) r4.2).bind fun r81 =>
 (vl r81.1 r81.2).bind fun r82 =>
 some (r82.1, r82.2)) := (exC_loop P (EV P) 28 73 (cA (cA (cB (cA (cB (bodyOf P 28)))))) e w (kBlock 0 (kSeq P (EV P) 28 73 (cB (cB (bodyOf P 28))) (kFn P (fnOf P 28))))).trans (by kernel_rfl)
theorem laws_heldVerS_fn (x0 x1 : Value) (w : World) : fnC P (EV P) 28 #[x0, x1] w =
 (vl (.int .i64 0) w).bind fun r1 =>
 (vl (.int .i64 0) r1.2).bind fun r2 =>
 laws_heldVerS_l1 (ups (env0 #[x0, x1]) [(4, r1.1), (5, r2.1)]) r2.2 := by kernel_rfl
theorem spec_l1In_fn (x0 x1 x2 : Value) (w : World) : fnC P (EV P) 29 #[x0, x1, x2] w =
 (vl (.bool false) w).bind fun r1 =>
 (vl x0 r1.2).bind fun r2 =>
 (vl x1 r2.2).bind fun r3 =>
 (bo P .geq 3 (.tmp 7) (.tmp 8) r2.1 r3.1 r3.2).bind fun r4 =>
 (vl r4.1 r4.2).bind fun r5 =>
 (gif r5.1 true (vl x0 r5.2) r5.2).bind fun r6 =>
 (gif r5.1 true (vl x2 r6.2) r6.2).bind fun r7 =>
 (gif r5.1 true (bo P .leq 3 (.tmp 11) (.tmp 12) r6.1 r7.1 r7.2) r7.2).bind fun r8 =>
 (pickV r5.1 r8.1 (.bool false) r8.2).bind fun r9 =>
 (vl r9.1 r9.2).bind fun r10 =>
 some (r10.1, r10.2) := by kernel_rfl
noncomputable def spec_l4New_a1 (e : Env) (w : World) : Option (Value × World) := exC P (EV P) 30 10 (cA (cB (bodyOf P 30))) e w (kSeq P (EV P) 30 10 (cB (cB (bodyOf P 30))) (kFn P (fnOf P 30)))
noncomputable def spec_l4New_j1 (e : Env) (w : World) : Option (Value × World) := exC P (EV P) 30 10 (cB (cB (bodyOf P 30))) e w (kFn P (fnOf P 30))
theorem spec_l4New_a1_any (e : Env) (w : World) {Q : Value × World → Prop} (h :
 (Ret (vl (e 0) (dw w)) fun r1 => r1.2 = (dw w) ∧
 (Ret (vl (e 1) (dw w)) fun r2 => r2.2 = (dw w) ∧
 ((Ret (EV P 70 #[r2.1] (dw w)) fun r3 => (True) ∧
 ((Ret (ms P 32 (.int .i64 3) (.int .i64 3) r3.2) fun r4 => (True) ∧
 (Ret (bd P 34 #[(0, r1.1), (2, r3.1), (4, r4.1)] r4.2) fun r5 => r5.2 = r4.2 ∧
 ((Ret (st P 34 (e 4) r5.1 r4.2) fun r6 => (True ∧ True) ∧
 Ret (spec_l4New_j1 (ups e [(5, r1.1), (6, r2.1), (7, r3.1), (8, r4.1), (9, r5.1)]) r6.2) Q)))))) ∧
 (Ret (ms P 32 (.int .i64 3) (.int .i64 3) (dw w)) fun r7 => (True) ∧
 ((Ret (EV P 70 #[r2.1] r7.2) fun r8 => (True) ∧
 (Ret (bd P 34 #[(0, r1.1), (2, r8.1), (4, r7.1)] r8.2) fun r9 => r9.2 = r8.2 ∧
 ((Ret (st P 34 (e 4) r9.1 r8.2) fun r10 => (True ∧ True) ∧
 Ret (spec_l4New_j1 (ups e [(5, r1.1), (6, r2.1), (8, r7.1), (7, r8.1), (9, r9.1)]) r10.2) Q)))))))))) : Ret (spec_l4New_a1 e w) Q := exC_any (id := 1) (ops := opsOf (cA (cB (bodyOf P 30)))) (by kernel_rfl) (by kernel_rfl) (Eq.mpr (by kernel_rfl) h)
theorem spec_l4New_j1_eq (e : Env) (w : World) : spec_l4New_j1 e w =
 ((ld P 34 (e 4) w).bind fun r1 => ifP (r1.2 = w) (some r1.1)).bind fun v2 =>
 some (v2, w) := by kernel_rfl
theorem spec_l4New_fn (x0 x1 : Value) (w : World) : fnC P (EV P) 30 #[x0, x1] w =
 (al P 34 w).bind fun r1 =>
 spec_l4New_a1 (ups (env0 #[x0, x1]) [(4, r1.1)]) r1.2 := by kernel_rfl
theorem impl_placeOk_fn (x0 : Value) (w : World) : fnC P (EV P) 31 #[x0] w =
 (vl (.bool false) w).bind fun r1 =>
 (vl x0 r1.2).bind fun r2 =>
 (EV P 44 #[r2.1, (.int .i64 0), (.int .i64 2)] r2.2).bind fun r3 =>
 (vl r3.1 r3.2).bind fun r4 =>
 some (r4.1, r4.2) := by kernel_rfl
theorem impl_nodesOk_fn (x0 : Value) (w : World) : fnC P (EV P) 32 #[x0] w =
 (vl (.bool false) w).bind fun r1 =>
 (vl x0 r1.2).bind fun r2 =>
 (EV P 44 #[r2.1, (.int .i64 1), (.int .i64 4)] r2.2).bind fun r3 =>
 (vl r3.1 r3.2).bind fun r4 =>
 some (r4.1, r4.2) := by kernel_rfl
noncomputable def impl_ChainNew_l1 (e : Env) (w : World) : Option (Value × World) := exC P (EV P) 33 23 (.loop (cA (cA (cB (cA (cB (cB (cB (bodyOf P 33))))))))) e w (kBlock 0 (kSeq P (EV P) 33 23 (cB (cB (cB (cB (bodyOf P 33))))) (kFn P (fnOf P 33))))
theorem impl_ChainNew_l1_eq (e : Env) (w : World) : impl_ChainNew_l1 e w =
 (bo P .lss 3 (.tmp 12) (.tmp 11) (e 12) (e 11) w).bind fun r1 =>
 cnd r1.1 (
 (fa P 31 (e 3) 0 (dw r1.2)).bind fun r3 =>
 ifP (r3.2 = (dw r1.2)) <|
 (ld P 29 r3.1 (dw r1.2)).bind fun r4 =>
 ifP (r4.2 = (dw r1.2)) <|
 (EV P 8 #[] (dw r1.2)).bind fun r5 =>
 ifP (ld P 29 r3.1 r5.2 = some (r4.1, r5.2) ∧ fa P 31 (e 3) 0 r5.2 = some (r3.1, r5.2) ∧ True) <|
 (bd P 73 #[(0, r5.1)] r5.2).bind fun r6 =>
 ifP (r6.2 = r5.2) <|
 (bs P 29 1 #[(0, r6.1)] r5.2).bind fun r7 =>
 ifP (True ∧ ld P 29 r3.1 r7.2 = some (r4.1, r7.2) ∧ fa P 31 (e 3) 0 r7.2 = some (r3.1, r7.2) ∧ True) <|
 (b_append P #[29, 29] 29 #[r4.1, r7.1] r7.2).bind fun r8 =>
 ifP (True ∧ True ∧ True ∧ True) <|
 (fa P 31 (e 3) 0 r8.2).bind fun r9 =>
 ifP (r9.2 = r8.2) <|
 (st P 29 r9.1 r8.1 r8.2).bind fun r10 =>
 ifP (True ∧ True ∧ True ∧ True ∧ True) <|
 (bo P .add 3 (.tmp 12) (.const (.int .i64 1)) (e 12) (.int .i64 1) r10.2).bind fun r11 =>
 (vl r11.1 r11.2).bind fun r12 =>
 impl_ChainNew_l1 (ups e [(13, r1.1), (14, r3.1), (15, r4.1), (16, r5.1), (17, r6.1), (18, r7.1), (19, r8.1), (20, r9.1), (21, r11.1), (12, r12.1)]) r12.2) (
 (ld P 31 (e 3) r1.2).bind fun r13 =>
 (st P 31 (e 2) r13.1 r13.2).bind fun r14 =>
 ((ld P 31 (e 2) r14.2).bind fun r15 => ifP (r15.2 = r14.2) (some r15.1)).bind fun v16 =>
 some (v16, r14.2)) := (exC_loop P (EV P) 33 23 (cA (cA (cB (cA (cB (cB (cB (bodyOf P 33)))))))) e w (kBlock 0 (kSeq P (EV P) 33 23 (cB (cB (cB (cB (bodyOf P 33))))) (kFn P (fnOf P 33))))).trans (by kernel_rfl)
theorem impl_ChainNew_fn (x0 : Value) (w : World) : fnC P (EV P) 33 #[x0] w =
 (al P 31 w).bind fun r1 =>
 (vl x0 r1.2).bind fun r2 =>
 (EV P 32 #[r2.1] r2.2).bind fun r3 =>
 (uo P .not r3.1 r3.2).bind fun r4 =>
 cnd r4.1 (
 (bd P 31 #[] r4.2).bind fun r5 =>
 (st P 31 r1.1 r5.1 r5.2).bind fun r6 =>
 ((ld P 31 r1.1 r6.2).bind fun r7 => ifP (r7.2 = r6.2) (some r7.1)).bind fun v8 =>
 some (v8, r6.2)) (
 (vl x0 r4.2).bind fun r9 =>
 (ms P 29 (.int .i64 0) r9.1 r9.2).bind fun r10 =>
 (bd P 31 #[(0, r10.1)] r10.2).bind fun r11 =>
 (al P 31 r11.2).bind fun r12 =>
 (st P 31 r12.1 r11.1 r12.2).bind fun r13 =>
 (vl x0 r13.2).bind fun r14 =>
 (vl (.int .i64 0) r14.2).bind fun r15 =>
 impl_ChainNew_l1 (ups (env0 #[x0]) [(2, r1.1), (4, r2.1), (5, r3.1), (6, r4.1), (8, r9.1), (9, r10.1), (10, r11.1), (3, r12.1), (11, r14.1), (12, r15.1)]) r15.2) := by kernel_rfl
theorem laws_eqChain_fn (x0 x1 : Value) (w : World) : fnC P (EV P) 34 #[x0, x1] w =
 (bx P 31 x0 w).bind fun r1 =>
 (bx P 31 x1 r1.2).bind fun r2 =>
 (vl (.bool false) r2.2).bind fun r3 =>
 (fa P 31 r1.1 0 r3.2).bind fun r4 =>
 (ld P 29 r4.1 r4.2).bind fun r5 =>
 (fa P 31 r2.1 0 r5.2).bind fun r6 =>
 (ld P 29 r6.1 r6.2).bind fun r7 =>
 (EV P 71 #[r5.1, r7.1] r7.2).bind fun r8 =>
 (uo P .not r8.1 r8.2).bind fun r9 =>
 cnd r9.1 (
 (vl (.bool false) r9.2).bind fun r10 =>
 some (r10.1, r10.2)) (
 (vl (.bool true) r9.2).bind fun r11 =>
 some (r11.1, r11.2)) := by kernel_rfl
noncomputable def laws_eqVerSS_l1 (e : Env) (w : World) : Option (Value × World) := exC P (EV P) 35 27 (.loop (cA (cA (cB (cA (cB (cB (bodyOf P 35)))))))) e w (kBlock 0 (kSeq P (EV P) 35 27 (cB (cB (cB (bodyOf P 35)))) (kFn P (fnOf P 35))))
theorem laws_eqVerSS_l1_eq (e : Env) (w : World) : laws_eqVerSS_l1 e w =
 (vl (e 5) w).bind fun r1 =>
 (vl (e 0) r1.2).bind fun r2 =>
 (b_len P #[32] 3 #[r2.1] r2.2).bind fun r3 =>
 (bo P .lss 3 (.tmp 11) (.tmp 13) r1.1 r3.1 r3.2).bind fun r4 =>
 cnd r4.1 (
 (vl (e 0) (dw r4.2)).bind fun r6 =>
 ifP (r6.2 = (dw r4.2)) <|
 (vl (e 5) (dw r4.2)).bind fun r7 =>
 ifP (r7.2 = (dw r4.2)) <|
 (ia P 32 r6.1 r7.1 (dw r4.2)).bind fun r8 =>
 ifP (r8.2 = (dw r4.2)) <|
 (ld P 22 r8.1 (dw r4.2)).bind fun r9 =>
 ifP (r9.2 = (dw r4.2)) <|
 (vl (e 1) (dw r4.2)).bind fun r10 =>
 ifP (r10.2 = (dw r4.2)) <|
 (vl (e 5) (dw r4.2)).bind fun r11 =>
 ifP (r11.2 = (dw r4.2)) <|
 (ia P 32 r10.1 r11.1 (dw r4.2)).bind fun r12 =>
 ifP (r12.2 = (dw r4.2)) <|
 (ld P 22 r12.1 (dw r4.2)).bind fun r13 =>
 ifP (r13.2 = (dw r4.2)) <|
 (EV P 26 #[r9.1, r13.1] (dw r4.2)).bind fun r14 =>
 ifP (True ∧ True ∧ True ∧ True ∧ True) <|
 (uo P .not r14.1 r14.2).bind fun r15 =>
 ifP (r15.2 = r14.2) <|
 cnd r15.1 (
 (vl (.bool false) r14.2).bind fun r16 =>
 some (r16.1, r16.2)) (
 (vl (e 5) r14.2).bind fun r17 =>
 (bo P .add 3 (.tmp 15) (.const (.int .i64 1)) r17.1 (.int .i64 1) r17.2).bind fun r18 =>
 (vl r18.1 r18.2).bind fun r19 =>
 laws_eqVerSS_l1 (ups e [(11, r1.1), (12, r2.1), (13, r3.1), (14, r4.1), (17, r6.1), (18, r7.1), (19, r8.1), (20, r9.1), (21, r10.1), (22, r11.1), (23, r12.1), (24, r13.1), (25, r14.1), (26, r15.1), (15, r17.1), (16, r18.1), (5, r19.1)]) r19.2)) (
 (vl (.bool true) r4.2).bind fun r20 =>
 some (r20.1, r20.2)) := (exC_loop P (EV P) 35 27 (cA (cA (cB (cA (cB (cB (bodyOf P 35))))))) e w (kBlock 0 (kSeq P (EV P) 35 27 (cB (cB (cB (bodyOf P 35)))) (kFn P (fnOf P 35))))).trans (by kernel_rfl)
theorem laws_eqVerSS_fn (x0 x1 : Value) (w : World) : fnC P (EV P) 35 #[x0, x1] w =
 (vl (.bool false) w).bind fun r1 =>
 (vl x0 r1.2).bind fun r2 =>
 (b_len P #[32] 3 #[r2.1] r2.2).bind fun r3 =>
 (vl x1 r3.2).bind fun r4 =>
 (b_len P #[32] 3 #[r4.1] r4.2).bind fun r5 =>
 (bo P .neq 3 (.tmp 7) (.tmp 9) r3.1 r5.1 r5.2).bind fun r6 =>
 cnd r6.1 (
 (vl (.bool false) r6.2).bind fun r7 =>
 some (r7.1, r7.2)) (
 (vl (.int .i64 0) r6.2).bind fun r8 =>
 laws_eqVerSS_l1 (ups (env0 #[x0, x1]) [(4, r1.1), (6, r2.1), (7, r3.1), (8, r4.1), (9, r5.1), (10, r6.1), (5, r8.1)]) r8.2) := by kernel_rfl
theorem laws_markChain_fn (x0 x1 : Value) (w : World) : fnC P (EV P) 36 #[x0, x1] w =
 (bx P 31 x0 w).bind fun r1 =>
 (vl (.int .i64 0) r1.2).bind fun r2 =>
 (fa P 31 r1.1 0 r2.2).bind fun r3 =>
 (ld P 29 r3.1 r3.2).bind fun r4 =>
 (vl x1 r4.2).bind fun r5 =>
 (EV P 72 #[r4.1, r5.1] r5.2).bind fun r6 =>
 (vl r6.1 r6.2).bind fun r7 =>
 (vl r7.1 r7.2).bind fun r8 =>
 (vl r8.1 r8.2).bind fun r9 =>
 some (r9.1, r9.2) := by kernel_rfl
noncomputable def laws_markVerSS_l1 (e : Env) (w : World) : Option (Value × World) := exC P (EV P) 37 19 (.loop (cA (cA (cB (cA (cB (bodyOf P 37))))))) e w (kBlock 0 (kSeq P (EV P) 37 19 (cB (cB (bodyOf P 37))) (kFn P (fnOf P 37))))
theorem laws_markVerSS_l1_eq (e : Env) (w : World) : laws_markVerSS_l1 e w =
 (vl (e 5) w).bind fun r1 =>
 (vl (e 0) r1.2).bind fun r2 =>
 (b_len P #[32] 3 #[r2.1] r2.2).bind fun r3 =>
 (bo P .lss 3 (.tmp 6) (.tmp 8) r1.1 r3.1 r3.2).bind fun r4 =>
 cnd r4.1 (
 (vl (e 0) r4.2).bind fun r5 =>
 (vl (e 5) r5.2).bind fun r6 =>
 (ia P 32 r5.1 r6.1 r6.2).bind fun r7 =>
 (ld P 22 r7.1 r7.2).bind fun r8 =>
 (vl (e 1) r8.2).bind fun r9 =>
 (EV P 27 #[r8.1, r9.1] r9.2).bind fun r10 =>
 (vl r10.1 r10.2).bind fun r11 =>
 (vl (e 5) r11.2).bind fun r12 =>
 (bo P .add 3 (.tmp 10) (.const (.int .i64 1)) r12.1 (.int .i64 1) r12.2).bind fun r13 =>
 (vl r13.1 r13.2).bind fun r14 =>
 laws_markVerSS_l1 (ups e [(6, r1.1), (7, r2.1), (8, r3.1), (9, r4.1), (12, r5.1), (13, r6.1), (14, r7.1), (15, r8.1), (16, r9.1), (17, r10.1), (1, r11.1), (10, r12.1), (11, r13.1), (5, r14.1)]) r14.2) (
 (vl (e 1) r4.2).bind fun r15 =>
 (vl r15.1 r15.2).bind fun r16 =>
 some (r16.1, r16.2)) := (exC_loop P (EV P) 37 19 (cA (cA (cB (cA (cB (bodyOf P 37)))))) e w (kBlock 0 (kSeq P (EV P) 37 19 (cB (cB (bodyOf P 37))) (kFn P (fnOf P 37))))).trans (by kernel_rfl)
theorem laws_markVerSS_fn (x0 x1 : Value) (w : World) : fnC P (EV P) 37 #[x0, x1] w =
 (vl (.int .i64 0) w).bind fun r1 =>
 (vl (.int .i64 0) r1.2).bind fun r2 =>
 laws_markVerSS_l1 (ups (env0 #[x0, x1]) [(4, r1.1), (5, r2.1)]) r2.2 := by kernel_rfl
theorem laws_heldChain_fn (x0 x1 : Value) (w : World) : fnC P (EV P) 38 #[x0, x1] w =
 (bx P 31 x0 w).bind fun r1 =>
 (vl (.int .i64 0) r1.2).bind fun r2 =>
 (fa P 31 r1.1 0 r2.2).bind fun r3 =>
 (ld P 29 r3.1 r3.2).bind fun r4 =>
 (vl x1 r4.2).bind fun r5 =>
 (EV P 73 #[r4.1, r5.1] r5.2).bind fun r6 =>
 (vl r6.1 r6.2).bind fun r7 =>
 (vl r7.1 r7.2).bind fun r8 =>
 (bo P .lss 3 (.tmp 9) (.const (.int .i64 0)) r8.1 (.int .i64 0) r8.2).bind fun r9 =>
 cnd r9.1 (
 (vl (.int .i64 (-1)) r9.2).bind fun r10 =>
 some (r10.1, r10.2)) (
 (vl r7.1 r9.2).bind fun r11 =>
 (vl r11.1 r11.2).bind fun r12 =>
 some (r12.1, r12.2)) := by kernel_rfl
noncomputable def laws_heldVerSS_l1 (e : Env) (w : World) : Option (Value × World) := exC P (EV P) 39 21 (.loop (cA (cA (cB (cA (cB (bodyOf P 39))))))) e w (kBlock 0 (kSeq P (EV P) 39 21 (cB (cB (bodyOf P 39))) (kFn P (fnOf P 39))))
theorem laws_heldVerSS_l1_eq (e : Env) (w : World) : laws_heldVerSS_l1 e w =
 (vl (e 5) w).bind fun r1 =>
 (vl (e 0) r1.2).bind fun r2 =>
 (b_len P #[32] 3 #[r2.1] r2.2).bind fun r3 =>
 (bo P .lss 3 (.tmp 6) (.tmp 8) r1.1 r3.1 r3.2).bind fun r4 =>
 cnd r4.1 (
 (vl (e 0) r4.2).bind fun r5 =>
 (vl (e 5) r5.2).bind fun r6 =>
 (ia P 32 r5.1 r6.1 r6.2).bind fun r7 =>
 (ld P 22 r7.1 r7.2).bind fun r8 =>
 (vl (e 1) r8.2).bind fun r9 =>
 (EV P 28 #[r8.1, r9.1] r9.2).bind fun r10 =>
 (vl r10.1 r10.2).bind fun r11 =>
 (vl r11.1 r11.2).bind fun r12 =>
 (bo P .lss 3 (.tmp 18) (.const (.int .i64 0)) r12.1 (.int .i64 0) r12.2).bind fun r13 =>
 cnd r13.1 (
 (vl (.int .i64 (-1)) r13.2).bind fun r14 =>
 some (r14.1, r14.2)) (
 (vl (e 5) r13.2).bind fun r15 =>
 (bo P .add 3 (.tmp 10) (.const (.int .i64 1)) r15.1 (.int .i64 1) r15.2).bind fun r16 =>
 (vl r16.1 r16.2).bind fun r17 =>
 laws_heldVerSS_l1 (ups e [(6, r1.1), (7, r2.1), (8, r3.1), (9, r4.1), (12, r5.1), (13, r6.1), (14, r7.1), (15, r8.1), (16, r9.1), (17, r10.1), (1, r11.1), (18, r12.1), (19, r13.1), (10, r15.1), (11, r16.1), (5, r17.1)]) r17.2)) (
 (vl (e 1) r4.2).bind fun r18 =>
 (vl r18.1 r18.2).bind fun r19 =>
 some (r19.1, r19.2)) := (exC_loop P (EV P) 39 21 (cA (cA (cB (cA (cB (bodyOf P 39)))))) e w (kBlock 0 (kSeq P (EV P) 39 21 (cB (cB (bodyOf P 39))) (kFn P (fnOf P 39))))).trans (by kernel_rfl)
theorem laws_heldVerSS_fn (x0 x1 : Value) (w : World) : fnC P (EV P) 39 #[x0, x1] w =
 (vl (.int .i64 0) w).bind fun r1 =>
 (vl (.int .i64 0) r1.2).bind fun r2 =>
 laws_heldVerSS_l1 (ups (env0 #[x0, x1]) [(4, r1.1), (5, r2.1)]) r2.2 := by kernel_rfl
theorem impl_within_fn (x0 x1 x2 : Value) (w : World) : fnC P (EV P) 44 #[x0, x1, x2] w =
 (vl (.bool false) w).bind fun r1 =>
 (vl x0 r1.2).bind fun r2 =>
 (vl x1 r2.2).bind fun r3 =>
 (bo P .geq 3 (.tmp 7) (.tmp 8) r2.1 r3.1 r3.2).bind fun r4 =>
 (vl r4.1 r4.2).bind fun r5 =>
 (gif r5.1 true (vl x0 r5.2) r5.2).bind fun r6 =>
 (gif r5.1 true (vl x2 r6.2) r6.2).bind fun r7 =>
 (gif r5.1 true (bo P .leq 3 (.tmp 11) (.tmp 12) r6.1 r7.1 r7.2) r7.2).bind fun r8 =>
 (pickV r5.1 r8.1 (.bool false) r8.2).bind fun r9 =>
 (vl r9.1 r9.2).bind fun r10 =>
 some (r10.1, r10.2) := by kernel_rfl
end Go.Proofs.Ytggmfmanpjcjkaa.X
