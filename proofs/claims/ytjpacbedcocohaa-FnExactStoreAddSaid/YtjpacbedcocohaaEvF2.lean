/- A part of the proof: an evaluator of the model, its laws, and contracts of functions; no condition. -/
import Derived.Test.YtjpacbedcocohaaEvP
set_option linter.unusedVariables false
set_option maxRecDepth 100000
namespace Go.Proofs.Ytjpacbedcocohaa.X
open Go Go.Ev
/-! laws_toVerS -/
noncomputable def laws_toVerS_l1 (e : Env) (w : World) : Option (Value × World) := exC P (EV P) 71 23 (.loop (cA (cA (cB (cA (cB (cB (bodyOf P 71)))))))) e w (kBlock 0 (kSeq P (EV P) 71 23 (cB (cB (cB (bodyOf P 71)))) (kFn P (fnOf P 71))))
theorem laws_toVerS_l1_eq (e : Env) (w : World) : laws_toVerS_l1 e w =
 (vl (e 4) w).bind fun r1 =>
 (vl (e 0) r1.2).bind fun r2 =>
 (b_len P #[42] 3 #[r2.1] r2.2).bind fun r3 =>
 (bo P .lss 3 (.tmp 8) (.tmp 10) r1.1 r3.1 r3.2).bind fun r4 =>
 cnd r4.1 (
 (vl (e 3) r4.2).bind fun r5 =>
 (vl (e 4) r5.2).bind fun r6 =>
 (vl (e 0) r6.2).bind fun r7 =>
 (vl (e 4) r7.2).bind fun r8 =>
 (ia P 42 r7.1 r8.1 r8.2).bind fun r9 =>
 (ld P 70 r9.1 r9.2).bind fun r10 =>
 (EV P 50 #[r10.1] r10.2).bind fun r11 =>
 (ia P 47 r5.1 r6.1 r11.2).bind fun r12 =>
 (st P 56 r12.1 r11.1 r12.2).bind fun r13 =>
 (vl (e 4) r13.2).bind fun r14 =>
 (bo P .add 3 (.tmp 12) (.const (.int .i64 1)) r14.1 (.int .i64 1) r14.2).bind fun r15 =>
 (vl r15.1 r15.2).bind fun r16 =>
 laws_toVerS_l1 (ups e [(8, r1.1), (9, r2.1), (10, r3.1), (11, r4.1), (14, r5.1), (15, r6.1), (16, r7.1), (17, r8.1), (18, r9.1), (19, r10.1), (20, r11.1), (21, r12.1), (12, r14.1), (13, r15.1), (4, r16.1)]) r16.2) (
 (vl (e 3) r4.2).bind fun r17 =>
 (vl r17.1 r17.2).bind fun r18 =>
 some (r18.1, r18.2)) := (exC_loop P (EV P) 71 23 (cA (cA (cB (cA (cB (cB (bodyOf P 71))))))) e w (kBlock 0 (kSeq P (EV P) 71 23 (cB (cB (cB (bodyOf P 71)))) (kFn P (fnOf P 71))))).trans (by kernel_rfl)
theorem laws_toVerS_fn (x0 : Value) (w : World) : fnC P (EV P) 71 #[x0] w =
 (vl (Go.Value.slice none 0 0) w).bind fun r1 =>
 (vl x0 r1.2).bind fun r2 =>
 (b_len P #[42] 3 #[r2.1] r2.2).bind fun r3 =>
 (ms P 47 r3.1 r3.1 r3.2).bind fun r4 =>
 (vl r4.1 r4.2).bind fun r5 =>
 (vl (.int .i64 0) r5.2).bind fun r6 =>
 laws_toVerS_l1 (ups (env0 #[x0]) [(2, r1.1), (5, r2.1), (6, r3.1), (7, r4.1), (3, r5.1), (4, r6.1)]) r6.2 := by kernel_rfl

/-! impl_Ver_same -/
theorem impl_Ver_same_fn (x0 x1 : Value) (w : World) : fnC P (EV P) 72 #[x0, x1] w =
 (bx P 56 x0 w).bind fun r1 =>
 (bx P 56 x1 r1.2).bind fun r2 =>
 (vl (.bool false) r2.2).bind fun r3 =>
 (fa P 56 r1.1 0 r3.2).bind fun r4 =>
 (ld P 3 r4.1 r4.2).bind fun r5 =>
 (fa P 56 r2.1 0 r5.2).bind fun r6 =>
 (ld P 3 r6.1 r6.2).bind fun r7 =>
 (bo P .eql 3 (.tmp 6) (.tmp 8) r5.1 r7.1 r7.2).bind fun r8 =>
 (vl r8.1 r8.2).bind fun r9 =>
 (gif r9.1 true (fa P 56 r1.1 1 r9.2) r9.2).bind fun r10 =>
 (gif r9.1 true (ld P 32 r10.1 r10.2) r10.2).bind fun r11 =>
 (gif r9.1 true (fa P 56 r2.1 1 r11.2) r11.2).bind fun r12 =>
 (gif r9.1 true (ld P 32 r12.1 r12.2) r12.2).bind fun r13 =>
 (gif r9.1 true (bo P .eql 32 (.tmp 12) (.tmp 14) r11.1 r13.1 r13.2) r13.2).bind fun r14 =>
 (pickV r9.1 r14.1 (.bool false) r14.2).bind fun r15 =>
 (vl r15.1 r15.2).bind fun r16 =>
 (gif r16.1 true (fa P 56 r1.1 2 r16.2) r16.2).bind fun r17 =>
 (gif r16.1 true (fa P 25 r17.1 0 r17.2) r17.2).bind fun r18 =>
 (gif r16.1 true (ld P 23 r18.1 r18.2) r18.2).bind fun r19 =>
 (gif r16.1 true (fa P 56 r2.1 2 r19.2) r19.2).bind fun r20 =>
 (gif r16.1 true (fa P 25 r20.1 0 r20.2) r20.2).bind fun r21 =>
 (gif r16.1 true (ld P 23 r21.1 r21.2) r21.2).bind fun r22 =>
 (gif r16.1 true (EV P 105 #[r19.1, r22.1] r22.2) r22.2).bind fun r23 =>
 (pickV r16.1 r23.1 (.bool false) r23.2).bind fun r24 =>
 (vl r24.1 r24.2).bind fun r25 =>
 (gif r25.1 true (fa P 56 r1.1 3 r25.2) r25.2).bind fun r26 =>
 (gif r25.1 true (ld P 9 r26.1 r26.2) r26.2).bind fun r27 =>
 (gif r25.1 true (fa P 56 r2.1 3 r27.2) r27.2).bind fun r28 =>
 (gif r25.1 true (ld P 9 r28.1 r28.2) r28.2).bind fun r29 =>
 (gif r25.1 true (bo P .eql 9 (.tmp 28) (.tmp 30) r27.1 r29.1 r29.2) r29.2).bind fun r30 =>
 (pickV r25.1 r30.1 (.bool false) r30.2).bind fun r31 =>
 (vl r31.1 r31.2).bind fun r32 =>
 (gif r32.1 true (fa P 56 r1.1 4 r32.2) r32.2).bind fun r33 =>
 (gif r32.1 true (ld P 4 r33.1 r33.2) r33.2).bind fun r34 =>
 (gif r32.1 true (fa P 56 r2.1 4 r34.2) r34.2).bind fun r35 =>
 (gif r32.1 true (ld P 4 r35.1 r35.2) r35.2).bind fun r36 =>
 (gif r32.1 true (bo P .eql 4 (.tmp 35) (.tmp 37) r34.1 r36.1 r36.2) r36.2).bind fun r37 =>
 (pickV r32.1 r37.1 (.bool false) r37.2).bind fun r38 =>
 (vl r38.1 r38.2).bind fun r39 =>
 some (r39.1, r39.2) := by kernel_rfl

/-! laws_eqVerS -/
noncomputable def laws_eqVerS_l1 (e : Env) (w : World) : Option (Value × World) := exC P (EV P) 73 27 (.loop (cA (cA (cB (cA (cB (cB (bodyOf P 73)))))))) e w (kBlock 0 (kSeq P (EV P) 73 27 (cB (cB (cB (bodyOf P 73)))) (kFn P (fnOf P 73))))
theorem laws_eqVerS_l1_eq (e : Env) (w : World) : laws_eqVerS_l1 e w =
 (vl (e 5) w).bind fun r1 =>
 (vl (e 0) r1.2).bind fun r2 =>
 (b_len P #[47] 3 #[r2.1] r2.2).bind fun r3 =>
 (bo P .lss 3 (.tmp 11) (.tmp 13) r1.1 r3.1 r3.2).bind fun r4 =>
 cnd r4.1 (
 (vl (e 0) (dw r4.2)).bind fun r6 =>
 ifP (r6.2 = (dw r4.2)) <|
 (vl (e 5) (dw r4.2)).bind fun r7 =>
 ifP (r7.2 = (dw r4.2)) <|
 (ia P 47 r6.1 r7.1 (dw r4.2)).bind fun r8 =>
 ifP (r8.2 = (dw r4.2)) <|
 (ld P 56 r8.1 (dw r4.2)).bind fun r9 =>
 ifP (r9.2 = (dw r4.2)) <|
 (vl (e 1) (dw r4.2)).bind fun r10 =>
 ifP (r10.2 = (dw r4.2)) <|
 (vl (e 5) (dw r4.2)).bind fun r11 =>
 ifP (r11.2 = (dw r4.2)) <|
 (ia P 47 r10.1 r11.1 (dw r4.2)).bind fun r12 =>
 ifP (r12.2 = (dw r4.2)) <|
 (ld P 56 r12.1 (dw r4.2)).bind fun r13 =>
 ifP (r13.2 = (dw r4.2)) <|
 (EV P 51 #[r9.1, r13.1] (dw r4.2)).bind fun r14 =>
 ifP (True ∧ True ∧ True ∧ True ∧ True) <|
 (uo P .not r14.1 r14.2).bind fun r15 =>
 ifP (r15.2 = r14.2) <|
 cnd r15.1 (
 (vl (.bool false) r14.2).bind fun r16 =>
 some (r16.1, r16.2)) (
 (vl (e 5) r14.2).bind fun r17 =>
 (bo P .add 3 (.tmp 15) (.const (.int .i64 1)) r17.1 (.int .i64 1) r17.2).bind fun r18 =>
 (vl r18.1 r18.2).bind fun r19 =>
 laws_eqVerS_l1 (ups e [(11, r1.1), (12, r2.1), (13, r3.1), (14, r4.1), (17, r6.1), (18, r7.1), (19, r8.1), (20, r9.1), (21, r10.1), (22, r11.1), (23, r12.1), (24, r13.1), (25, r14.1), (26, r15.1), (15, r17.1), (16, r18.1), (5, r19.1)]) r19.2)) (
 (vl (.bool true) r4.2).bind fun r20 =>
 some (r20.1, r20.2)) := (exC_loop P (EV P) 73 27 (cA (cA (cB (cA (cB (cB (bodyOf P 73))))))) e w (kBlock 0 (kSeq P (EV P) 73 27 (cB (cB (cB (bodyOf P 73)))) (kFn P (fnOf P 73))))).trans (by kernel_rfl)
theorem laws_eqVerS_fn (x0 x1 : Value) (w : World) : fnC P (EV P) 73 #[x0, x1] w =
 (vl (.bool false) w).bind fun r1 =>
 (vl x0 r1.2).bind fun r2 =>
 (b_len P #[47] 3 #[r2.1] r2.2).bind fun r3 =>
 (vl x1 r3.2).bind fun r4 =>
 (b_len P #[47] 3 #[r4.1] r4.2).bind fun r5 =>
 (bo P .neq 3 (.tmp 7) (.tmp 9) r3.1 r5.1 r5.2).bind fun r6 =>
 cnd r6.1 (
 (vl (.bool false) r6.2).bind fun r7 =>
 some (r7.1, r7.2)) (
 (vl (.int .i64 0) r6.2).bind fun r8 =>
 laws_eqVerS_l1 (ups (env0 #[x0, x1]) [(4, r1.1), (6, r2.1), (7, r3.1), (8, r4.1), (9, r5.1), (10, r6.1), (5, r8.1)]) r8.2) := by kernel_rfl

/-! spec_l2Closed -/
noncomputable def spec_l2Closed_l1 (e : Env) (w : World) : Option (Value × World) := exC P (EV P) 74 33 (.loop (cA (cA (cB (cA (cB (cB (bodyOf P 74)))))))) e w (kBlock 0 (kSeq P (EV P) 74 33 (cB (cB (cB (bodyOf P 74)))) (kFn P (fnOf P 74))))
theorem spec_l2Closed_l1_eq (e : Env) (w : World) : spec_l2Closed_l1 e w =
 (vl (e 4) w).bind fun r1 =>
 (fa P 49 (e 1) 0 r1.2).bind fun r2 =>
 (ld P 47 r2.1 r2.2).bind fun r3 =>
 (b_len P #[47] 3 #[r3.1] r3.2).bind fun r4 =>
 (bo P .lss 3 (.tmp 7) (.tmp 10) r1.1 r4.1 r4.2).bind fun r5 =>
 cnd r5.1 (
 (fa P 49 (e 1) 0 (dw r5.2)).bind fun r7 =>
 ifP (r7.2 = (dw r5.2)) <|
 (ld P 47 r7.1 (dw r5.2)).bind fun r8 =>
 ifP (r8.2 = (dw r5.2)) <|
 (vl (e 4) (dw r5.2)).bind fun r9 =>
 ifP (r9.2 = (dw r5.2)) <|
 (ia P 47 r8.1 r9.1 (dw r5.2)).bind fun r10 =>
 ifP (r10.2 = (dw r5.2)) <|
 (fa P 56 r10.1 1 (dw r5.2)).bind fun r11 =>
 ifP (r11.2 = (dw r5.2)) <|
 (fa P 32 r11.1 0 (dw r5.2)).bind fun r12 =>
 ifP (r12.2 = (dw r5.2)) <|
 (ld P 3 r12.1 (dw r5.2)).bind fun r13 =>
 ifP (r13.2 = (dw r5.2)) <|
 (bo P .gtr 3 (.tmp 20) (.const (.int .i64 0)) r13.1 (.int .i64 0) (dw r5.2)).bind fun r14 =>
 ifP (r14.2 = (dw r5.2)) <|
 (vl r14.1 (dw r5.2)).bind fun r15 =>
 ifP (r15.2 = (dw r5.2)) <|
 (gif r15.1 true (fa P 49 (e 1) 0 (dw r5.2)) (dw r5.2)).bind fun r16 =>
 ifP (r16.2 = (dw r5.2)) <|
 (gif r15.1 true (ld P 47 r16.1 (dw r5.2)) (dw r5.2)).bind fun r17 =>
 ifP (r17.2 = (dw r5.2)) <|
 (gif r15.1 true (vl (e 4) (dw r5.2)) (dw r5.2)).bind fun r18 =>
 ifP (r18.2 = (dw r5.2)) <|
 (gif r15.1 true (ia P 47 r17.1 r18.1 (dw r5.2)) (dw r5.2)).bind fun r19 =>
 ifP (r19.2 = (dw r5.2)) <|
 (gif r15.1 true (fa P 56 r19.1 2 (dw r5.2)) (dw r5.2)).bind fun r20 =>
 ifP (r20.2 = (dw r5.2)) <|
 (gif r15.1 true (ld P 25 r20.1 (dw r5.2)) (dw r5.2)).bind fun r21 =>
 ifP (r21.2 = (dw r5.2)) <|
 (gif r15.1 true (ld P 25 (e 3) (dw r5.2)) (dw r5.2)).bind fun r22 =>
 ifP (r22.2 = (dw r5.2)) <|
 (gif r15.1 true (EV P 63 #[r21.1, r22.1] (dw r5.2)) (dw r5.2)).bind fun r23 =>
 ifP (True ∧ True ∧ True ∧ True ∧ True ∧ True ∧ True ∧ True ∧ True ∧ True ∧ True ∧ True ∧ True ∧ True) <|
 (gif r15.1 true (uo P .not r23.1 r23.2) r23.2).bind fun r24 =>
 ifP (r24.2 = r23.2) <|
 (pickV r15.1 r24.1 (.bool false) r23.2).bind fun r25 =>
 ifP (r25.2 = r23.2) <|
 cnd r25.1 (
 (vl (.bool false) r23.2).bind fun r26 =>
 some (r26.1, r26.2)) (
 (vl (e 4) r23.2).bind fun r27 =>
 (bo P .add 3 (.tmp 12) (.const (.int .i64 1)) r27.1 (.int .i64 1) r27.2).bind fun r28 =>
 (vl r28.1 r28.2).bind fun r29 =>
 spec_l2Closed_l1 (ups e [(7, r1.1), (8, r2.1), (9, r3.1), (10, r4.1), (11, r5.1), (14, r7.1), (15, r8.1), (16, r9.1), (17, r10.1), (18, r11.1), (19, r12.1), (20, r13.1), (21, r14.1), (22, r15.1), (23, r16.1), (24, r17.1), (25, r18.1), (26, r19.1), (27, r20.1), (28, r21.1), (29, r22.1), (30, r23.1), (31, r24.1), (32, r25.1), (12, r27.1), (13, r28.1), (4, r29.1)]) r29.2)) (
 (vl (.bool true) r5.2).bind fun r30 =>
 some (r30.1, r30.2)) := (exC_loop P (EV P) 74 33 (cA (cA (cB (cA (cB (cB (bodyOf P 74))))))) e w (kBlock 0 (kSeq P (EV P) 74 33 (cB (cB (cB (bodyOf P 74)))) (kFn P (fnOf P 74))))).trans (by kernel_rfl)
theorem spec_l2Closed_fn (x0 : Value) (w : World) : fnC P (EV P) 74 #[x0] w =
 (bx P 49 x0 w).bind fun r1 =>
 (vl (.bool false) r1.2).bind fun r2 =>
 (ld P 49 r1.1 r2.2).bind fun r3 =>
 (EV P 78 #[r3.1] r3.2).bind fun r4 =>
 (al P 25 r4.2).bind fun r5 =>
 (st P 25 r5.1 r4.1 r5.2).bind fun r6 =>
 (vl (.int .i64 0) r6.2).bind fun r7 =>
 spec_l2Closed_l1 (ups (env0 #[x0]) [(1, r1.1), (2, r2.1), (5, r3.1), (6, r4.1), (3, r5.1), (4, r7.1)]) r7.2 := by kernel_rfl

/-! slices_ContainsFunc_Ver -/
theorem slices_ContainsFunc_Ver_fn (x0 x1 : Value) (w : World) : fnC P (EV P) 75 #[x0, x1] w =
 (vl (.bool false) w).bind fun r1 =>
 (vl x0 r1.2).bind fun r2 =>
 (vl x1 r2.2).bind fun r3 =>
 (EV P 106 #[r2.1, r3.1] r3.2).bind fun r4 =>
 (bo P .geq 3 (.tmp 7) (.const (.int .i64 0)) r4.1 (.int .i64 0) r4.2).bind fun r5 =>
 (vl r5.1 r5.2).bind fun r6 =>
 some (r6.1, r6.2) := by kernel_rfl

/-! impl_StoreClosed_1 -/
theorem impl_StoreClosed_1_fn (x0 x1 : Value) (w : World) : fnC P (EV P) 76 #[x0, x1] w =
 (bx P 56 x0 w).bind fun r1 =>
 (vl (.bool false) r1.2).bind fun r2 =>
 (fa P 56 r1.1 1 (dw r2.2)).bind fun r4 =>
 ifP (r4.2 = (dw r2.2)) <|
 (ld P 32 r4.1 (dw r2.2)).bind fun r5 =>
 ifP (r5.2 = (dw r2.2)) <|
 (bd P 32 #[] (dw r2.2)).bind fun r6 =>
 ifP (r6.2 = (dw r2.2)) <|
 (bo P .neq 32 (.tmp 5) (.tmp 6) r5.1 r6.1 (dw r2.2)).bind fun r7 =>
 ifP (r7.2 = (dw r2.2)) <|
 (vl r7.1 (dw r2.2)).bind fun r8 =>
 ifP (r8.2 = (dw r2.2)) <|
 (gif r8.1 true (fa P 56 r1.1 2 (dw r2.2)) (dw r2.2)).bind fun r9 =>
 ifP (r9.2 = (dw r2.2)) <|
 (gif r8.1 true (ld P 25 r9.1 (dw r2.2)) (dw r2.2)).bind fun r10 =>
 ifP (r10.2 = (dw r2.2)) <|
 (gif r8.1 true (ld P 49 x1 (dw r2.2)) (dw r2.2)).bind fun r11 =>
 ifP (r11.2 = (dw r2.2)) <|
 (gif r8.1 true (EV P 77 #[r11.1] (dw r2.2)) (dw r2.2)).bind fun r12 =>
 ifP (True ∧ gif r8.1 true (ld P 25 r9.1 r12.2) r12.2 = some (r10.1, r12.2) ∧ gif r8.1 true (fa P 56 r1.1 2 r12.2) r12.2 = some (r9.1, r12.2) ∧ True ∧ True ∧ True ∧ True ∧ True) <|
 (gif r8.1 true (EV P 61 #[r10.1, r12.1] r12.2) r12.2).bind fun r13 =>
 ifP (True ∧ True ∧ True ∧ True ∧ True ∧ True ∧ True ∧ True) <|
 (gif r8.1 true (uo P .not r13.1 r13.2) r13.2).bind fun r14 =>
 ifP (r14.2 = r13.2) <|
 (pickV r8.1 r14.1 (.bool false) r13.2).bind fun r15 =>
 ifP (r15.2 = r13.2) <|
 (vl r15.1 r13.2).bind fun r16 =>
 ifP (r16.2 = r13.2) <|
 some (r16.1, r13.2) := by kernel_rfl

/-! impl_Store_tags -/
noncomputable def impl_Store_tags_l1 (e : Env) (w : World) : Option (Value × World) := exC P (EV P) 77 23 (.loop (cA (cA (cB (cA (cB (cB (bodyOf P 77)))))))) e w (kBlock 0 (kSeq P (EV P) 77 23 (cB (cB (cB (bodyOf P 77)))) (kFn P (fnOf P 77))))
theorem impl_Store_tags_l1_eq (e : Env) (w : World) : impl_Store_tags_l1 e w =
 (bo P .lss 3 (.tmp 10) (.tmp 9) (e 10) (e 9) w).bind fun r1 =>
 cnd r1.1 (
 (vl (e 10) r1.2).bind fun r2 =>
 (ia P 47 (e 8) (e 10) r2.2).bind fun r3 =>
 (ld P 56 r3.1 r3.2).bind fun r4 =>
 (al P 56 r4.2).bind fun r5 =>
 (vl r2.1 r5.2).bind fun r6 =>
 (st P 56 r5.1 r4.1 r6.2).bind fun r7 =>
 (fa P 25 (e 3) 0 r7.2).bind fun r8 =>
 (ld P 23 r8.1 r8.2).bind fun r9 =>
 (vl r6.1 r9.2).bind fun r10 =>
 (fa P 56 r5.1 1 r10.2).bind fun r11 =>
 (ld P 32 r11.1 r11.2).bind fun r12 =>
 (ia P 23 r9.1 r10.1 r12.2).bind fun r13 =>
 (st P 32 r13.1 r12.1 r13.2).bind fun r14 =>
 (bo P .add 3 (.tmp 10) (.const (.int .i64 1)) (e 10) (.int .i64 1) r14.2).bind fun r15 =>
 (vl r15.1 r15.2).bind fun r16 =>
 impl_Store_tags_l1 (ups e [(11, r1.1), (12, r2.1), (13, r3.1), (14, r4.1), (5, r5.1), (4, r6.1), (15, r8.1), (16, r9.1), (17, r10.1), (18, r11.1), (19, r12.1), (20, r13.1), (21, r15.1), (10, r16.1)]) r16.2) (
 (ld P 25 (e 3) r1.2).bind fun r17 =>
 (st P 25 (e 2) r17.1 r17.2).bind fun r18 =>
 ((ld P 25 (e 2) r18.2).bind fun r19 => ifP (r19.2 = r18.2) (some r19.1)).bind fun v20 =>
 some (v20, r18.2)) := (exC_loop P (EV P) 77 23 (cA (cA (cB (cA (cB (cB (bodyOf P 77))))))) e w (kBlock 0 (kSeq P (EV P) 77 23 (cB (cB (cB (bodyOf P 77)))) (kFn P (fnOf P 77))))).trans (by kernel_rfl)
theorem impl_Store_tags_fn (x0 : Value) (w : World) : fnC P (EV P) 77 #[x0] w =
 (bx P 49 x0 w).bind fun r1 =>
 (al P 25 r1.2).bind fun r2 =>
 (EV P 20 #[] r2.2).bind fun r3 =>
 (al P 25 r3.2).bind fun r4 =>
 (st P 25 r4.1 r3.1 r4.2).bind fun r5 =>
 (fa P 49 r1.1 0 r5.2).bind fun r6 =>
 (ld P 47 r6.1 r6.2).bind fun r7 =>
 (b_len P #[47] 3 #[r7.1] r7.2).bind fun r8 =>
 (vl (.int .i64 0) r8.2).bind fun r9 =>
 impl_Store_tags_l1 (ups (env0 #[x0]) [(1, r1.1), (2, r2.1), (6, r3.1), (3, r4.1), (7, r6.1), (8, r7.1), (9, r8.1), (10, r9.1)]) r9.2 := by kernel_rfl

/-! spec_l2Tags -/
noncomputable def spec_l2Tags_l1 (e : Env) (w : World) : Option (Value × World) := exC P (EV P) 78 25 (.loop (cA (cA (cB (cA (cB (cB (bodyOf P 78)))))))) e w (kBlock 0 (kSeq P (EV P) 78 25 (cB (cB (cB (bodyOf P 78)))) (kFn P (fnOf P 78))))
theorem spec_l2Tags_l1_eq (e : Env) (w : World) : spec_l2Tags_l1 e w =
 (vl (e 4) w).bind fun r1 =>
 (fa P 49 (e 1) 0 r1.2).bind fun r2 =>
 (ld P 47 r2.1 r2.2).bind fun r3 =>
 (b_len P #[47] 3 #[r3.1] r3.2).bind fun r4 =>
 (bo P .lss 3 (.tmp 6) (.tmp 9) r1.1 r4.1 r4.2).bind fun r5 =>
 cnd r5.1 (
 (fa P 25 (e 3) 0 (dw r5.2)).bind fun r7 =>
 ifP (r7.2 = (dw r5.2)) <|
 (ld P 23 r7.1 (dw r5.2)).bind fun r8 =>
 ifP (r8.2 = (dw r5.2)) <|
 (fa P 49 (e 1) 0 (dw r5.2)).bind fun r9 =>
 ifP (r9.2 = (dw r5.2)) <|
 (ld P 47 r9.1 (dw r5.2)).bind fun r10 =>
 ifP (r10.2 = (dw r5.2)) <|
 (vl (e 4) (dw r5.2)).bind fun r11 =>
 ifP (r11.2 = (dw r5.2)) <|
 (ia P 47 r10.1 r11.1 (dw r5.2)).bind fun r12 =>
 ifP (r12.2 = (dw r5.2)) <|
 (fa P 56 r12.1 1 (dw r5.2)).bind fun r13 =>
 ifP (r13.2 = (dw r5.2)) <|
 (ld P 32 r13.1 (dw r5.2)).bind fun r14 =>
 ifP (r14.2 = (dw r5.2)) <|
 (bs P 23 1 #[(0, r14.1)] (dw r5.2)).bind fun r15 =>
 ifP (True ∧ True ∧ True ∧ True ∧ True ∧ ld P 23 r7.1 r15.2 = some (r8.1, r15.2) ∧ fa P 25 (e 3) 0 r15.2 = some (r7.1, r15.2) ∧ True) <|
 (b_append P #[23, 23] 23 #[r8.1, r15.1] r15.2).bind fun r16 =>
 ifP (True ∧ True ∧ True ∧ True ∧ True ∧ True ∧ True ∧ True) <|
 (fa P 25 (e 3) 0 r16.2).bind fun r17 =>
 ifP (r17.2 = r16.2) <|
 (st P 23 r17.1 r16.1 r16.2).bind fun r18 =>
 ifP (True ∧ True ∧ True ∧ True ∧ True ∧ True ∧ True ∧ True ∧ True) <|
 (vl (e 4) r18.2).bind fun r19 =>
 (bo P .add 3 (.tmp 11) (.const (.int .i64 1)) r19.1 (.int .i64 1) r19.2).bind fun r20 =>
 (vl r20.1 r20.2).bind fun r21 =>
 spec_l2Tags_l1 (ups e [(6, r1.1), (7, r2.1), (8, r3.1), (9, r4.1), (10, r5.1), (13, r7.1), (14, r8.1), (15, r9.1), (16, r10.1), (17, r11.1), (18, r12.1), (19, r13.1), (20, r14.1), (21, r15.1), (22, r16.1), (23, r17.1), (11, r19.1), (12, r20.1), (4, r21.1)]) r21.2) (
 (ld P 25 (e 3) r5.2).bind fun r22 =>
 (st P 25 (e 2) r22.1 r22.2).bind fun r23 =>
 ((ld P 25 (e 2) r23.2).bind fun r24 => ifP (r24.2 = r23.2) (some r24.1)).bind fun v25 =>
 some (v25, r23.2)) := (exC_loop P (EV P) 78 25 (cA (cA (cB (cA (cB (cB (bodyOf P 78))))))) e w (kBlock 0 (kSeq P (EV P) 78 25 (cB (cB (cB (bodyOf P 78)))) (kFn P (fnOf P 78))))).trans (by kernel_rfl)
theorem spec_l2Tags_fn (x0 : Value) (w : World) : fnC P (EV P) 78 #[x0] w =
 (bx P 49 x0 w).bind fun r1 =>
 (al P 25 r1.2).bind fun r2 =>
 (bd P 25 #[] r2.2).bind fun r3 =>
 (al P 25 r3.2).bind fun r4 =>
 (st P 25 r4.1 r3.1 r4.2).bind fun r5 =>
 (vl (.int .i64 0) r5.2).bind fun r6 =>
 spec_l2Tags_l1 (ups (env0 #[x0]) [(1, r1.1), (2, r2.1), (5, r3.1), (3, r4.1), (4, r6.1)]) r6.2 := by kernel_rfl

/-! laws_markVerS -/
noncomputable def laws_markVerS_l1 (e : Env) (w : World) : Option (Value × World) := exC P (EV P) 79 61 (.loop (cA (cA (cB (cA (cB (bodyOf P 79))))))) e w (kBlock 0 (kSeq P (EV P) 79 61 (cB (cB (bodyOf P 79))) (kFn P (fnOf P 79))))
theorem laws_markVerS_l1_eq (e : Env) (w : World) : laws_markVerS_l1 e w =
 (vl (e 5) w).bind fun r1 =>
 (vl (e 0) r1.2).bind fun r2 =>
 (b_len P #[47] 3 #[r2.1] r2.2).bind fun r3 =>
 (bo P .lss 3 (.tmp 6) (.tmp 8) r1.1 r3.1 r3.2).bind fun r4 =>
 cnd r4.1 (
 (vl (e 0) r4.2).bind fun r5 =>
 (vl (e 5) r5.2).bind fun r6 =>
 (vl (e 1) r6.2).bind fun r7 =>
 (ia P 47 r5.1 r6.1 r7.2).bind fun r8 =>
 (fa P 56 r8.1 0 r8.2).bind fun r9 =>
 (st P 3 r9.1 r7.1 r9.2).bind fun r10 =>
 (vl (e 1) r10.2).bind fun r11 =>
 (bo P .add 3 (.tmp 17) (.const (.int .i64 1)) r11.1 (.int .i64 1) r11.2).bind fun r12 =>
 (vl r12.1 r12.2).bind fun r13 =>
 (vl (e 0) r13.2).bind fun r14 =>
 (vl (e 5) r14.2).bind fun r15 =>
 (vl r13.1 r15.2).bind fun r16 =>
 (ia P 47 r14.1 r15.1 r16.2).bind fun r17 =>
 (fa P 56 r17.1 1 r17.2).bind fun r18 =>
 (fa P 32 r18.1 0 r18.2).bind fun r19 =>
 (st P 3 r19.1 r16.1 r19.2).bind fun r20 =>
 (vl r13.1 r20.2).bind fun r21 =>
 (bo P .add 3 (.tmp 25) (.const (.int .i64 1)) r21.1 (.int .i64 1) r21.2).bind fun r22 =>
 (vl r22.1 r22.2).bind fun r23 =>
 (vl (e 0) r23.2).bind fun r24 =>
 (vl (e 5) r24.2).bind fun r25 =>
 (vl r23.1 r25.2).bind fun r26 =>
 (ia P 47 r24.1 r25.1 r26.2).bind fun r27 =>
 (fa P 56 r27.1 1 r27.2).bind fun r28 =>
 (fa P 32 r28.1 1 r28.2).bind fun r29 =>
 (st P 3 r29.1 r26.1 r29.2).bind fun r30 =>
 (vl r23.1 r30.2).bind fun r31 =>
 (bo P .add 3 (.tmp 33) (.const (.int .i64 1)) r31.1 (.int .i64 1) r31.2).bind fun r32 =>
 (vl r32.1 r32.2).bind fun r33 =>
 (vl (e 0) r33.2).bind fun r34 =>
 (vl (e 5) r34.2).bind fun r35 =>
 (ia P 47 r34.1 r35.1 r35.2).bind fun r36 =>
 (fa P 56 r36.1 2 r36.2).bind fun r37 =>
 (fa P 25 r37.1 0 r37.2).bind fun r38 =>
 (ld P 23 r38.1 r38.2).bind fun r39 =>
 (vl r33.1 r39.2).bind fun r40 =>
 (EV P 67 #[r39.1, r40.1] r40.2).bind fun r41 =>
 (vl r41.1 r41.2).bind fun r42 =>
 (vl (e 0) r42.2).bind fun r43 =>
 (vl (e 5) r43.2).bind fun r44 =>
 (vl r42.1 r44.2).bind fun r45 =>
 (EV P 107 #[r45.1] r45.2).bind fun r46 =>
 (ia P 47 r43.1 r44.1 r46.2).bind fun r47 =>
 (fa P 56 r47.1 3 r47.2).bind fun r48 =>
 (st P 9 r48.1 r46.1 r48.2).bind fun r49 =>
 (vl r42.1 r49.2).bind fun r50 =>
 (bo P .add 3 (.tmp 49) (.const (.int .i64 1)) r50.1 (.int .i64 1) r50.2).bind fun r51 =>
 (vl r51.1 r51.2).bind fun r52 =>
 (vl (e 0) r52.2).bind fun r53 =>
 (vl (e 5) r53.2).bind fun r54 =>
 (vl r52.1 r54.2).bind fun r55 =>
 (bo P .rem 3 (.tmp 53) (.const (.int .i64 3)) r55.1 (.int .i64 3) r55.2).bind fun r56 =>
 (bo P .eql 3 (.tmp 54) (.const (.int .i64 0)) r56.1 (.int .i64 0) r56.2).bind fun r57 =>
 (ia P 47 r53.1 r54.1 r57.2).bind fun r58 =>
 (fa P 56 r58.1 4 r58.2).bind fun r59 =>
 (st P 4 r59.1 r57.1 r59.2).bind fun r60 =>
 (vl r52.1 r60.2).bind fun r61 =>
 (bo P .add 3 (.tmp 58) (.const (.int .i64 1)) r61.1 (.int .i64 1) r61.2).bind fun r62 =>
 (vl r62.1 r62.2).bind fun r63 =>
 (vl (e 5) r63.2).bind fun r64 =>
 (bo P .add 3 (.tmp 10) (.const (.int .i64 1)) r64.1 (.int .i64 1) r64.2).bind fun r65 =>
 (vl r65.1 r65.2).bind fun r66 =>
 laws_markVerS_l1 (ups e [(6, r1.1), (7, r2.1), (8, r3.1), (9, r4.1), (12, r5.1), (13, r6.1), (14, r7.1), (15, r8.1), (16, r9.1), (17, r11.1), (18, r12.1), (1, r13.1), (19, r14.1), (20, r15.1), (21, r16.1), (22, r17.1), (23, r18.1), (24, r19.1), (25, r21.1), (26, r22.1), (1, r23.1), (27, r24.1), (28, r25.1), (29, r26.1), (30, r27.1), (31, r28.1), (32, r29.1), (33, r31.1), (34, r32.1), (1, r33.1), (35, r34.1), (36, r35.1), (37, r36.1), (38, r37.1), (39, r38.1), (40, r39.1), (41, r40.1), (42, r41.1), (1, r42.1), (43, r43.1), (44, r44.1), (45, r45.1), (46, r46.1), (47, r47.1), (48, r48.1), (49, r50.1), (50, r51.1), (1, r52.1), (51, r53.1), (52, r54.1), (53, r55.1), (54, r56.1), (55, r57.1), (56, r58.1), (57, r59.1), (58, r61.1), (59, r62.1), (1, r63.1), (10, r64.1), (11, r65.1), (5, r66.1)]) r66.2) (
 (vl (e 1) r4.2).bind fun r67 =>
 (vl r67.1 r67.2).bind fun r68 =>
 some (r68.1, r68.2)) := (exC_loop P (EV P) 79 61 (cA (cA (cB (cA (cB (bodyOf P 79)))))) e w (kBlock 0 (kSeq P (EV P) 79 61 (cB (cB (bodyOf P 79))) (kFn P (fnOf P 79))))).trans (by kernel_rfl)
theorem laws_markVerS_fn (x0 x1 : Value) (w : World) : fnC P (EV P) 79 #[x0, x1] w =
 (vl (.int .i64 0) w).bind fun r1 =>
 (vl (.int .i64 0) r1.2).bind fun r2 =>
 laws_markVerS_l1 (ups (env0 #[x0, x1]) [(4, r1.1), (5, r2.1)]) r2.2 := by kernel_rfl

/-! spec_l20AnyStore -/
noncomputable def spec_l20AnyStore_j1 (e : Env) (w : World) : Option (Value × World) := exC P (EV P) 80 32 (cB (cB (cB (bodyOf P 80)))) e w (kFn P (fnOf P 80))
theorem spec_l20AnyStore_j1_eq (e : Env) (w : World) : spec_l20AnyStore_j1 e w =
 (ld P 49 (e 3) w).bind fun r1 =>
 (st P 49 (e 2) r1.1 r1.2).bind fun r2 =>
 ((ld P 49 (e 2) r2.2).bind fun r3 => ifP (r3.2 = r2.2) (some r3.1)).bind fun v4 =>
 some (v4, r2.2) := by kernel_rfl
theorem spec_l20AnyStore_fn (x0 : Value) (w : World) : fnC P (EV P) 80 #[x0] w =
 (al P 49 w).bind fun r1 =>
 (vl x0 r1.2).bind fun r2 =>
 (EV P 108 #[r2.1] r2.2).bind fun r3 =>
 (al P 49 r3.2).bind fun r4 =>
 (st P 49 r4.1 r3.1 r4.2).bind fun r5 =>
 (vl x0 r5.2).bind fun r6 =>
 (EV P 62 #[r6.1, (.int .i64 10)] r6.2).bind fun r7 =>
 (bo P .eql 3 (.tmp 7) (.const (.int .i64 0)) r7.1 (.int .i64 0) r7.2).bind fun r8 =>
 (vl r8.1 r8.2).bind fun r9 =>
 cnd r9.1 (
 (fa P 49 r4.1 0 r9.2).bind fun r10 =>
 (ld P 47 r10.1 r10.2).bind fun r11 =>
 (sl P 47 r11.1 (some (.int .i64 1)) none none r11.2).bind fun r12 =>
 (fa P 49 r4.1 0 r12.2).bind fun r13 =>
 (st P 47 r13.1 r12.1 r13.2).bind fun r14 =>
 spec_l20AnyStore_j1 (ups (env0 #[x0]) [(2, r1.1), (4, r2.1), (5, r3.1), (3, r4.1), (6, r6.1), (7, r7.1), (9, r8.1), (8, r9.1), (10, r10.1), (11, r11.1), (12, r12.1), (13, r13.1)]) r14.2) (
 (bo P .eql 3 (.tmp 7) (.const (.int .i64 1)) r7.1 (.int .i64 1) r9.2).bind fun r15 =>
 (vl r15.1 r15.2).bind fun r16 =>
 cnd r16.1 (
 (fa P 49 r4.1 0 (dw r16.2)).bind fun r18 =>
 ifP (r18.2 = (dw r16.2)) <|
 (ld P 47 r18.1 (dw r16.2)).bind fun r19 =>
 ifP (r19.2 = (dw r16.2)) <|
 (vl x0 (dw r16.2)).bind fun r20 =>
 ifP (r20.2 = (dw r16.2)) <|
 (vl x0 (dw r16.2)).bind fun r21 =>
 ifP (r21.2 = (dw r16.2)) <|
 (EV P 62 #[r20.1, (.int .i64 4)] (dw r16.2)).bind fun r22 =>
 ifP (ld P 47 r18.1 r22.2 = some (r19.1, r22.2) ∧ fa P 49 r4.1 0 r22.2 = some (r18.1, r22.2) ∧ True) <|
 (EV P 81 #[r21.1] r22.2).bind fun r23 =>
 ifP (ld P 47 r18.1 r23.2 = some (r19.1, r23.2) ∧ fa P 49 r4.1 0 r23.2 = some (r18.1, r23.2) ∧ True) <|
 (ia P 47 r19.1 r22.1 r23.2).bind fun r24 =>
 ifP (r24.2 = r23.2) <|
 (st P 56 r24.1 r23.1 r23.2).bind fun r25 =>
 ifP (True ∧ True ∧ True ∧ True) <|
 spec_l20AnyStore_j1 (ups (env0 #[x0]) [(2, r1.1), (4, r2.1), (5, r3.1), (3, r4.1), (6, r6.1), (7, r7.1), (9, r8.1), (8, r9.1), (15, r15.1), (14, r16.1), (16, r18.1), (17, r19.1), (18, r20.1), (20, r21.1), (19, r22.1), (21, r23.1), (22, r24.1)]) r25.2) (
 (bo P .eql 3 (.tmp 7) (.const (.int .i64 2)) r7.1 (.int .i64 2) r16.2).bind fun r26 =>
 (vl r26.1 r26.2).bind fun r27 =>
 cnd r27.1 (
 (fa P 49 r4.1 0 (dw r27.2)).bind fun r29 =>
 ifP (r29.2 = (dw r27.2)) <|
 (ld P 47 r29.1 (dw r27.2)).bind fun r30 =>
 ifP (r30.2 = (dw r27.2)) <|
 (vl x0 (dw r27.2)).bind fun r31 =>
 ifP (r31.2 = (dw r27.2)) <|
 (bd P 56 #[(3, (Go.Value.string { data := #[120] }))] (dw r27.2)).bind fun r32 =>
 ifP (r32.2 = (dw r27.2)) <|
 (EV P 62 #[r31.1, (.int .i64 4)] (dw r27.2)).bind fun r33 =>
 ifP (bd P 56 #[(3, (Go.Value.string { data := #[120] }))] r33.2 = some (r32.1, r33.2) ∧ ld P 47 r29.1 r33.2 = some (r30.1, r33.2) ∧ fa P 49 r4.1 0 r33.2 = some (r29.1, r33.2) ∧ True) <|
 (ia P 47 r30.1 r33.1 r33.2).bind fun r34 =>
 ifP (r34.2 = r33.2) <|
 (st P 56 r34.1 r32.1 r33.2).bind fun r35 =>
 ifP (True ∧ True ∧ True ∧ True ∧ True) <|
 spec_l20AnyStore_j1 (ups (env0 #[x0]) [(2, r1.1), (4, r2.1), (5, r3.1), (3, r4.1), (6, r6.1), (7, r7.1), (9, r8.1), (8, r9.1), (15, r15.1), (14, r16.1), (24, r26.1), (23, r27.1), (25, r29.1), (26, r30.1), (27, r31.1), (29, r32.1), (28, r33.1), (30, r34.1)]) r35.2) (
 spec_l20AnyStore_j1 (ups (env0 #[x0]) [(2, r1.1), (4, r2.1), (5, r3.1), (3, r4.1), (6, r6.1), (7, r7.1), (9, r8.1), (8, r9.1), (15, r15.1), (14, r16.1), (24, r26.1), (23, r27.1)]) r27.2))) := by kernel_rfl

/-! spec_l20AnyVer -/
noncomputable def spec_l20AnyVer_j1 (e : Env) (w : World) : Option (Value × World) := exC P (EV P) 81 46 (cB (cB (cB (bodyOf P 81)))) e w (kFn P (fnOf P 81))
theorem spec_l20AnyVer_j1_eq (e : Env) (w : World) : spec_l20AnyVer_j1 e w =
 (ld P 56 (e 3) w).bind fun r1 =>
 (st P 56 (e 2) r1.1 r1.2).bind fun r2 =>
 ((ld P 56 (e 2) r2.2).bind fun r3 => ifP (r3.2 = r2.2) (some r3.1)).bind fun v4 =>
 some (v4, r2.2) := by kernel_rfl
theorem spec_l20AnyVer_fn (x0 : Value) (w : World) : fnC P (EV P) 81 #[x0] w =
 (al P 56 w).bind fun r1 =>
 (vl x0 r1.2).bind fun r2 =>
 (EV P 109 #[r2.1] r2.2).bind fun r3 =>
 (al P 56 r3.2).bind fun r4 =>
 (st P 56 r4.1 r3.1 r4.2).bind fun r5 =>
 (vl x0 r5.2).bind fun r6 =>
 (EV P 62 #[r6.1, (.int .i64 10)] r6.2).bind fun r7 =>
 (bo P .eql 3 (.tmp 7) (.const (.int .i64 0)) r7.1 (.int .i64 0) r7.2).bind fun r8 =>
 (vl r8.1 r8.2).bind fun r9 =>
 cnd r9.1 (
 (vl x0 r9.2).bind fun r10 =>
 (bs P 109 2 #[(0, (.int .i64 (-1))), (1, (.int .i64 4))] r10.2).bind fun r11 =>
 (EV P 110 #[r10.1, r11.1] r11.2).bind fun r12 =>
 (fa P 56 r4.1 0 r12.2).bind fun r13 =>
 (st P 3 r13.1 r12.1 r13.2).bind fun r14 =>
 spec_l20AnyVer_j1 (ups (env0 #[x0]) [(2, r1.1), (4, r2.1), (5, r3.1), (3, r4.1), (6, r6.1), (7, r7.1), (9, r8.1), (8, r9.1), (10, r10.1), (11, r11.1), (12, r12.1), (13, r13.1)]) r14.2) (
 (bo P .eql 3 (.tmp 7) (.const (.int .i64 1)) r7.1 (.int .i64 1) r9.2).bind fun r15 =>
 (vl r15.1 r15.2).bind fun r16 =>
 cnd r16.1 (
 (vl x0 r16.2).bind fun r17 =>
 (bs P 111 3 #[(0, (Go.Value.string { data := #[97, 32, 98] })), (1, (Go.Value.string { data := #[116, 111, 111, 108, 111, 110, 103, 101, 114] })), (2, (Go.Value.string { data := #[10] }))] r17.2).bind fun r18 =>
 (EV P 111 #[r17.1, r18.1] r18.2).bind fun r19 =>
 (fa P 56 r4.1 3 r19.2).bind fun r20 =>
 (st P 9 r20.1 r19.1 r20.2).bind fun r21 =>
 spec_l20AnyVer_j1 (ups (env0 #[x0]) [(2, r1.1), (4, r2.1), (5, r3.1), (3, r4.1), (6, r6.1), (7, r7.1), (9, r8.1), (8, r9.1), (15, r15.1), (14, r16.1), (16, r17.1), (17, r18.1), (18, r19.1), (19, r20.1)]) r21.2) (
 (bo P .eql 3 (.tmp 7) (.const (.int .i64 2)) r7.1 (.int .i64 2) r16.2).bind fun r22 =>
 (vl r22.1 r22.2).bind fun r23 =>
 cnd r23.1 (
 (fa P 56 r4.1 2 r23.2).bind fun r24 =>
 (fa P 25 r24.1 0 r24.2).bind fun r25 =>
 (ld P 23 r25.1 r25.2).bind fun r26 =>
 (sl P 23 r26.1 (some (.int .i64 1)) none none r26.2).bind fun r27 =>
 (fa P 56 r4.1 2 r27.2).bind fun r28 =>
 (fa P 25 r28.1 0 r28.2).bind fun r29 =>
 (st P 23 r29.1 r27.1 r29.2).bind fun r30 =>
 spec_l20AnyVer_j1 (ups (env0 #[x0]) [(2, r1.1), (4, r2.1), (5, r3.1), (3, r4.1), (6, r6.1), (7, r7.1), (9, r8.1), (8, r9.1), (15, r15.1), (14, r16.1), (21, r22.1), (20, r23.1), (22, r24.1), (23, r25.1), (24, r26.1), (25, r27.1), (26, r28.1), (27, r29.1)]) r30.2) (
 (bo P .eql 3 (.tmp 7) (.const (.int .i64 3)) r7.1 (.int .i64 3) r23.2).bind fun r31 =>
 (vl r31.1 r31.2).bind fun r32 =>
 cnd r32.1 (
 (fa P 56 r4.1 2 (dw r32.2)).bind fun r34 =>
 ifP (r34.2 = (dw r32.2)) <|
 (fa P 25 r34.1 0 (dw r32.2)).bind fun r35 =>
 ifP (r35.2 = (dw r32.2)) <|
 (ld P 23 r35.1 (dw r32.2)).bind fun r36 =>
 ifP (r36.2 = (dw r32.2)) <|
 (vl x0 (dw r32.2)).bind fun r37 =>
 ifP (r37.2 = (dw r32.2)) <|
 (bd P 32 #[(0, (.int .i64 50)), (1, (.int .i64 1))] (dw r32.2)).bind fun r38 =>
 ifP (r38.2 = (dw r32.2)) <|
 (EV P 62 #[r37.1, (.int .i64 4)] (dw r32.2)).bind fun r39 =>
 ifP (bd P 32 #[(0, (.int .i64 50)), (1, (.int .i64 1))] r39.2 = some (r38.1, r39.2) ∧ ld P 23 r35.1 r39.2 = some (r36.1, r39.2) ∧ fa P 25 r34.1 0 r39.2 = some (r35.1, r39.2) ∧ fa P 56 r4.1 2 r39.2 = some (r34.1, r39.2) ∧ True) <|
 (ia P 23 r36.1 r39.1 r39.2).bind fun r40 =>
 ifP (r40.2 = r39.2) <|
 (st P 32 r40.1 r38.1 r39.2).bind fun r41 =>
 ifP (True ∧ True ∧ True ∧ True ∧ True ∧ True) <|
 spec_l20AnyVer_j1 (ups (env0 #[x0]) [(2, r1.1), (4, r2.1), (5, r3.1), (3, r4.1), (6, r6.1), (7, r7.1), (9, r8.1), (8, r9.1), (15, r15.1), (14, r16.1), (21, r22.1), (20, r23.1), (29, r31.1), (28, r32.1), (30, r34.1), (31, r35.1), (32, r36.1), (33, r37.1), (35, r38.1), (34, r39.1), (36, r40.1)]) r41.2) (
 (bo P .eql 3 (.tmp 7) (.const (.int .i64 4)) r7.1 (.int .i64 4) r32.2).bind fun r42 =>
 (vl r42.1 r42.2).bind fun r43 =>
 cnd r43.1 (
 (vl x0 r43.2).bind fun r44 =>
 (EV P 97 #[r44.1] r44.2).bind fun r45 =>
 (fa P 56 r4.1 1 r45.2).bind fun r46 =>
 (st P 32 r46.1 r45.1 r46.2).bind fun r47 =>
 spec_l20AnyVer_j1 (ups (env0 #[x0]) [(2, r1.1), (4, r2.1), (5, r3.1), (3, r4.1), (6, r6.1), (7, r7.1), (9, r8.1), (8, r9.1), (15, r15.1), (14, r16.1), (21, r22.1), (20, r23.1), (29, r31.1), (28, r32.1), (38, r42.1), (37, r43.1), (39, r44.1), (40, r45.1), (41, r46.1)]) r47.2) (
 (bo P .eql 3 (.tmp 7) (.const (.int .i64 5)) r7.1 (.int .i64 5) r43.2).bind fun r48 =>
 (vl r48.1 r48.2).bind fun r49 =>
 cnd r49.1 (
 (fa P 56 r4.1 4 r49.2).bind fun r50 =>
 (st P 4 r50.1 (.bool true) r50.2).bind fun r51 =>
 spec_l20AnyVer_j1 (ups (env0 #[x0]) [(2, r1.1), (4, r2.1), (5, r3.1), (3, r4.1), (6, r6.1), (7, r7.1), (9, r8.1), (8, r9.1), (15, r15.1), (14, r16.1), (21, r22.1), (20, r23.1), (29, r31.1), (28, r32.1), (38, r42.1), (37, r43.1), (43, r48.1), (42, r49.1), (44, r50.1)]) r51.2) (
 spec_l20AnyVer_j1 (ups (env0 #[x0]) [(2, r1.1), (4, r2.1), (5, r3.1), (3, r4.1), (6, r6.1), (7, r7.1), (9, r8.1), (8, r9.1), (15, r15.1), (14, r16.1), (21, r22.1), (20, r23.1), (29, r31.1), (28, r32.1), (38, r42.1), (37, r43.1), (43, r48.1), (42, r49.1)]) r49.2)))))) := by kernel_rfl

/-! impl_Store_copied -/
theorem impl_Store_copied_fn (x0 : Value) (w : World) : fnC P (EV P) 82 #[x0] w =
 (bx P 49 x0 w).bind fun r1 =>
 (al P 49 r1.2).bind fun r2 =>
 (fa P 49 r1.1 0 r2.2).bind fun r3 =>
 (ld P 47 r3.1 r3.2).bind fun r4 =>
 (EV P 112 #[r4.1] r4.2).bind fun r5 =>
 (bd P 49 #[(0, r5.1)] r5.2).bind fun r6 =>
 (st P 49 r2.1 r6.1 r6.2).bind fun r7 =>
 ((ld P 49 r2.1 r7.2).bind fun r8 => ifP (r8.2 = r7.2) (some r8.1)).bind fun v9 =>
 some (v9, r7.2) := by kernel_rfl

/-! impl_Store_later -/
theorem impl_Store_later_fn (x0 x1 : Value) (w : World) : fnC P (EV P) 83 #[x0, x1] w =
 (bx P 49 x0 w).bind fun r1 =>
 (bx P 56 x1 r1.2).bind fun r2 =>
 (vl (.bool false) r2.2).bind fun r3 =>
 (fa P 49 r1.1 0 (dw r3.2)).bind fun r5 =>
 ifP (r5.2 = (dw r3.2)) <|
 (ld P 47 r5.1 (dw r3.2)).bind fun r6 =>
 ifP (r6.2 = (dw r3.2)) <|
 (fa P 56 r2.1 0 (dw r3.2)).bind fun r7 =>
 ifP (r7.2 = (dw r3.2)) <|
 (ld P 3 r7.1 (dw r3.2)).bind fun r8 =>
 ifP (r8.2 = (dw r3.2)) <|
 (ia P 47 r6.1 r8.1 (dw r3.2)).bind fun r9 =>
 ifP (r9.2 = (dw r3.2)) <|
 (fa P 56 r9.1 1 (dw r3.2)).bind fun r10 =>
 ifP (r10.2 = (dw r3.2)) <|
 (ld P 32 r10.1 (dw r3.2)).bind fun r11 =>
 ifP (r11.2 = (dw r3.2)) <|
 (fa P 56 r2.1 1 (dw r3.2)).bind fun r12 =>
 ifP (r12.2 = (dw r3.2)) <|
 (ld P 32 r12.1 (dw r3.2)).bind fun r13 =>
 ifP (r13.2 = (dw r3.2)) <|
 (EV P 91 #[r11.1, r13.1] (dw r3.2)).bind fun r14 =>
 ifP (True ∧ True ∧ True ∧ True ∧ True ∧ True ∧ True ∧ True ∧ True ∧ True) <|
 (vl r14.1 r14.2).bind fun r15 =>
 ifP (r15.2 = r14.2) <|
 some (r15.1, r14.2) := by kernel_rfl

/-! impl_Ver_copied -/
theorem impl_Ver_copied_fn (x0 : Value) (w : World) : fnC P (EV P) 84 #[x0] w =
 (bx P 56 x0 w).bind fun r1 =>
 (al P 56 r1.2).bind fun r2 =>
 (fa P 56 r1.1 2 r2.2).bind fun r3 =>
 (ld P 25 r3.1 r3.2).bind fun r4 =>
 (EV P 98 #[r4.1] r4.2).bind fun r5 =>
 (fa P 56 r1.1 2 r5.2).bind fun r6 =>
 (st P 25 r6.1 r5.1 r6.2).bind fun r7 =>
 (ld P 56 r1.1 r7.2).bind fun r8 =>
 (st P 56 r2.1 r8.1 r8.2).bind fun r9 =>
 ((ld P 56 r2.1 r9.2).bind fun r10 => ifP (r10.2 = r9.2) (some r10.1)).bind fun v11 =>
 some (v11, r9.2) := by kernel_rfl

/-! laws_cfVer -/
theorem laws_cfVer_fn (x0 x1 : Value) (w : World) : fnC P (EV P) 85 #[x0, x1] w =
 (bx P 56 x0 w).bind fun r1 =>
 (bx P 56 x1 r1.2).bind fun r2 =>
 (vl (.bool false) r2.2).bind fun r3 =>
 (fa P 56 r1.1 0 r3.2).bind fun r4 =>
 (ld P 3 r4.1 r4.2).bind fun r5 =>
 (fa P 56 r2.1 0 r5.2).bind fun r6 =>
 (ld P 3 r6.1 r6.2).bind fun r7 =>
 (bo P .eql 3 (.tmp 6) (.tmp 8) r5.1 r7.1 r7.2).bind fun r8 =>
 (vl r8.1 r8.2).bind fun r9 =>
 (gif r9.1 true (fa P 56 r1.1 1 r9.2) r9.2).bind fun r10 =>
 (gif r9.1 true (ld P 32 r10.1 r10.2) r10.2).bind fun r11 =>
 (gif r9.1 true (fa P 56 r2.1 1 r11.2) r11.2).bind fun r12 =>
 (gif r9.1 true (ld P 32 r12.1 r12.2) r12.2).bind fun r13 =>
 (gif r9.1 true (bo P .eql 32 (.tmp 12) (.tmp 14) r11.1 r13.1 r13.2) r13.2).bind fun r14 =>
 (pickV r9.1 r14.1 (.bool false) r14.2).bind fun r15 =>
 (vl r15.1 r15.2).bind fun r16 =>
 (gif r16.1 true (fa P 56 r1.1 2 r16.2) r16.2).bind fun r17 =>
 (gif r16.1 true (ld P 25 r17.1 r17.2) r17.2).bind fun r18 =>
 (gif r16.1 true (fa P 56 r2.1 2 r18.2) r18.2).bind fun r19 =>
 (gif r16.1 true (ld P 25 r19.1 r19.2) r19.2).bind fun r20 =>
 (gif r16.1 true (EV P 15 #[r18.1, r20.1] r20.2) r20.2).bind fun r21 =>
 (pickV r16.1 r21.1 (.bool false) r21.2).bind fun r22 =>
 (vl r22.1 r22.2).bind fun r23 =>
 (gif r23.1 true (fa P 56 r1.1 3 r23.2) r23.2).bind fun r24 =>
 (gif r23.1 true (ld P 9 r24.1 r24.2) r24.2).bind fun r25 =>
 (gif r23.1 true (fa P 56 r2.1 3 r25.2) r25.2).bind fun r26 =>
 (gif r23.1 true (ld P 9 r26.1 r26.2) r26.2).bind fun r27 =>
 (gif r23.1 true (bo P .eql 9 (.tmp 26) (.tmp 28) r25.1 r27.1 r27.2) r27.2).bind fun r28 =>
 (pickV r23.1 r28.1 (.bool false) r28.2).bind fun r29 =>
 (vl r29.1 r29.2).bind fun r30 =>
 (gif r30.1 true (fa P 56 r1.1 4 r30.2) r30.2).bind fun r31 =>
 (gif r30.1 true (ld P 4 r31.1 r31.2) r31.2).bind fun r32 =>
 (gif r30.1 true (fa P 56 r2.1 4 r32.2) r32.2).bind fun r33 =>
 (gif r30.1 true (ld P 4 r33.1 r33.2) r33.2).bind fun r34 =>
 (gif r30.1 true (bo P .eql 4 (.tmp 33) (.tmp 35) r32.1 r34.1 r34.2) r34.2).bind fun r35 =>
 (pickV r30.1 r35.1 (.bool false) r35.2).bind fun r36 =>
 (vl r36.1 r36.2).bind fun r37 =>
 some (r37.1, r37.2) := by kernel_rfl

/-! spec_l2Ok -/
noncomputable def spec_l2Ok_l1 (e : Env) (w : World) : Option (Value × World) := exC P (EV P) 86 56 (.loop (cA (cA (cB (cA (cB (cB (bodyOf P 86)))))))) e w (kBlock 0 (kSeq P (EV P) 86 56 (cB (cB (cB (bodyOf P 86)))) (kFn P (fnOf P 86))))
theorem spec_l2Ok_l1_eq (e : Env) (w : World) : spec_l2Ok_l1 e w =
 (vl (e 3) w).bind fun r1 =>
 (bo P .lss 3 (.tmp 41) (.const (.int .i64 4)) r1.1 (.int .i64 4) r1.2).bind fun r2 =>
 cnd r2.1 (
 (fa P 56 (e 1) 2 (dw r2.2)).bind fun r4 =>
 ifP (r4.2 = (dw r2.2)) <|
 (fa P 25 r4.1 0 (dw r2.2)).bind fun r5 =>
 ifP (r5.2 = (dw r2.2)) <|
 (ld P 23 r5.1 (dw r2.2)).bind fun r6 =>
 ifP (r6.2 = (dw r2.2)) <|
 (vl (e 3) (dw r2.2)).bind fun r7 =>
 ifP (r7.2 = (dw r2.2)) <|
 (ia P 23 r6.1 r7.1 (dw r2.2)).bind fun r8 =>
 ifP (r8.2 = (dw r2.2)) <|
 (fa P 32 r8.1 0 (dw r2.2)).bind fun r9 =>
 ifP (r9.2 = (dw r2.2)) <|
 (ld P 3 r9.1 (dw r2.2)).bind fun r10 =>
 ifP (r10.2 = (dw r2.2)) <|
 (fa P 56 (e 1) 1 (dw r2.2)).bind fun r11 =>
 ifP (r11.2 = (dw r2.2)) <|
 (fa P 32 r11.1 0 (dw r2.2)).bind fun r12 =>
 ifP (r12.2 = (dw r2.2)) <|
 (ld P 3 r12.1 (dw r2.2)).bind fun r13 =>
 ifP (r13.2 = (dw r2.2)) <|
 (bo P .geq 3 (.tmp 51) (.tmp 54) r10.1 r13.1 (dw r2.2)).bind fun r14 =>
 ifP (r14.2 = (dw r2.2)) <|
 cnd r14.1 (
 (vl (.bool false) (dw r2.2)).bind fun r15 =>
 some (r15.1, r15.2)) (
 (vl (e 3) (dw r2.2)).bind fun r16 =>
 (bo P .add 3 (.tmp 43) (.const (.int .i64 1)) r16.1 (.int .i64 1) r16.2).bind fun r17 =>
 (vl r17.1 r17.2).bind fun r18 =>
 spec_l2Ok_l1 (ups e [(41, r1.1), (42, r2.1), (45, r4.1), (46, r5.1), (47, r6.1), (48, r7.1), (49, r8.1), (50, r9.1), (51, r10.1), (52, r11.1), (53, r12.1), (54, r13.1), (55, r14.1), (43, r16.1), (44, r17.1), (3, r18.1)]) r18.2)) (
 (vl (.bool true) r2.2).bind fun r19 =>
 some (r19.1, r19.2)) := (exC_loop P (EV P) 86 56 (cA (cA (cB (cA (cB (cB (bodyOf P 86))))))) e w (kBlock 0 (kSeq P (EV P) 86 56 (cB (cB (cB (bodyOf P 86)))) (kFn P (fnOf P 86))))).trans (by kernel_rfl)
theorem spec_l2Ok_fn (x0 : Value) (w : World) : fnC P (EV P) 86 #[x0] w =
 (bx P 56 x0 w).bind fun r1 =>
 (vl (.bool false) r1.2).bind fun r2 =>
 (fa P 56 r1.1 0 r2.2).bind fun r3 =>
 (ld P 3 r3.1 r3.2).bind fun r4 =>
 (EV P 113 #[r4.1, (.int .i64 0), (.int .i64 3)] r4.2).bind fun r5 =>
 (uo P .not r5.1 r5.2).bind fun r6 =>
 (vl r6.1 r6.2).bind fun r7 =>
 (gif r7.1 false (fa P 56 r1.1 3 r7.2) r7.2).bind fun r8 =>
 (gif r7.1 false (ld P 9 r8.1 r8.2) r8.2).bind fun r9 =>
 (gif r7.1 false (EV P 114 #[r9.1] r9.2) r9.2).bind fun r10 =>
 (gif r7.1 false (uo P .not r10.1 r10.2) r10.2).bind fun r11 =>
 (pickV r7.1 (.bool true) r11.1 r11.2).bind fun r12 =>
 (vl r12.1 r12.2).bind fun r13 =>
 (gif r13.1 false (fa P 56 r1.1 1 r13.2) r13.2).bind fun r14 =>
 (gif r13.1 false (ld P 32 r14.1 r14.2) r14.2).bind fun r15 =>
 (gif r13.1 false (EV P 99 #[r15.1] r15.2) r15.2).bind fun r16 =>
 (gif r13.1 false (uo P .not r16.1 r16.2) r16.2).bind fun r17 =>
 (pickV r13.1 (.bool true) r17.1 r17.2).bind fun r18 =>
 (vl r18.1 r18.2).bind fun r19 =>
 (gif r19.1 false (fa P 56 r1.1 1 r19.2) r19.2).bind fun r20 =>
 (gif r19.1 false (fa P 32 r20.1 0 r20.2) r20.2).bind fun r21 =>
 (gif r19.1 false (ld P 3 r21.1 r21.2) r21.2).bind fun r22 =>
 (gif r19.1 false (bo P .eql 3 (.tmp 23) (.const (.int .i64 0)) r22.1 (.int .i64 0) r22.2) r22.2).bind fun r23 =>
 (pickV r19.1 (.bool true) r23.1 r23.2).bind fun r24 =>
 (vl r24.1 r24.2).bind fun r25 =>
 (gif r25.1 false (fa P 56 r1.1 4 r25.2) r25.2).bind fun r26 =>
 (gif r25.1 false (ld P 4 r26.1 r26.2) r26.2).bind fun r27 =>
 (gif r25.1 false (vl r27.1 r27.2) r27.2).bind fun r28 =>
 (gif r28.1 true (fa P 56 r1.1 3 r28.2) r28.2).bind fun r29 =>
 (gif r28.1 true (ld P 9 r29.1 r29.2) r29.2).bind fun r30 =>
 (gif r28.1 true (bo P .neq 9 (.tmp 31) (.const (Go.Value.string { data := #[] })) r30.1 (Go.Value.string { data := #[] }) r30.2) r30.2).bind fun r31 =>
 (gif r25.1 false (pickV r28.1 r31.1 (.bool false) r31.2) r31.2).bind fun r32 =>
 (pickV r25.1 (.bool true) r32.1 r32.2).bind fun r33 =>
 (vl r33.1 r33.2).bind fun r34 =>
 (gif r34.1 false (fa P 56 r1.1 2 r34.2) r34.2).bind fun r35 =>
 (gif r34.1 false (ld P 25 r35.1 r35.2) r35.2).bind fun r36 =>
 (gif r34.1 false (EV P 56 #[r36.1] r36.2) r36.2).bind fun r37 =>
 (gif r34.1 false (uo P .not r37.1 r37.2) r37.2).bind fun r38 =>
 (pickV r34.1 (.bool true) r38.1 r38.2).bind fun r39 =>
 cnd r39.1 (
 (vl (.bool false) r39.2).bind fun r40 =>
 some (r40.1, r40.2)) (
 (vl (.int .i64 0) r39.2).bind fun r41 =>
 spec_l2Ok_l1 (ups (env0 #[x0]) [(1, r1.1), (2, r2.1), (4, r3.1), (5, r4.1), (6, r5.1), (7, r6.1), (8, r7.1), (9, r8.1), (10, r9.1), (11, r10.1), (12, r11.1), (13, r12.1), (14, r13.1), (15, r14.1), (16, r15.1), (17, r16.1), (18, r17.1), (19, r18.1), (20, r19.1), (21, r20.1), (22, r21.1), (23, r22.1), (24, r23.1), (25, r24.1), (26, r25.1), (27, r26.1), (28, r27.1), (29, r28.1), (30, r29.1), (31, r30.1), (32, r31.1), (33, r32.1), (34, r33.1), (35, r34.1), (36, r35.1), (37, r36.1), (38, r37.1), (39, r38.1), (40, r39.1), (3, r41.1)]) r41.2) := by kernel_rfl

/-! spec_l2Add -/
noncomputable def spec_l2Add_j1 (e : Env) (w : World) : Option (Value × World) := exC P (EV P) 87 23 (cB (cB (bodyOf P 87))) e w (kFn P (fnOf P 87))
theorem spec_l2Add_j1_eq (e : Env) (w : World) : spec_l2Add_j1 e w =
 (ld P 49 (e 2) w).bind fun r1 =>
 (st P 49 (e 4) r1.1 r1.2).bind fun r2 =>
 ((ld P 49 (e 4) r2.2).bind fun r3 => ifP (r3.2 = r2.2) (some r3.1)).bind fun v4 =>
 some (v4, r2.2) := by kernel_rfl
theorem spec_l2Add_fn (x0 x1 : Value) (w : World) : fnC P (EV P) 87 #[x0, x1] w =
 (bx P 49 x0 w).bind fun r1 =>
 (bx P 56 x1 r1.2).bind fun r2 =>
 (al P 49 r2.2).bind fun r3 =>
 (fa P 49 r1.1 0 (dw r3.2)).bind fun r5 =>
 ifP (r5.2 = (dw r3.2)) <|
 (ld P 47 r5.1 (dw r3.2)).bind fun r6 =>
 ifP (r6.2 = (dw r3.2)) <|
 (fa P 56 r2.1 0 (dw r3.2)).bind fun r7 =>
 ifP (r7.2 = (dw r3.2)) <|
 (ld P 3 r7.1 (dw r3.2)).bind fun r8 =>
 ifP (r8.2 = (dw r3.2)) <|
 (ia P 47 r6.1 r8.1 (dw r3.2)).bind fun r9 =>
 ifP (r9.2 = (dw r3.2)) <|
 (fa P 56 r9.1 1 (dw r3.2)).bind fun r10 =>
 ifP (r10.2 = (dw r3.2)) <|
 (ld P 32 r10.1 (dw r3.2)).bind fun r11 =>
 ifP (r11.2 = (dw r3.2)) <|
 (fa P 56 r2.1 1 (dw r3.2)).bind fun r12 =>
 ifP (r12.2 = (dw r3.2)) <|
 (ld P 32 r12.1 (dw r3.2)).bind fun r13 =>
 ifP (r13.2 = (dw r3.2)) <|
 (EV P 104 #[r11.1, r13.1] (dw r3.2)).bind fun r14 =>
 ifP (True ∧ True ∧ True ∧ True ∧ True ∧ True ∧ True ∧ True ∧ True ∧ True) <|
 cnd r14.1 (
 (fa P 49 r1.1 0 (dw r14.2)).bind fun r16 =>
 ifP (r16.2 = (dw r14.2)) <|
 (ld P 47 r16.1 (dw r14.2)).bind fun r17 =>
 ifP (r17.2 = (dw r14.2)) <|
 (fa P 56 r2.1 0 (dw r14.2)).bind fun r18 =>
 ifP (r18.2 = (dw r14.2)) <|
 (ld P 3 r18.1 (dw r14.2)).bind fun r19 =>
 ifP (r19.2 = (dw r14.2)) <|
 (ld P 56 r2.1 (dw r14.2)).bind fun r20 =>
 ifP (r20.2 = (dw r14.2)) <|
 (EV P 115 #[r20.1] (dw r14.2)).bind fun r21 =>
 ifP (True ∧ ld P 3 r18.1 r21.2 = some (r19.1, r21.2) ∧ fa P 56 r2.1 0 r21.2 = some (r18.1, r21.2) ∧ ld P 47 r16.1 r21.2 = some (r17.1, r21.2) ∧ fa P 49 r1.1 0 r21.2 = some (r16.1, r21.2) ∧ True) <|
 (ia P 47 r17.1 r19.1 r21.2).bind fun r22 =>
 ifP (r22.2 = r21.2) <|
 (st P 56 r22.1 r21.1 r21.2).bind fun r23 =>
 ifP (True ∧ True ∧ True ∧ True ∧ True ∧ True ∧ True) <|
 spec_l2Add_j1 (ups (env0 #[x0, x1]) [(2, r1.1), (3, r2.1), (4, r3.1), (5, r5.1), (6, r6.1), (7, r7.1), (8, r8.1), (9, r9.1), (10, r10.1), (11, r11.1), (12, r12.1), (13, r13.1), (14, r14.1), (15, r16.1), (16, r17.1), (17, r18.1), (18, r19.1), (19, r20.1), (20, r21.1), (21, r22.1)]) r23.2) (
 spec_l2Add_j1 (ups (env0 #[x0, x1]) [(2, r1.1), (3, r2.1), (4, r3.1), (5, r5.1), (6, r6.1), (7, r7.1), (8, r8.1), (9, r9.1), (10, r10.1), (11, r11.1), (12, r12.1), (13, r13.1), (14, r14.1)]) r14.2) := by kernel_rfl

/-! spec_l2CopyStore -/
noncomputable def spec_l2CopyStore_l1 (e : Env) (w : World) : Option (Value × World) := exC P (EV P) 88 25 (.loop (cA (cA (cB (cA (cB (cB (bodyOf P 88)))))))) e w (kBlock 0 (kSeq P (EV P) 88 25 (cB (cB (cB (bodyOf P 88)))) (kFn P (fnOf P 88))))
theorem spec_l2CopyStore_l1_eq (e : Env) (w : World) : spec_l2CopyStore_l1 e w =
 (vl (e 4) w).bind fun r1 =>
 (fa P 49 (e 1) 0 r1.2).bind fun r2 =>
 (ld P 47 r2.1 r2.2).bind fun r3 =>
 (b_len P #[47] 3 #[r3.1] r3.2).bind fun r4 =>
 (bo P .lss 3 (.tmp 6) (.tmp 9) r1.1 r4.1 r4.2).bind fun r5 =>
 cnd r5.1 (
 (fa P 49 (e 3) 0 (dw r5.2)).bind fun r7 =>
 ifP (r7.2 = (dw r5.2)) <|
 (ld P 47 r7.1 (dw r5.2)).bind fun r8 =>
 ifP (r8.2 = (dw r5.2)) <|
 (fa P 49 (e 1) 0 (dw r5.2)).bind fun r9 =>
 ifP (r9.2 = (dw r5.2)) <|
 (ld P 47 r9.1 (dw r5.2)).bind fun r10 =>
 ifP (r10.2 = (dw r5.2)) <|
 (vl (e 4) (dw r5.2)).bind fun r11 =>
 ifP (r11.2 = (dw r5.2)) <|
 (ia P 47 r10.1 r11.1 (dw r5.2)).bind fun r12 =>
 ifP (r12.2 = (dw r5.2)) <|
 (ld P 56 r12.1 (dw r5.2)).bind fun r13 =>
 ifP (r13.2 = (dw r5.2)) <|
 (EV P 115 #[r13.1] (dw r5.2)).bind fun r14 =>
 ifP (True ∧ True ∧ True ∧ True ∧ ld P 47 r7.1 r14.2 = some (r8.1, r14.2) ∧ fa P 49 (e 3) 0 r14.2 = some (r7.1, r14.2) ∧ True) <|
 (bs P 47 1 #[(0, r14.1)] r14.2).bind fun r15 =>
 ifP (True ∧ True ∧ True ∧ True ∧ ld P 47 r7.1 r15.2 = some (r8.1, r15.2) ∧ fa P 49 (e 3) 0 r15.2 = some (r7.1, r15.2) ∧ True) <|
 (b_append P #[47, 47] 47 #[r8.1, r15.1] r15.2).bind fun r16 =>
 ifP (True ∧ True ∧ True ∧ True ∧ True ∧ True ∧ True) <|
 (fa P 49 (e 3) 0 r16.2).bind fun r17 =>
 ifP (r17.2 = r16.2) <|
 (st P 47 r17.1 r16.1 r16.2).bind fun r18 =>
 ifP (True ∧ True ∧ True ∧ True ∧ True ∧ True ∧ True ∧ True) <|
 (vl (e 4) r18.2).bind fun r19 =>
 (bo P .add 3 (.tmp 11) (.const (.int .i64 1)) r19.1 (.int .i64 1) r19.2).bind fun r20 =>
 (vl r20.1 r20.2).bind fun r21 =>
 spec_l2CopyStore_l1 (ups e [(6, r1.1), (7, r2.1), (8, r3.1), (9, r4.1), (10, r5.1), (13, r7.1), (14, r8.1), (15, r9.1), (16, r10.1), (17, r11.1), (18, r12.1), (19, r13.1), (20, r14.1), (21, r15.1), (22, r16.1), (23, r17.1), (11, r19.1), (12, r20.1), (4, r21.1)]) r21.2) (
 (ld P 49 (e 3) r5.2).bind fun r22 =>
 (st P 49 (e 2) r22.1 r22.2).bind fun r23 =>
 ((ld P 49 (e 2) r23.2).bind fun r24 => ifP (r24.2 = r23.2) (some r24.1)).bind fun v25 =>
 some (v25, r23.2)) := (exC_loop P (EV P) 88 25 (cA (cA (cB (cA (cB (cB (bodyOf P 88))))))) e w (kBlock 0 (kSeq P (EV P) 88 25 (cB (cB (cB (bodyOf P 88)))) (kFn P (fnOf P 88))))).trans (by kernel_rfl)
theorem spec_l2CopyStore_fn (x0 : Value) (w : World) : fnC P (EV P) 88 #[x0] w =
 (bx P 49 x0 w).bind fun r1 =>
 (al P 49 r1.2).bind fun r2 =>
 (bd P 49 #[] r2.2).bind fun r3 =>
 (al P 49 r3.2).bind fun r4 =>
 (st P 49 r4.1 r3.1 r4.2).bind fun r5 =>
 (vl (.int .i64 0) r5.2).bind fun r6 =>
 spec_l2CopyStore_l1 (ups (env0 #[x0]) [(1, r1.1), (2, r2.1), (5, r3.1), (3, r4.1), (4, r6.1)]) r6.2 := by kernel_rfl

/-! impl_Ver_written -/
theorem impl_Ver_written_fn (x0 : Value) (w : World) : fnC P (EV P) 89 #[x0] w =
 (bx P 56 x0 w).bind fun r1 =>
 (vl (.bool false) r1.2).bind fun r2 =>
 (fa P 56 r1.1 0 r2.2).bind fun r3 =>
 (ld P 3 r3.1 r3.2).bind fun r4 =>
 (EV P 116 #[r4.1] r4.2).bind fun r5 =>
 (vl r5.1 r5.2).bind fun r6 =>
 (gif r6.1 true (fa P 56 r1.1 3 r6.2) r6.2).bind fun r7 =>
 (gif r6.1 true (ld P 9 r7.1 r7.2) r7.2).bind fun r8 =>
 (gif r6.1 true (EV P 117 #[r8.1] r8.2) r8.2).bind fun r9 =>
 (pickV r6.1 r9.1 (.bool false) r9.2).bind fun r10 =>
 (vl r10.1 r10.2).bind fun r11 =>
 (gif r11.1 true (fa P 56 r1.1 4 r11.2) r11.2).bind fun r12 =>
 (gif r11.1 true (ld P 4 r12.1 r12.2) r12.2).bind fun r13 =>
 (gif r11.1 true (uo P .not r13.1 r13.2) r13.2).bind fun r14 =>
 (gif r11.1 true (vl r14.1 r14.2) r14.2).bind fun r15 =>
 (gif r15.1 false (fa P 56 r1.1 3 r15.2) r15.2).bind fun r16 =>
 (gif r15.1 false (ld P 9 r16.1 r16.2) r16.2).bind fun r17 =>
 (gif r15.1 false (bo P .eql 9 (.tmp 17) (.const (Go.Value.string { data := #[] })) r17.1 (Go.Value.string { data := #[] }) r17.2) r17.2).bind fun r18 =>
 (gif r11.1 true (pickV r15.1 (.bool true) r18.1 r18.2) r18.2).bind fun r19 =>
 (pickV r11.1 r19.1 (.bool false) r19.2).bind fun r20 =>
 (vl r20.1 r20.2).bind fun r21 =>
 (gif r21.1 true (fa P 56 r1.1 2 r21.2) r21.2).bind fun r22 =>
 (gif r21.1 true (ld P 25 r22.1 r22.2) r22.2).bind fun r23 =>
 (gif r21.1 true (EV P 17 #[r23.1] r23.2) r23.2).bind fun r24 =>
 (pickV r21.1 r24.1 (.bool false) r24.2).bind fun r25 =>
 (vl r25.1 r25.2).bind fun r26 =>
 some (r26.1, r26.2) := by kernel_rfl

/-! impl_Past_latest -/
noncomputable def impl_Past_latest_l1 (e : Env) (w : World) : Option (Value × World) := exC P (EV P) 90 19 (.loop (cA (cA (cB (cA (cB (cB (bodyOf P 90)))))))) e w (kBlock 0 (kSeq P (EV P) 90 19 (cB (cB (cB (bodyOf P 90)))) (kFn P (fnOf P 90))))
theorem impl_Past_latest_l1_eq (e : Env) (w : World) : impl_Past_latest_l1 e w =
 (bo P .lss 3 (.tmp 9) (.tmp 8) (e 9) (e 8) w).bind fun r1 =>
 cnd r1.1 (
 (ia P 23 (e 7) (e 9) r1.2).bind fun r2 =>
 (ld P 32 r2.1 r2.2).bind fun r3 =>
 (al P 32 r3.2).bind fun r4 =>
 (st P 32 r4.1 r3.1 r4.2).bind fun r5 =>
 (vl (e 3) r5.2).bind fun r6 =>
 (fa P 32 r4.1 0 r6.2).bind fun r7 =>
 (ld P 3 r7.1 r7.2).bind fun r8 =>
 (b_max P #[3, 3] 3 #[r6.1, r8.1] r8.2).bind fun r9 =>
 (vl r9.1 r9.2).bind fun r10 =>
 (bo P .add 3 (.tmp 9) (.const (.int .i64 1)) (e 9) (.int .i64 1) r10.2).bind fun r11 =>
 (vl r11.1 r11.2).bind fun r12 =>
 impl_Past_latest_l1 (ups e [(10, r1.1), (11, r2.1), (12, r3.1), (5, r4.1), (13, r6.1), (14, r7.1), (15, r8.1), (16, r9.1), (3, r10.1), (17, r11.1), (9, r12.1)]) r12.2) (
 (vl (e 3) r1.2).bind fun r13 =>
 (vl r13.1 r13.2).bind fun r14 =>
 some (r14.1, r14.2)) := (exC_loop P (EV P) 90 19 (cA (cA (cB (cA (cB (cB (bodyOf P 90))))))) e w (kBlock 0 (kSeq P (EV P) 90 19 (cB (cB (cB (bodyOf P 90)))) (kFn P (fnOf P 90))))).trans (by kernel_rfl)
theorem impl_Past_latest_fn (x0 : Value) (w : World) : fnC P (EV P) 90 #[x0] w =
 (bx P 25 x0 w).bind fun r1 =>
 (vl (.int .i64 0) r1.2).bind fun r2 =>
 (vl (.int .i64 0) r2.2).bind fun r3 =>
 (fa P 25 r1.1 0 r3.2).bind fun r4 =>
 (ld P 23 r4.1 r4.2).bind fun r5 =>
 (b_len P #[23] 3 #[r5.1] r5.2).bind fun r6 =>
 (vl (.int .i64 0) r6.2).bind fun r7 =>
 impl_Past_latest_l1 (ups (env0 #[x0]) [(1, r1.1), (2, r2.1), (3, r3.1), (6, r4.1), (7, r5.1), (8, r6.1), (9, r7.1)]) r7.2 := by kernel_rfl

/-! impl_TagLess -/
theorem impl_TagLess_fn (x0 x1 : Value) (w : World) : fnC P (EV P) 91 #[x0, x1] w =
 (bx P 32 x0 w).bind fun r1 =>
 (bx P 32 x1 r1.2).bind fun r2 =>
 (vl (.bool false) r2.2).bind fun r3 =>
 (ld P 32 r1.1 r3.2).bind fun r4 =>
 (ld P 32 r2.1 r4.2).bind fun r5 =>
 (EV P 118 #[r4.1, r5.1] r5.2).bind fun r6 =>
 (bo P .lss 3 (.tmp 7) (.const (.int .i64 0)) r6.1 (.int .i64 0) r6.2).bind fun r7 =>
 (vl r7.1 r7.2).bind fun r8 =>
 some (r8.1, r8.2) := by kernel_rfl

/-! laws_heldVerS -/
noncomputable def laws_heldVerS_l1 (e : Env) (w : World) : Option (Value × World) := exC P (EV P) 92 73 (.loop (cA (cA (cB (cA (cB (bodyOf P 92))))))) e w (kBlock 0 (kSeq P (EV P) 92 73 (cB (cB (bodyOf P 92))) (kFn P (fnOf P 92))))
theorem laws_heldVerS_l1_eq (e : Env) (w : World) : laws_heldVerS_l1 e w =
 (vl (e 5) w).bind fun r1 =>
 (vl (e 0) r1.2).bind fun r2 =>
 (b_len P #[47] 3 #[r2.1] r2.2).bind fun r3 =>
 (bo P .lss 3 (.tmp 6) (.tmp 8) r1.1 r3.1 r3.2).bind fun r4 =>
 cnd r4.1 (
 (vl (e 0) r4.2).bind fun r5 =>
 (vl (e 5) r5.2).bind fun r6 =>
 (ia P 47 r5.1 r6.1 r6.2).bind fun r7 =>
 (fa P 56 r7.1 0 r7.2).bind fun r8 =>
 (ld P 3 r8.1 r8.2).bind fun r9 =>
 (vl (e 1) r9.2).bind fun r10 =>
 (bo P .neq 3 (.tmp 16) (.tmp 17) r9.1 r10.1 r10.2).bind fun r11 =>
 cnd r11.1 (
 (vl (.int .i64 (-1)) r11.2).bind fun r12 =>
 some (r12.1, r12.2)) (
 (vl (e 1) r11.2).bind fun r13 =>
 (bo P .add 3 (.tmp 19) (.const (.int .i64 1)) r13.1 (.int .i64 1) r13.2).bind fun r14 =>
 (vl r14.1 r14.2).bind fun r15 =>
 (vl (e 0) r15.2).bind fun r16 =>
 (vl (e 5) r16.2).bind fun r17 =>
 (ia P 47 r16.1 r17.1 r17.2).bind fun r18 =>
 (fa P 56 r18.1 1 r18.2).bind fun r19 =>
 (fa P 32 r19.1 0 r19.2).bind fun r20 =>
 (ld P 3 r20.1 r20.2).bind fun r21 =>
 (vl r15.1 r21.2).bind fun r22 =>
 (bo P .neq 3 (.tmp 26) (.tmp 27) r21.1 r22.1 r22.2).bind fun r23 =>
 cnd r23.1 (
 (vl (.int .i64 (-1)) r23.2).bind fun r24 =>
 some (r24.1, r24.2)) (
 (vl r15.1 r23.2).bind fun r25 =>
 (bo P .add 3 (.tmp 29) (.const (.int .i64 1)) r25.1 (.int .i64 1) r25.2).bind fun r26 =>
 (vl r26.1 r26.2).bind fun r27 =>
 (vl (e 0) r27.2).bind fun r28 =>
 (vl (e 5) r28.2).bind fun r29 =>
 (ia P 47 r28.1 r29.1 r29.2).bind fun r30 =>
 (fa P 56 r30.1 1 r30.2).bind fun r31 =>
 (fa P 32 r31.1 1 r31.2).bind fun r32 =>
 (ld P 3 r32.1 r32.2).bind fun r33 =>
 (vl r27.1 r33.2).bind fun r34 =>
 (bo P .neq 3 (.tmp 36) (.tmp 37) r33.1 r34.1 r34.2).bind fun r35 =>
 cnd r35.1 (
 (vl (.int .i64 (-1)) r35.2).bind fun r36 =>
 some (r36.1, r36.2)) (
 (vl r27.1 r35.2).bind fun r37 =>
 (bo P .add 3 (.tmp 39) (.const (.int .i64 1)) r37.1 (.int .i64 1) r37.2).bind fun r38 =>
 (vl r38.1 r38.2).bind fun r39 =>
 (vl (e 0) r39.2).bind fun r40 =>
 (vl (e 5) r40.2).bind fun r41 =>
 (ia P 47 r40.1 r41.1 r41.2).bind fun r42 =>
 (fa P 56 r42.1 2 r42.2).bind fun r43 =>
 (fa P 25 r43.1 0 r43.2).bind fun r44 =>
 (ld P 23 r44.1 r44.2).bind fun r45 =>
 (vl r39.1 r45.2).bind fun r46 =>
 (EV P 68 #[r45.1, r46.1] r46.2).bind fun r47 =>
 (vl r47.1 r47.2).bind fun r48 =>
 (vl r48.1 r48.2).bind fun r49 =>
 (bo P .lss 3 (.tmp 49) (.const (.int .i64 0)) r49.1 (.int .i64 0) r49.2).bind fun r50 =>
 cnd r50.1 (
 (vl (.int .i64 (-1)) r50.2).bind fun r51 =>
 some (r51.1, r51.2)) (
 (vl (e 0) (dw r50.2)).bind fun r53 =>
 ifP (r53.2 = (dw r50.2)) <|
 (vl (e 5) (dw r50.2)).bind fun r54 =>
 ifP (r54.2 = (dw r50.2)) <|
 (ia P 47 r53.1 r54.1 (dw r50.2)).bind fun r55 =>
 ifP (r55.2 = (dw r50.2)) <|
 (fa P 56 r55.1 3 (dw r50.2)).bind fun r56 =>
 ifP (r56.2 = (dw r50.2)) <|
 (ld P 9 r56.1 (dw r50.2)).bind fun r57 =>
 ifP (r57.2 = (dw r50.2)) <|
 (vl r48.1 (dw r50.2)).bind fun r58 =>
 ifP (r58.2 = (dw r50.2)) <|
 (EV P 107 #[r58.1] (dw r50.2)).bind fun r59 =>
 ifP (ld P 9 r56.1 r59.2 = some (r57.1, r59.2) ∧ fa P 56 r55.1 3 r59.2 = some (r56.1, r59.2) ∧ ia P 47 r53.1 r54.1 r59.2 = some (r55.1, r59.2) ∧ True) <|
 (bo P .neq 9 (.tmp 55) (.tmp 57) r57.1 r59.1 r59.2).bind fun r60 =>
 ifP (r60.2 = r59.2) <|
 cnd r60.1 (
 (vl (.int .i64 (-1)) r59.2).bind fun r61 =>
 some (r61.1, r61.2)) (
 (vl r48.1 r59.2).bind fun r62 =>
 (bo P .add 3 (.tmp 59) (.const (.int .i64 1)) r62.1 (.int .i64 1) r62.2).bind fun r63 =>
 (vl r63.1 r63.2).bind fun r64 =>
 (vl (e 0) r64.2).bind fun r65 =>
 (vl (e 5) r65.2).bind fun r66 =>
 (ia P 47 r65.1 r66.1 r66.2).bind fun r67 =>
 (fa P 56 r67.1 4 r67.2).bind fun r68 =>
 (ld P 4 r68.1 r68.2).bind fun r69 =>
 (vl r64.1 r69.2).bind fun r70 =>
 (bo P .rem 3 (.tmp 66) (.const (.int .i64 3)) r70.1 (.int .i64 3) r70.2).bind fun r71 =>
 (bo P .eql 3 (.tmp 67) (.const (.int .i64 0)) r71.1 (.int .i64 0) r71.2).bind fun r72 =>
 (bo P .neq 4 (.tmp 65) (.tmp 68) r69.1 r72.1 r72.2).bind fun r73 =>
 cnd r73.1 (
 (vl (.int .i64 (-1)) r73.2).bind fun r74 =>
 some (r74.1, r74.2)) (
 (vl r64.1 r73.2).bind fun r75 =>
 (bo P .add 3 (.tmp 70) (.const (.int .i64 1)) r75.1 (.int .i64 1) r75.2).bind fun r76 =>
 (vl r76.1 r76.2).bind fun r77 =>
 (vl (e 5) r77.2).bind fun r78 =>
 (bo P .add 3 (.tmp 10) (.const (.int .i64 1)) r78.1 (.int .i64 1) r78.2).bind fun r79 =>
 (vl r79.1 r79.2).bind fun r80 =>
 laws_heldVerS_l1 (ups e [(6, r1.1), (7, r2.1), (8, r3.1), (9, r4.1), (12, r5.1), (13, r6.1), (14, r7.1), (15, r8.1), (16, r9.1), (17, r10.1), (18, r11.1), (19, r13.1), (20, r14.1), (1, r15.1), (21, r16.1), (22, r17.1), (23, r18.1), (24, r19.1), (25, r20.1), (26, r21.1), (27, r22.1), (28, r23.1), (29, r25.1), (30, r26.1), (1, r27.1), (31, r28.1), (32, r29.1), (33, r30.1), (34, r31.1), (35, r32.1), (36, r33.1), (37, r34.1), (38, r35.1), (39, r37.1), (40, r38.1), (1, r39.1), (41, r40.1), (42, r41.1), (43, r42.1), (44, r43.1), (45, r44.1), (46, r45.1), (47, r46.1), (48, r47.1), (1, r48.1), (49, r49.1), (50, r50.1), (51, r53.1), (52, r54.1), (53, r55.1), (54, r56.1), (55, r57.1), (56, r58.1), (57, r59.1), (58, r60.1), (59, r62.1), (60, r63.1), (1, r64.1), (61, r65.1), (62, r66.1), (63, r67.1), (64, r68.1), (65, r69.1), (66, r70.1), (67, r71.1), (68, r72.1), (69, r73.1), (70, r75.1), (71, r76.1), (1, r77.1), (10, r78.1), (11, r79.1), (5, r80.1)]) r80.2))))))) (
 (vl (e 1) r4.2).bind fun r81 =>
 (vl r81.1 r81.2).bind fun r82 =>
 some (r82.1, r82.2)) := (exC_loop P (EV P) 92 73 (cA (cA (cB (cA (cB (bodyOf P 92)))))) e w (kBlock 0 (kSeq P (EV P) 92 73 (cB (cB (bodyOf P 92))) (kFn P (fnOf P 92))))).trans (by kernel_rfl)
theorem laws_heldVerS_fn (x0 x1 : Value) (w : World) : fnC P (EV P) 92 #[x0, x1] w =
 (vl (.int .i64 0) w).bind fun r1 =>
 (vl (.int .i64 0) r1.2).bind fun r2 =>
 laws_heldVerS_l1 (ups (env0 #[x0, x1]) [(4, r1.1), (5, r2.1)]) r2.2 := by kernel_rfl

/-! laws_toTag -/
theorem laws_toTag_fn (x0 : Value) (w : World) : fnC P (EV P) 93 #[x0] w =
 (bx P 68 x0 w).bind fun r1 =>
 (al P 32 r1.2).bind fun r2 =>
 (al P 32 r2.2).bind fun r3 =>
 (fa P 68 r1.1 0 r3.2).bind fun r4 =>
 (ld P 3 r4.1 r4.2).bind fun r5 =>
 (fa P 32 r3.1 0 r5.2).bind fun r6 =>
 (st P 3 r6.1 r5.1 r6.2).bind fun r7 =>
 (fa P 68 r1.1 1 r7.2).bind fun r8 =>
 (ld P 3 r8.1 r8.2).bind fun r9 =>
 (fa P 32 r3.1 1 r9.2).bind fun r10 =>
 (st P 3 r10.1 r9.1 r10.2).bind fun r11 =>
 (ld P 32 r3.1 r11.2).bind fun r12 =>
 (st P 32 r2.1 r12.1 r12.2).bind fun r13 =>
 ((ld P 32 r2.1 r13.2).bind fun r14 => ifP (r14.2 = r13.2) (some r14.1)).bind fun v15 =>
 some (v15, r13.2) := by kernel_rfl

/-! laws_eqTag -/
theorem laws_eqTag_fn (x0 x1 : Value) (w : World) : fnC P (EV P) 94 #[x0, x1] w =
 (bx P 32 x0 w).bind fun r1 =>
 (bx P 32 x1 r1.2).bind fun r2 =>
 (vl (.bool false) r2.2).bind fun r3 =>
 (fa P 32 r1.1 0 r3.2).bind fun r4 =>
 (ld P 3 r4.1 r4.2).bind fun r5 =>
 (fa P 32 r2.1 0 r5.2).bind fun r6 =>
 (ld P 3 r6.1 r6.2).bind fun r7 =>
 (bo P .neq 3 (.tmp 6) (.tmp 8) r5.1 r7.1 r7.2).bind fun r8 =>
 cnd r8.1 (
 (vl (.bool false) r8.2).bind fun r9 =>
 some (r9.1, r9.2)) (
 (fa P 32 r1.1 1 r8.2).bind fun r10 =>
 (ld P 3 r10.1 r10.2).bind fun r11 =>
 (fa P 32 r2.1 1 r11.2).bind fun r12 =>
 (ld P 3 r12.1 r12.2).bind fun r13 =>
 (bo P .neq 3 (.tmp 11) (.tmp 13) r11.1 r13.1 r13.2).bind fun r14 =>
 cnd r14.1 (
 (vl (.bool false) r14.2).bind fun r15 =>
 some (r15.1, r15.2)) (
 (vl (.bool true) r14.2).bind fun r16 =>
 some (r16.1, r16.2))) := by kernel_rfl

/-! spec_l1None -/
theorem spec_l1None_fn (w : World) : fnC P (EV P) 95 #[] w =
 (al P 25 w).bind fun r1 =>
 (ms P 23 (.int .i64 4) (.int .i64 4) r1.2).bind fun r2 =>
 (bd P 25 #[(0, r2.1)] r2.2).bind fun r3 =>
 (st P 25 r1.1 r3.1 r3.2).bind fun r4 =>
 ((ld P 25 r1.1 r4.2).bind fun r5 => ifP (r5.2 = r4.2) (some r5.1)).bind fun v6 =>
 some (v6, r4.2) := by kernel_rfl

/-! spec_l20Tag -/
theorem spec_l20Tag_fn (x0 : Value) (w : World) : fnC P (EV P) 96 #[x0] w =
 (al P 32 w).bind fun r1 =>
 (vl x0 r1.2).bind fun r2 =>
 (EV P 62 #[r2.1, (.int .i64 3)] r2.2).bind fun r3 =>
 (bo P .eql 3 (.tmp 4) (.const (.int .i64 0)) r3.1 (.int .i64 0) r3.2).bind fun r4 =>
 cnd r4.1 (
 (bd P 32 #[] r4.2).bind fun r5 =>
 (st P 32 r1.1 r5.1 r5.2).bind fun r6 =>
 ((ld P 32 r1.1 r6.2).bind fun r7 => ifP (r7.2 = r6.2) (some r7.1)).bind fun v8 =>
 some (v8, r6.2)) (
 (vl x0 r4.2).bind fun r9 =>
 (EV P 62 #[r9.1, (.int .i64 9)] r9.2).bind fun r10 =>
 (bo P .add 3 (.const (.int .i64 1)) (.tmp 8) (.int .i64 1) r10.1 r10.2).bind fun r11 =>
 (vl x0 r11.2).bind fun r12 =>
 (EV P 62 #[r12.1, (.int .i64 3)] r12.2).bind fun r13 =>
 (bd P 32 #[(0, r11.1), (1, r13.1)] r13.2).bind fun r14 =>
 (st P 32 r1.1 r14.1 r14.2).bind fun r15 =>
 ((ld P 32 r1.1 r15.2).bind fun r16 => ifP (r16.2 = r15.2) (some r16.1)).bind fun v17 =>
 some (v17, r15.2)) := by kernel_rfl

/-! spec_l20AnyTag -/
theorem spec_l20AnyTag_fn (x0 : Value) (w : World) : fnC P (EV P) 97 #[x0] w =
 (al P 32 w).bind fun r1 =>
 (vl x0 r1.2).bind fun r2 =>
 (EV P 62 #[r2.1, (.int .i64 8)] r2.2).bind fun r3 =>
 (bo P .eql 3 (.tmp 4) (.const (.int .i64 0)) r3.1 (.int .i64 0) r3.2).bind fun r4 =>
 cnd r4.1 (
 (vl x0 r4.2).bind fun r5 =>
 (bs P 109 4 #[(0, (.int .i64 0)), (1, (.int .i64 (-1))), (2, (.int .i64 1000)), (3, (.int .i64 999))] r5.2).bind fun r6 =>
 (EV P 110 #[r5.1, r6.1] r6.2).bind fun r7 =>
 (vl x0 r7.2).bind fun r8 =>
 (bs P 109 4 #[(0, (.int .i64 0)), (1, (.int .i64 1)), (2, (.int .i64 3)), (3, (.int .i64 (-1)))] r8.2).bind fun r9 =>
 (EV P 110 #[r8.1, r9.1] r9.2).bind fun r10 =>
 (bd P 32 #[(0, r7.1), (1, r10.1)] r10.2).bind fun r11 =>
 (st P 32 r1.1 r11.1 r11.2).bind fun r12 =>
 ((ld P 32 r1.1 r12.2).bind fun r13 => ifP (r13.2 = r12.2) (some r13.1)).bind fun v14 =>
 some (v14, r12.2)) (
 (vl x0 r4.2).bind fun r15 =>
 (EV P 96 #[r15.1] r15.2).bind fun r16 =>
 (st P 32 r1.1 r16.1 r16.2).bind fun r17 =>
 ((ld P 32 r1.1 r17.2).bind fun r18 => ifP (r18.2 = r17.2) (some r18.1)).bind fun v19 =>
 some (v19, r17.2)) := by kernel_rfl

/-! impl_Past_copied -/
theorem impl_Past_copied_fn (x0 : Value) (w : World) : fnC P (EV P) 98 #[x0] w =
 (bx P 25 x0 w).bind fun r1 =>
 (al P 25 r1.2).bind fun r2 =>
 (fa P 25 r1.1 0 r2.2).bind fun r3 =>
 (ld P 23 r3.1 r3.2).bind fun r4 =>
 (EV P 120 #[r4.1] r4.2).bind fun r5 =>
 (EV P 119 #[r5.1] r5.2).bind fun r6 =>
 (bd P 25 #[(0, r6.1)] r6.2).bind fun r7 =>
 (st P 25 r2.1 r7.1 r7.2).bind fun r8 =>
 ((ld P 25 r2.1 r8.2).bind fun r9 => ifP (r9.2 = r8.2) (some r9.1)).bind fun v10 =>
 some (v10, r8.2) := by kernel_rfl

/-! spec_l1TagOk -/
theorem spec_l1TagOk_fn (x0 : Value) (w : World) : fnC P (EV P) 99 #[x0] w =
 (bx P 32 x0 w).bind fun r1 =>
 (vl (.bool false) r1.2).bind fun r2 =>
 (ld P 32 r1.1 r2.2).bind fun r3 =>
 (bd P 32 #[] r3.2).bind fun r4 =>
 (bo P .eql 32 (.tmp 3) (.tmp 4) r3.1 r4.1 r4.2).bind fun r5 =>
 (vl r5.1 r5.2).bind fun r6 =>
 (gif r6.1 false (fa P 32 r1.1 0 r6.2) r6.2).bind fun r7 =>
 (gif r6.1 false (ld P 3 r7.1 r7.2) r7.2).bind fun r8 =>
 (gif r6.1 false (EV P 113 #[r8.1, (.int .i64 1), (.int .i64 999)] r8.2) r8.2).bind fun r9 =>
 (gif r6.1 false (vl r9.1 r9.2) r9.2).bind fun r10 =>
 (gif r10.1 true (fa P 32 r1.1 1 r10.2) r10.2).bind fun r11 =>
 (gif r10.1 true (ld P 3 r11.1 r11.2) r11.2).bind fun r12 =>
 (gif r10.1 true (EV P 113 #[r12.1, (.int .i64 0), (.int .i64 2)] r12.2) r12.2).bind fun r13 =>
 (gif r6.1 false (pickV r10.1 r13.1 (.bool false) r13.2) r13.2).bind fun r14 =>
 (pickV r6.1 (.bool true) r14.1 r14.2).bind fun r15 =>
 (vl r15.1 r15.2).bind fun r16 =>
 some (r16.1, r16.2) := by kernel_rfl

/-! spec_l1Max -/
theorem spec_l1Max_fn (x0 x1 : Value) (w : World) : fnC P (EV P) 100 #[x0, x1] w =
 (bx P 32 x0 w).bind fun r1 =>
 (bx P 32 x1 r1.2).bind fun r2 =>
 (al P 32 r2.2).bind fun r3 =>
 (ld P 32 r1.1 r3.2).bind fun r4 =>
 (ld P 32 r2.1 r4.2).bind fun r5 =>
 (EV P 104 #[r4.1, r5.1] r5.2).bind fun r6 =>
 cnd r6.1 (
 (ld P 32 r2.1 r6.2).bind fun r7 =>
 (st P 32 r3.1 r7.1 r7.2).bind fun r8 =>
 ((ld P 32 r3.1 r8.2).bind fun r9 => ifP (r9.2 = r8.2) (some r9.1)).bind fun v10 =>
 some (v10, r8.2)) (
 (ld P 32 r1.1 r6.2).bind fun r11 =>
 (st P 32 r3.1 r11.1 r11.2).bind fun r12 =>
 ((ld P 32 r3.1 r12.2).bind fun r13 => ifP (r13.2 = r12.2) (some r13.1)).bind fun v14 =>
 some (v14, r12.2)) := by kernel_rfl

/-! slices_IndexFunc_Tag -/
noncomputable def slices_IndexFunc_Tag_l1 (e : Env) (w : World) : Option (Value × World) := exC P (EV P) 101 19 (.loop (cA (cA (cB (cA (cB (bodyOf P 101))))))) e w (kBlock 0 (kSeq P (EV P) 101 19 (cB (cB (bodyOf P 101))) (kFn P (fnOf P 101))))
theorem slices_IndexFunc_Tag_l1_eq (e : Env) (w : World) : slices_IndexFunc_Tag_l1 e w =
 (bo P .lss 3 (.tmp 8) (.tmp 7) (e 8) (e 7) w).bind fun r1 =>
 cnd r1.1 (
 (vl (e 8) r1.2).bind fun r2 =>
 (vl r2.1 r2.2).bind fun r3 =>
 (vl (e 1) r3.2).bind fun r4 =>
 (vl (e 0) r4.2).bind fun r5 =>
 (vl r3.1 r5.2).bind fun r6 =>
 (ia P 23 r5.1 r6.1 r6.2).bind fun r7 =>
 (ld P 32 r7.1 r7.2).bind fun r8 =>
 (clo P r4.1 #[r8.1] r8.2).bind fun r9 =>
 cnd r9.1 (
 (vl r3.1 r9.2).bind fun r10 =>
 (vl r10.1 r10.2).bind fun r11 =>
 some (r11.1, r11.2)) (
 (bo P .add 3 (.tmp 8) (.const (.int .i64 1)) (e 8) (.int .i64 1) r9.2).bind fun r12 =>
 (vl r12.1 r12.2).bind fun r13 =>
 slices_IndexFunc_Tag_l1 (ups e [(9, r1.1), (10, r2.1), (5, r3.1), (11, r4.1), (12, r5.1), (13, r6.1), (14, r7.1), (15, r8.1), (16, r9.1), (18, r12.1), (8, r13.1)]) r13.2)) (
 (vl (.int .i64 (-1)) r1.2).bind fun r14 =>
 some (r14.1, r14.2)) := (exC_loop P (EV P) 101 19 (cA (cA (cB (cA (cB (bodyOf P 101)))))) e w (kBlock 0 (kSeq P (EV P) 101 19 (cB (cB (bodyOf P 101))) (kFn P (fnOf P 101))))).trans (by kernel_rfl)
theorem slices_IndexFunc_Tag_fn (x0 x1 : Value) (w : World) : fnC P (EV P) 101 #[x0, x1] w =
 (vl (.int .i64 0) w).bind fun r1 =>
 (vl x0 r1.2).bind fun r2 =>
 (b_len P #[23] 3 #[r2.1] r2.2).bind fun r3 =>
 (vl (.int .i64 0) r3.2).bind fun r4 =>
 slices_IndexFunc_Tag_l1 (ups (env0 #[x0, x1]) [(4, r1.1), (6, r2.1), (7, r3.1), (8, r4.1)]) r4.2 := by kernel_rfl

/-! impl_within -/
theorem impl_within_fn (x0 x1 x2 : Value) (w : World) : fnC P (EV P) 102 #[x0, x1, x2] w =
 (vl (.bool false) w).bind fun r1 =>
 (vl x0 r1.2).bind fun r2 =>
 (vl x1 r2.2).bind fun r3 =>
 (bo P .geq 3 (.tmp 7) (.tmp 8) r2.1 r3.1 r3.2).bind fun r4 =>
 (vl r4.1 r4.2).bind fun r5 =>
 (gif r5.1 true (vl x0 r5.2) r5.2).bind fun r6 =>
 (gif r5.1 true (vl x2 r6.2) r6.2).bind fun r7 =>
 (gif r5.1 true (bo P .leq 3 (.tmp 11) (.tmp 12) r6.1 r7.1 r7.2) r7.2).bind fun r8 =>
 (pickV r5.1 r8.1 (.bool false) r8.2).bind fun r9 =>
 (vl r9.1 r9.2).bind fun r10 =>
 some (r10.1, r10.2) := by kernel_rfl

/-! impl_placeOk -/
theorem impl_placeOk_fn (x0 : Value) (w : World) : fnC P (EV P) 103 #[x0] w =
 (vl (.bool false) w).bind fun r1 =>
 (vl x0 r1.2).bind fun r2 =>
 (EV P 102 #[r2.1, (.int .i64 0), (.int .i64 2)] r2.2).bind fun r3 =>
 (vl r3.1 r3.2).bind fun r4 =>
 some (r4.1, r4.2) := by kernel_rfl

/-! spec_l1Less -/
theorem spec_l1Less_fn (x0 x1 : Value) (w : World) : fnC P (EV P) 104 #[x0, x1] w =
 (bx P 32 x0 w).bind fun r1 =>
 (bx P 32 x1 r1.2).bind fun r2 =>
 (vl (.bool false) r2.2).bind fun r3 =>
 (fa P 32 r1.1 0 r3.2).bind fun r4 =>
 (ld P 3 r4.1 r4.2).bind fun r5 =>
 (fa P 32 r2.1 0 r5.2).bind fun r6 =>
 (ld P 3 r6.1 r6.2).bind fun r7 =>
 (bo P .lss 3 (.tmp 6) (.tmp 8) r5.1 r7.1 r7.2).bind fun r8 =>
 (vl r8.1 r8.2).bind fun r9 =>
 (gif r9.1 false (fa P 32 r1.1 0 r9.2) r9.2).bind fun r10 =>
 (gif r9.1 false (ld P 3 r10.1 r10.2) r10.2).bind fun r11 =>
 (gif r9.1 false (fa P 32 r2.1 0 r11.2) r11.2).bind fun r12 =>
 (gif r9.1 false (ld P 3 r12.1 r12.2) r12.2).bind fun r13 =>
 (gif r9.1 false (bo P .eql 3 (.tmp 12) (.tmp 14) r11.1 r13.1 r13.2) r13.2).bind fun r14 =>
 (gif r9.1 false (vl r14.1 r14.2) r14.2).bind fun r15 =>
 (gif r15.1 true (fa P 32 r1.1 1 r15.2) r15.2).bind fun r16 =>
 (gif r15.1 true (ld P 3 r16.1 r16.2) r16.2).bind fun r17 =>
 (gif r15.1 true (fa P 32 r2.1 1 r17.2) r17.2).bind fun r18 =>
 (gif r15.1 true (ld P 3 r18.1 r18.2) r18.2).bind fun r19 =>
 (gif r15.1 true (bo P .lss 3 (.tmp 18) (.tmp 20) r17.1 r19.1 r19.2) r19.2).bind fun r20 =>
 (gif r9.1 false (pickV r15.1 r20.1 (.bool false) r20.2) r20.2).bind fun r21 =>
 (pickV r9.1 (.bool true) r21.1 r21.2).bind fun r22 =>
 (vl r22.1 r22.2).bind fun r23 =>
 some (r23.1, r23.2) := by kernel_rfl

/-! slices_Equal_Tag -/
noncomputable def slices_Equal_Tag_l1 (e : Env) (w : World) : Option (Value × World) := exC P (EV P) 105 26 (.loop (cA (cA (cB (cA (cB (cB (bodyOf P 105)))))))) e w (kBlock 0 (kSeq P (EV P) 105 26 (cB (cB (cB (bodyOf P 105)))) (kFn P (fnOf P 105))))
theorem slices_Equal_Tag_l1_eq (e : Env) (w : World) : slices_Equal_Tag_l1 e w =
 (bo P .lss 3 (.tmp 13) (.tmp 12) (e 13) (e 12) w).bind fun r1 =>
 cnd r1.1 (
 (vl (e 13) r1.2).bind fun r2 =>
 (vl r2.1 r2.2).bind fun r3 =>
 (vl (e 0) (dw r3.2)).bind fun r5 =>
 ifP (r5.2 = (dw r3.2)) <|
 (vl r3.1 (dw r3.2)).bind fun r6 =>
 ifP (r6.2 = (dw r3.2)) <|
 (ia P 23 r5.1 r6.1 (dw r3.2)).bind fun r7 =>
 ifP (r7.2 = (dw r3.2)) <|
 (ld P 32 r7.1 (dw r3.2)).bind fun r8 =>
 ifP (r8.2 = (dw r3.2)) <|
 (vl (e 1) (dw r3.2)).bind fun r9 =>
 ifP (r9.2 = (dw r3.2)) <|
 (vl r3.1 (dw r3.2)).bind fun r10 =>
 ifP (r10.2 = (dw r3.2)) <|
 (ia P 23 r9.1 r10.1 (dw r3.2)).bind fun r11 =>
 ifP (r11.2 = (dw r3.2)) <|
 (ld P 32 r11.1 (dw r3.2)).bind fun r12 =>
 ifP (r12.2 = (dw r3.2)) <|
 (bo P .neq 32 (.tmp 19) (.tmp 23) r8.1 r12.1 (dw r3.2)).bind fun r13 =>
 ifP (r13.2 = (dw r3.2)) <|
 cnd r13.1 (
 (vl (.bool false) (dw r3.2)).bind fun r14 =>
 some (r14.1, r14.2)) (
 (bo P .add 3 (.tmp 13) (.const (.int .i64 1)) (e 13) (.int .i64 1) (dw r3.2)).bind fun r15 =>
 (vl r15.1 r15.2).bind fun r16 =>
 slices_Equal_Tag_l1 (ups e [(14, r1.1), (15, r2.1), (5, r3.1), (16, r5.1), (17, r6.1), (18, r7.1), (19, r8.1), (20, r9.1), (21, r10.1), (22, r11.1), (23, r12.1), (24, r13.1), (25, r15.1), (13, r16.1)]) r16.2)) (
 (vl (.bool true) r1.2).bind fun r17 =>
 some (r17.1, r17.2)) := (exC_loop P (EV P) 105 26 (cA (cA (cB (cA (cB (cB (bodyOf P 105))))))) e w (kBlock 0 (kSeq P (EV P) 105 26 (cB (cB (cB (bodyOf P 105)))) (kFn P (fnOf P 105))))).trans (by kernel_rfl)
theorem slices_Equal_Tag_fn (x0 x1 : Value) (w : World) : fnC P (EV P) 105 #[x0, x1] w =
 (vl (.bool false) w).bind fun r1 =>
 (vl x0 r1.2).bind fun r2 =>
 (b_len P #[23] 3 #[r2.1] r2.2).bind fun r3 =>
 (vl x1 r3.2).bind fun r4 =>
 (b_len P #[23] 3 #[r4.1] r4.2).bind fun r5 =>
 (bo P .neq 3 (.tmp 7) (.tmp 9) r3.1 r5.1 r5.2).bind fun r6 =>
 cnd r6.1 (
 (vl (.bool false) r6.2).bind fun r7 =>
 some (r7.1, r7.2)) (
 (vl x0 r6.2).bind fun r8 =>
 (b_len P #[23] 3 #[r8.1] r8.2).bind fun r9 =>
 (vl (.int .i64 0) r9.2).bind fun r10 =>
 slices_Equal_Tag_l1 (ups (env0 #[x0, x1]) [(4, r1.1), (6, r2.1), (7, r3.1), (8, r4.1), (9, r5.1), (10, r6.1), (11, r8.1), (12, r9.1), (13, r10.1)]) r10.2) := by kernel_rfl

/-! slices_IndexFunc_Ver -/
noncomputable def slices_IndexFunc_Ver_l1 (e : Env) (w : World) : Option (Value × World) := exC P (EV P) 106 19 (.loop (cA (cA (cB (cA (cB (bodyOf P 106))))))) e w (kBlock 0 (kSeq P (EV P) 106 19 (cB (cB (bodyOf P 106))) (kFn P (fnOf P 106))))
theorem slices_IndexFunc_Ver_l1_eq (e : Env) (w : World) : slices_IndexFunc_Ver_l1 e w =
 (bo P .lss 3 (.tmp 8) (.tmp 7) (e 8) (e 7) w).bind fun r1 =>
 cnd r1.1 (
 (vl (e 8) r1.2).bind fun r2 =>
 (vl r2.1 r2.2).bind fun r3 =>
 (vl (e 1) r3.2).bind fun r4 =>
 (vl (e 0) r4.2).bind fun r5 =>
 (vl r3.1 r5.2).bind fun r6 =>
 (ia P 47 r5.1 r6.1 r6.2).bind fun r7 =>
 (ld P 56 r7.1 r7.2).bind fun r8 =>
 (clo P r4.1 #[r8.1] r8.2).bind fun r9 =>
 cnd r9.1 (
 (vl r3.1 r9.2).bind fun r10 =>
 (vl r10.1 r10.2).bind fun r11 =>
 some (r11.1, r11.2)) (
 (bo P .add 3 (.tmp 8) (.const (.int .i64 1)) (e 8) (.int .i64 1) r9.2).bind fun r12 =>
 (vl r12.1 r12.2).bind fun r13 =>
 slices_IndexFunc_Ver_l1 (ups e [(9, r1.1), (10, r2.1), (5, r3.1), (11, r4.1), (12, r5.1), (13, r6.1), (14, r7.1), (15, r8.1), (16, r9.1), (18, r12.1), (8, r13.1)]) r13.2)) (
 (vl (.int .i64 (-1)) r1.2).bind fun r14 =>
 some (r14.1, r14.2)) := (exC_loop P (EV P) 106 19 (cA (cA (cB (cA (cB (bodyOf P 106)))))) e w (kBlock 0 (kSeq P (EV P) 106 19 (cB (cB (bodyOf P 106))) (kFn P (fnOf P 106))))).trans (by kernel_rfl)
theorem slices_IndexFunc_Ver_fn (x0 x1 : Value) (w : World) : fnC P (EV P) 106 #[x0, x1] w =
 (vl (.int .i64 0) w).bind fun r1 =>
 (vl x0 r1.2).bind fun r2 =>
 (b_len P #[47] 3 #[r2.1] r2.2).bind fun r3 =>
 (vl (.int .i64 0) r3.2).bind fun r4 =>
 slices_IndexFunc_Ver_l1 (ups (env0 #[x0, x1]) [(4, r1.1), (6, r2.1), (7, r3.1), (8, r4.1)]) r4.2 := by kernel_rfl

/-! laws_markText -/
noncomputable def laws_markText_l1 (e : Env) (w : World) : Option (Value × World) := exC P (EV P) 107 20 (.loop (cA (cA (cA (cB (cB (cB (bodyOf P 107)))))))) e w (kBlock 0 (kSeq P (EV P) 107 20 (cB (cB (cB (cB (bodyOf P 107))))) (kFn P (fnOf P 107))))
theorem laws_markText_l1_eq (e : Env) (w : World) : laws_markText_l1 e w =
 (vl (e 0) w).bind fun r1 =>
 (bo P .gtr 3 (.tmp 6) (.const (.int .i64 0)) r1.1 (.int .i64 0) r1.2).bind fun r2 =>
 cnd r2.1 (
 (vl (e 0) r2.2).bind fun r3 =>
 (bo P .rem 3 (.tmp 8) (.const (.int .i64 10)) r3.1 (.int .i64 10) r3.2).bind fun r4 =>
 (bo P .add 3 (.const (.int .i64 48)) (.tmp 9) (.int .i64 48) r4.1 r4.2).bind fun r5 =>
 (cv P 3 5 r5.1 r5.2).bind fun r6 =>
 (bs P 22 1 #[(0, r6.1)] r6.2).bind fun r7 =>
 (cv P 22 9 r7.1 r7.2).bind fun r8 =>
 (vl (e 3) r8.2).bind fun r9 =>
 (bo P .add 9 (.tmp 13) (.tmp 14) r8.1 r9.1 r9.2).bind fun r10 =>
 (vl r10.1 r10.2).bind fun r11 =>
 (vl (e 0) r11.2).bind fun r12 =>
 (bo P .quo 3 (.tmp 16) (.const (.int .i64 10)) r12.1 (.int .i64 10) r12.2).bind fun r13 =>
 (vl r13.1 r13.2).bind fun r14 =>
 laws_markText_l1 (ups e [(6, r1.1), (7, r2.1), (8, r3.1), (9, r4.1), (10, r5.1), (11, r6.1), (12, r7.1), (13, r8.1), (14, r9.1), (15, r10.1), (3, r11.1), (16, r12.1), (17, r13.1), (0, r14.1)]) r14.2) (
 (vl (e 3) r2.2).bind fun r15 =>
 (bo P .add 9 (.const (Go.Value.string { data := #[109] })) (.tmp 18) (Go.Value.string { data := #[109] }) r15.1 r15.2).bind fun r16 =>
 (vl r16.1 r16.2).bind fun r17 =>
 some (r17.1, r17.2)) := (exC_loop P (EV P) 107 20 (cA (cA (cA (cB (cB (cB (bodyOf P 107))))))) e w (kBlock 0 (kSeq P (EV P) 107 20 (cB (cB (cB (cB (bodyOf P 107))))) (kFn P (fnOf P 107))))).trans (by kernel_rfl)
theorem laws_markText_fn (x0 : Value) (w : World) : fnC P (EV P) 107 #[x0] w =
 (vl (Go.Value.string { data := #[] }) w).bind fun r1 =>
 (vl x0 r1.2).bind fun r2 =>
 (bo P .leq 3 (.tmp 4) (.const (.int .i64 0)) r2.1 (.int .i64 0) r2.2).bind fun r3 =>
 cnd r3.1 (
 (vl (Go.Value.string { data := #[109, 48] }) r3.2).bind fun r4 =>
 some (r4.1, r4.2)) (
 (vl (Go.Value.string { data := #[] }) r3.2).bind fun r5 =>
 laws_markText_l1 (ups (env0 #[x0]) [(2, r1.1), (4, r2.1), (5, r3.1), (3, r5.1)]) r5.2) := by kernel_rfl

/-! spec_l20Store -/
noncomputable def spec_l20Store_l1 (e : Env) (w : World) : Option (Value × World) := exC P (EV P) 108 17 (.loop (cA (cA (cB (cA (cB (cB (bodyOf P 108)))))))) e w (kBlock 0 (kSeq P (EV P) 108 17 (cB (cB (cB (bodyOf P 108)))) (kFn P (fnOf P 108))))
theorem spec_l20Store_l1_eq (e : Env) (w : World) : spec_l20Store_l1 e w =
 (vl (e 4) w).bind fun r1 =>
 (bo P .gtr 3 (.tmp 8) (.const (.int .i64 0)) r1.1 (.int .i64 0) r1.2).bind fun r2 =>
 cnd r2.1 (
 (ld P 49 (e 3) (dw r2.2)).bind fun r4 =>
 ifP (r4.2 = (dw r2.2)) <|
 (vl (e 0) (dw r2.2)).bind fun r5 =>
 ifP (r5.2 = (dw r2.2)) <|
 (EV P 109 #[r5.1] (dw r2.2)).bind fun r6 =>
 ifP (ld P 49 (e 3) r6.2 = some (r4.1, r6.2) ∧ True) <|
 (EV P 87 #[r4.1, r6.1] r6.2).bind fun r7 =>
 ifP (True ∧ True) <|
 (st P 49 (e 3) r7.1 r7.2).bind fun r8 =>
 ifP (True ∧ True) <|
 (vl (e 4) r8.2).bind fun r9 =>
 (bo P .sub 3 (.tmp 10) (.const (.int .i64 1)) r9.1 (.int .i64 1) r9.2).bind fun r10 =>
 (vl r10.1 r10.2).bind fun r11 =>
 spec_l20Store_l1 (ups e [(8, r1.1), (9, r2.1), (12, r4.1), (13, r5.1), (14, r6.1), (15, r7.1), (10, r9.1), (11, r10.1), (4, r11.1)]) r11.2) (
 (ld P 49 (e 3) r2.2).bind fun r12 =>
 (st P 49 (e 2) r12.1 r12.2).bind fun r13 =>
 ((ld P 49 (e 2) r13.2).bind fun r14 => ifP (r14.2 = r13.2) (some r14.1)).bind fun v15 =>
 some (v15, r13.2)) := (exC_loop P (EV P) 108 17 (cA (cA (cB (cA (cB (cB (bodyOf P 108))))))) e w (kBlock 0 (kSeq P (EV P) 108 17 (cB (cB (cB (bodyOf P 108)))) (kFn P (fnOf P 108))))).trans (by kernel_rfl)
theorem spec_l20Store_fn (x0 : Value) (w : World) : fnC P (EV P) 108 #[x0] w =
 (al P 49 w).bind fun r1 =>
 (EV P 121 #[] r1.2).bind fun r2 =>
 (al P 49 r2.2).bind fun r3 =>
 (st P 49 r3.1 r2.1 r3.2).bind fun r4 =>
 (vl x0 r4.2).bind fun r5 =>
 (EV P 62 #[r5.1, (.int .i64 7)] r5.2).bind fun r6 =>
 (vl r6.1 r6.2).bind fun r7 =>
 spec_l20Store_l1 (ups (env0 #[x0]) [(2, r1.1), (5, r2.1), (3, r3.1), (6, r5.1), (7, r6.1), (4, r7.1)]) r7.2 := by kernel_rfl

/-! spec_l20Ver -/
noncomputable def spec_l20Ver_l1 (e : Env) (w : World) : Option (Value × World) := exC P (EV P) 109 54 (.loop (cA (cA (cB (cA (cB (cB (cB (bodyOf P 109))))))))) e w (kBlock 0 (kSeq P (EV P) 109 54 (cB (cB (cB (cB (bodyOf P 109))))) (kFn P (fnOf P 109))))
noncomputable def spec_l20Ver_j1 (e : Env) (w : World) : Option (Value × World) := exC P (EV P) 109 54 (cB (cB (cA (cA (cB (cA (cB (cB (cB (bodyOf P 109)))))))))) e w (kLoop P (EV P) 109 54 (cA (cA (cB (cA (cB (cB (cB (bodyOf P 109)))))))) (kBlock 0 (kSeq P (EV P) 109 54 (cB (cB (cB (cB (bodyOf P 109))))) (kFn P (fnOf P 109)))))
noncomputable def spec_l20Ver_j2 (e : Env) (w : World) : Option (Value × World) := exC P (EV P) 109 54 (cB (cB (cB (cB (cB (cB (bodyOf P 109))))))) e w (kFn P (fnOf P 109))
theorem spec_l20Ver_l1_eq (e : Env) (w : World) : spec_l20Ver_l1 e w =
 (vl (e 5) w).bind fun r1 =>
 (bo P .lss 3 (.tmp 12) (.const (.int .i64 4)) r1.1 (.int .i64 4) r1.2).bind fun r2 =>
 cnd r2.1 (
 (fa P 56 (e 3) 2 (dw r2.2)).bind fun r4 =>
 ifP (r4.2 = (dw r2.2)) <|
 (fa P 25 r4.1 0 (dw r2.2)).bind fun r5 =>
 ifP (r5.2 = (dw r2.2)) <|
 (ld P 23 r5.1 (dw r2.2)).bind fun r6 =>
 ifP (r6.2 = (dw r2.2)) <|
 (vl (e 5) (dw r2.2)).bind fun r7 =>
 ifP (r7.2 = (dw r2.2)) <|
 (vl (e 0) (dw r2.2)).bind fun r8 =>
 ifP (r8.2 = (dw r2.2)) <|
 (EV P 96 #[r8.1] (dw r2.2)).bind fun r9 =>
 ifP (ld P 23 r5.1 r9.2 = some (r6.1, r9.2) ∧ fa P 25 r4.1 0 r9.2 = some (r5.1, r9.2) ∧ fa P 56 (e 3) 2 r9.2 = some (r4.1, r9.2) ∧ True) <|
 (ia P 23 r6.1 r7.1 r9.2).bind fun r10 =>
 ifP (r10.2 = r9.2) <|
 (st P 32 r10.1 r9.1 r9.2).bind fun r11 =>
 ifP (True ∧ True ∧ True ∧ True ∧ True) <|
 (fa P 56 (e 3) 2 r11.2).bind fun r12 =>
 (fa P 25 r12.1 0 r12.2).bind fun r13 =>
 (ld P 23 r13.1 r13.2).bind fun r14 =>
 (vl (e 5) r14.2).bind fun r15 =>
 (ia P 23 r14.1 r15.1 r15.2).bind fun r16 =>
 (fa P 32 r16.1 0 r16.2).bind fun r17 =>
 (ld P 3 r17.1 r17.2).bind fun r18 =>
 (vl (e 4) r18.2).bind fun r19 =>
 (bo P .gtr 3 (.tmp 29) (.tmp 30) r18.1 r19.1 r19.2).bind fun r20 =>
 cnd r20.1 (
 (fa P 56 (e 3) 2 r20.2).bind fun r21 =>
 (fa P 25 r21.1 0 r21.2).bind fun r22 =>
 (ld P 23 r22.1 r22.2).bind fun r23 =>
 (vl (e 5) r23.2).bind fun r24 =>
 (ia P 23 r23.1 r24.1 r24.2).bind fun r25 =>
 (fa P 32 r25.1 0 r25.2).bind fun r26 =>
 (ld P 3 r26.1 r26.2).bind fun r27 =>
 (vl r27.1 r27.2).bind fun r28 =>
 spec_l20Ver_j1 (ups e [(12, r1.1), (13, r2.1), (16, r4.1), (17, r5.1), (18, r6.1), (19, r7.1), (20, r8.1), (21, r9.1), (22, r10.1), (23, r12.1), (24, r13.1), (25, r14.1), (26, r15.1), (27, r16.1), (28, r17.1), (29, r18.1), (30, r19.1), (31, r20.1), (32, r21.1), (33, r22.1), (34, r23.1), (35, r24.1), (36, r25.1), (37, r26.1), (38, r27.1), (4, r28.1)]) r28.2) (
 spec_l20Ver_j1 (ups e [(12, r1.1), (13, r2.1), (16, r4.1), (17, r5.1), (18, r6.1), (19, r7.1), (20, r8.1), (21, r9.1), (22, r10.1), (23, r12.1), (24, r13.1), (25, r14.1), (26, r15.1), (27, r16.1), (28, r17.1), (29, r18.1), (30, r19.1), (31, r20.1)]) r20.2)) (
 (vl (e 4) r2.2).bind fun r29 =>
 (bo P .add 3 (.tmp 39) (.const (.int .i64 1)) r29.1 (.int .i64 1) r29.2).bind fun r30 =>
 (vl (e 0) r30.2).bind fun r31 =>
 (EV P 62 #[r31.1, (.int .i64 3)] r31.2).bind fun r32 =>
 (bo P .add 3 (.tmp 40) (.tmp 42) r30.1 r32.1 r32.2).bind fun r33 =>
 (vl (e 0) r33.2).bind fun r34 =>
 (EV P 62 #[r34.1, (.int .i64 3)] r34.2).bind fun r35 =>
 (bd P 32 #[(0, r33.1), (1, r35.1)] r35.2).bind fun r36 =>
 (fa P 56 (e 3) 1 r36.2).bind fun r37 =>
 (st P 32 r37.1 r36.1 r37.2).bind fun r38 =>
 (vl (e 0) r38.2).bind fun r39 =>
 (EV P 62 #[r39.1, (.int .i64 6)] r39.2).bind fun r40 =>
 (bo P .eql 3 (.tmp 49) (.const (.int .i64 0)) r40.1 (.int .i64 0) r40.2).bind fun r41 =>
 cnd r41.1 (
 (fa P 56 (e 3) 3 r41.2).bind fun r42 =>
 (st P 9 r42.1 (Go.Value.string { data := #[] }) r42.2).bind fun r43 =>
 (fa P 56 (e 3) 4 r43.2).bind fun r44 =>
 (st P 4 r44.1 (.bool true) r44.2).bind fun r45 =>
 spec_l20Ver_j2 (ups e [(12, r1.1), (13, r2.1), (39, r29.1), (40, r30.1), (41, r31.1), (42, r32.1), (43, r33.1), (44, r34.1), (45, r35.1), (46, r36.1), (47, r37.1), (48, r39.1), (49, r40.1), (50, r41.1), (51, r42.1), (52, r44.1)]) r45.2) (
 spec_l20Ver_j2 (ups e [(12, r1.1), (13, r2.1), (39, r29.1), (40, r30.1), (41, r31.1), (42, r32.1), (43, r33.1), (44, r34.1), (45, r35.1), (46, r36.1), (47, r37.1), (48, r39.1), (49, r40.1), (50, r41.1)]) r41.2)) := (exC_loop P (EV P) 109 54 (cA (cA (cB (cA (cB (cB (cB (bodyOf P 109)))))))) e w (kBlock 0 (kSeq P (EV P) 109 54 (cB (cB (cB (cB (bodyOf P 109))))) (kFn P (fnOf P 109))))).trans (by kernel_rfl)
theorem spec_l20Ver_j1_eq (e : Env) (w : World) : spec_l20Ver_j1 e w =
 (vl (e 5) w).bind fun r1 =>
 (bo P .add 3 (.tmp 14) (.const (.int .i64 1)) r1.1 (.int .i64 1) r1.2).bind fun r2 =>
 (vl r2.1 r2.2).bind fun r3 =>
 spec_l20Ver_l1 (ups e [(14, r1.1), (15, r2.1), (5, r3.1)]) r3.2 := by kernel_rfl
theorem spec_l20Ver_j2_eq (e : Env) (w : World) : spec_l20Ver_j2 e w =
 (ld P 56 (e 3) w).bind fun r1 =>
 (st P 56 (e 2) r1.1 r1.2).bind fun r2 =>
 ((ld P 56 (e 2) r2.2).bind fun r3 => ifP (r3.2 = r2.2) (some r3.1)).bind fun v4 =>
 some (v4, r2.2) := by kernel_rfl
theorem spec_l20Ver_fn (x0 : Value) (w : World) : fnC P (EV P) 109 #[x0] w =
 (al P 56 w).bind fun r1 =>
 (vl x0 r1.2).bind fun r2 =>
 (EV P 62 #[r2.1, (.int .i64 4)] r2.2).bind fun r3 =>
 (EV P 95 #[] r3.2).bind fun r4 =>
 (vl x0 r4.2).bind fun r5 =>
 (EV P 122 #[r5.1] r5.2).bind fun r6 =>
 (bd P 56 #[(0, r3.1), (2, r4.1), (3, r6.1)] r6.2).bind fun r7 =>
 (al P 56 r7.2).bind fun r8 =>
 (st P 56 r8.1 r7.1 r8.2).bind fun r9 =>
 (vl (.int .i64 0) r9.2).bind fun r10 =>
 (vl (.int .i64 0) r10.2).bind fun r11 =>
 spec_l20Ver_l1 (ups (env0 #[x0]) [(2, r1.1), (6, r2.1), (7, r3.1), (8, r4.1), (9, r5.1), (10, r6.1), (11, r7.1), (3, r8.1), (4, r10.1), (5, r11.1)]) r11.2 := by kernel_rfl

/-! spec_l20Rd_one -/
theorem spec_l20Rd_one_fn (x0 x1 : Value) (w : World) : fnC P (EV P) 110 #[x0, x1] w =
 (vl (.int .i64 0) w).bind fun r1 =>
 (vl x1 r1.2).bind fun r2 =>
 (vl x0 r2.2).bind fun r3 =>
 (vl x1 r3.2).bind fun r4 =>
 (b_len P #[109] 3 #[r4.1] r4.2).bind fun r5 =>
 (EV P 62 #[r3.1, r5.1] r5.2).bind fun r6 =>
 (ia P 109 r2.1 r6.1 r6.2).bind fun r7 =>
 (ld P 3 r7.1 r7.2).bind fun r8 =>
 (vl r8.1 r8.2).bind fun r9 =>
 some (r9.1, r9.2) := by kernel_rfl

/-! spec_l20Rd_of -/
theorem spec_l20Rd_of_fn (x0 x1 : Value) (w : World) : fnC P (EV P) 111 #[x0, x1] w =
 (vl (Go.Value.string { data := #[] }) w).bind fun r1 =>
 (vl x1 r1.2).bind fun r2 =>
 (vl x0 r2.2).bind fun r3 =>
 (vl x1 r3.2).bind fun r4 =>
 (b_len P #[111] 3 #[r4.1] r4.2).bind fun r5 =>
 (EV P 62 #[r3.1, r5.1] r5.2).bind fun r6 =>
 (ia P 111 r2.1 r6.1 r6.2).bind fun r7 =>
 (ld P 9 r7.1 r7.2).bind fun r8 =>
 (vl r8.1 r8.2).bind fun r9 =>
 some (r9.1, r9.2) := by kernel_rfl

/-! impl_versCopied -/
noncomputable def impl_versCopied_l1 (e : Env) (w : World) : Option (Value × World) := exC P (EV P) 112 22 (.loop (cA (cA (cB (cA (cB (cB (bodyOf P 112)))))))) e w (kBlock 0 (kSeq P (EV P) 112 22 (cB (cB (cB (bodyOf P 112)))) (kFn P (fnOf P 112))))
theorem impl_versCopied_l1_eq (e : Env) (w : World) : impl_versCopied_l1 e w =
 (bo P .lss 3 (.tmp 11) (.tmp 10) (e 11) (e 10) w).bind fun r1 =>
 cnd r1.1 (
 (ia P 47 (e 9) (e 11) r1.2).bind fun r2 =>
 (ld P 56 r2.1 r2.2).bind fun r3 =>
 (al P 56 r3.2).bind fun r4 =>
 (st P 56 r4.1 r3.1 r4.2).bind fun r5 =>
 (vl (e 3) r5.2).bind fun r6 =>
 (ld P 56 r4.1 r6.2).bind fun r7 =>
 (EV P 84 #[r7.1] r7.2).bind fun r8 =>
 (bs P 47 1 #[(0, r8.1)] r8.2).bind fun r9 =>
 (b_append P #[47, 47] 47 #[r6.1, r9.1] r9.2).bind fun r10 =>
 (vl r10.1 r10.2).bind fun r11 =>
 (bo P .add 3 (.tmp 11) (.const (.int .i64 1)) (e 11) (.int .i64 1) r11.2).bind fun r12 =>
 (vl r12.1 r12.2).bind fun r13 =>
 impl_versCopied_l1 (ups e [(12, r1.1), (13, r2.1), (14, r3.1), (5, r4.1), (15, r6.1), (16, r7.1), (17, r8.1), (18, r9.1), (19, r10.1), (3, r11.1), (20, r12.1), (11, r13.1)]) r13.2) (
 (vl (e 3) r1.2).bind fun r14 =>
 (vl r14.1 r14.2).bind fun r15 =>
 some (r15.1, r15.2)) := (exC_loop P (EV P) 112 22 (cA (cA (cB (cA (cB (cB (bodyOf P 112))))))) e w (kBlock 0 (kSeq P (EV P) 112 22 (cB (cB (cB (bodyOf P 112)))) (kFn P (fnOf P 112))))).trans (by kernel_rfl)
theorem impl_versCopied_fn (x0 : Value) (w : World) : fnC P (EV P) 112 #[x0] w =
 (vl (Go.Value.slice none 0 0) w).bind fun r1 =>
 (vl x0 r1.2).bind fun r2 =>
 (b_len P #[47] 3 #[r2.1] r2.2).bind fun r3 =>
 (ms P 47 (.int .i64 0) r3.1 r3.2).bind fun r4 =>
 (vl r4.1 r4.2).bind fun r5 =>
 (vl x0 r5.2).bind fun r6 =>
 (b_len P #[47] 3 #[r6.1] r6.2).bind fun r7 =>
 (vl (.int .i64 0) r7.2).bind fun r8 =>
 impl_versCopied_l1 (ups (env0 #[x0]) [(2, r1.1), (6, r2.1), (7, r3.1), (8, r4.1), (3, r5.1), (9, r6.1), (10, r7.1), (11, r8.1)]) r8.2 := by kernel_rfl

/-! spec_l1In -/
theorem spec_l1In_fn (x0 x1 x2 : Value) (w : World) : fnC P (EV P) 113 #[x0, x1, x2] w =
 (vl (.bool false) w).bind fun r1 =>
 (vl x0 r1.2).bind fun r2 =>
 (vl x1 r2.2).bind fun r3 =>
 (bo P .geq 3 (.tmp 7) (.tmp 8) r2.1 r3.1 r3.2).bind fun r4 =>
 (vl r4.1 r4.2).bind fun r5 =>
 (gif r5.1 true (vl x0 r5.2) r5.2).bind fun r6 =>
 (gif r5.1 true (vl x2 r6.2) r6.2).bind fun r7 =>
 (gif r5.1 true (bo P .leq 3 (.tmp 11) (.tmp 12) r6.1 r7.1 r7.2) r7.2).bind fun r8 =>
 (pickV r5.1 r8.1 (.bool false) r8.2).bind fun r9 =>
 (vl r9.1 r9.2).bind fun r10 =>
 some (r10.1, r10.2) := by kernel_rfl

/-! spec_l2TextOk -/
noncomputable def spec_l2TextOk_l1 (e : Env) (w : World) : Option (Value × World) := exC P (EV P) 114 23 (.loop (cA (cA (cB (cA (cB (bodyOf P 114))))))) e w (kBlock 0 (kSeq P (EV P) 114 23 (cB (cB (bodyOf P 114))) (kFn P (fnOf P 114))))
theorem spec_l2TextOk_l1_eq (e : Env) (w : World) : spec_l2TextOk_l1 e w =
 (vl (e 3) w).bind fun r1 =>
 (vl (e 0) r1.2).bind fun r2 =>
 (b_len P #[9] 3 #[r2.1] r2.2).bind fun r3 =>
 (bo P .lss 3 (.tmp 4) (.tmp 6) r1.1 r3.1 r3.2).bind fun r4 =>
 cnd r4.1 (
 (vl (e 0) r4.2).bind fun r5 =>
 (vl (e 3) r5.2).bind fun r6 =>
 (ix P 9 r5.1 r6.1 r6.2).bind fun r7 =>
 (bo P .lss 5 (.tmp 12) (.const (.int .u8 33)) r7.1 (.int .u8 33) r7.2).bind fun r8 =>
 (vl r8.1 r8.2).bind fun r9 =>
 (gif r9.1 false (vl (e 0) r9.2) r9.2).bind fun r10 =>
 (gif r9.1 false (vl (e 3) r10.2) r10.2).bind fun r11 =>
 (gif r9.1 false (ix P 9 r10.1 r11.1 r11.2) r11.2).bind fun r12 =>
 (gif r9.1 false (bo P .gtr 5 (.tmp 17) (.const (.int .u8 126)) r12.1 (.int .u8 126) r12.2) r12.2).bind fun r13 =>
 (pickV r9.1 (.bool true) r13.1 r13.2).bind fun r14 =>
 cnd r14.1 (
 (vl (.bool false) r14.2).bind fun r15 =>
 some (r15.1, r15.2)) (
 (vl (e 3) r14.2).bind fun r16 =>
 (bo P .add 3 (.tmp 8) (.const (.int .i64 1)) r16.1 (.int .i64 1) r16.2).bind fun r17 =>
 (vl r17.1 r17.2).bind fun r18 =>
 spec_l2TextOk_l1 (ups e [(4, r1.1), (5, r2.1), (6, r3.1), (7, r4.1), (10, r5.1), (11, r6.1), (12, r7.1), (13, r8.1), (14, r9.1), (15, r10.1), (16, r11.1), (17, r12.1), (18, r13.1), (19, r14.1), (8, r16.1), (9, r17.1), (3, r18.1)]) r18.2)) (
 (vl (e 0) r4.2).bind fun r19 =>
 (b_len P #[9] 3 #[r19.1] r19.2).bind fun r20 =>
 (bo P .leq 3 (.tmp 21) (.const (.int .i64 8)) r20.1 (.int .i64 8) r20.2).bind fun r21 =>
 (vl r21.1 r21.2).bind fun r22 =>
 some (r22.1, r22.2)) := (exC_loop P (EV P) 114 23 (cA (cA (cB (cA (cB (bodyOf P 114)))))) e w (kBlock 0 (kSeq P (EV P) 114 23 (cB (cB (bodyOf P 114))) (kFn P (fnOf P 114))))).trans (by kernel_rfl)
theorem spec_l2TextOk_fn (x0 : Value) (w : World) : fnC P (EV P) 114 #[x0] w =
 (vl (.bool false) w).bind fun r1 =>
 (vl (.int .i64 0) r1.2).bind fun r2 =>
 spec_l2TextOk_l1 (ups (env0 #[x0]) [(2, r1.1), (3, r2.1)]) r2.2 := by kernel_rfl

/-! spec_l2Copy -/
theorem spec_l2Copy_fn (x0 : Value) (w : World) : fnC P (EV P) 115 #[x0] w =
 (bx P 56 x0 w).bind fun r1 =>
 (al P 56 r1.2).bind fun r2 =>
 (bs P 23 0 #[] r2.2).bind fun r3 =>
 (fa P 56 r1.1 2 r3.2).bind fun r4 =>
 (fa P 25 r4.1 0 r4.2).bind fun r5 =>
 (ld P 23 r5.1 r5.2).bind fun r6 =>
 (b_append P #[23, 23] 23 #[r3.1, r6.1] r6.2).bind fun r7 =>
 (bd P 25 #[(0, r7.1)] r7.2).bind fun r8 =>
 (fa P 56 r1.1 2 r8.2).bind fun r9 =>
 (st P 25 r9.1 r8.1 r9.2).bind fun r10 =>
 (ld P 56 r1.1 r10.2).bind fun r11 =>
 (st P 56 r2.1 r11.1 r11.2).bind fun r12 =>
 ((ld P 56 r2.1 r12.2).bind fun r13 => ifP (r13.2 = r12.2) (some r13.1)).bind fun v14 =>
 some (v14, r12.2) := by kernel_rfl

/-! impl_keyOk -/
theorem impl_keyOk_fn (x0 : Value) (w : World) : fnC P (EV P) 116 #[x0] w =
 (vl (.bool false) w).bind fun r1 =>
 (vl x0 r1.2).bind fun r2 =>
 (EV P 102 #[r2.1, (.int .i64 0), (.int .i64 3)] r2.2).bind fun r3 =>
 (vl r3.1 r3.2).bind fun r4 =>
 some (r4.1, r4.2) := by kernel_rfl

/-! impl_textOk -/
noncomputable def impl_textOk_l1 (e : Env) (w : World) : Option (Value × World) := exC P (EV P) 117 19 (.loop (cA (cA (cB (cA (cB (bodyOf P 117))))))) e w (kBlock 0 (kSeq P (EV P) 117 19 (cB (cB (bodyOf P 117))) (kFn P (fnOf P 117))))
theorem impl_textOk_l1_eq (e : Env) (w : World) : impl_textOk_l1 e w =
 (bo P .lss 3 (.tmp 6) (.tmp 5) (e 6) (e 5) w).bind fun r1 =>
 cnd r1.1 (
 (vl (e 6) r1.2).bind fun r2 =>
 (vl r2.1 r2.2).bind fun r3 =>
 (vl (e 0) r3.2).bind fun r4 =>
 (vl r3.1 r4.2).bind fun r5 =>
 (ix P 9 r4.1 r5.1 r5.2).bind fun r6 =>
 (cv P 5 3 r6.1 r6.2).bind fun r7 =>
 (EV P 102 #[r7.1, (.int .i64 33), (.int .i64 126)] r7.2).bind fun r8 =>
 (uo P .not r8.1 r8.2).bind fun r9 =>
 cnd r9.1 (
 (vl (.bool false) r9.2).bind fun r10 =>
 some (r10.1, r10.2)) (
 (bo P .add 3 (.tmp 6) (.const (.int .i64 1)) (e 6) (.int .i64 1) r9.2).bind fun r11 =>
 (vl r11.1 r11.2).bind fun r12 =>
 impl_textOk_l1 (ups e [(7, r1.1), (8, r2.1), (3, r3.1), (9, r4.1), (10, r5.1), (11, r6.1), (12, r7.1), (13, r8.1), (14, r9.1), (15, r11.1), (6, r12.1)]) r12.2)) (
 (vl (e 0) r1.2).bind fun r13 =>
 (b_len P #[9] 3 #[r13.1] r13.2).bind fun r14 =>
 (bo P .leq 3 (.tmp 17) (.const (.int .i64 8)) r14.1 (.int .i64 8) r14.2).bind fun r15 =>
 (vl r15.1 r15.2).bind fun r16 =>
 some (r16.1, r16.2)) := (exC_loop P (EV P) 117 19 (cA (cA (cB (cA (cB (bodyOf P 117)))))) e w (kBlock 0 (kSeq P (EV P) 117 19 (cB (cB (bodyOf P 117))) (kFn P (fnOf P 117))))).trans (by kernel_rfl)
theorem impl_textOk_fn (x0 : Value) (w : World) : fnC P (EV P) 117 #[x0] w =
 (vl (.bool false) w).bind fun r1 =>
 (vl x0 r1.2).bind fun r2 =>
 (b_len P #[9] 3 #[r2.1] r2.2).bind fun r3 =>
 (vl (.int .i64 0) r3.2).bind fun r4 =>
 impl_textOk_l1 (ups (env0 #[x0]) [(2, r1.1), (4, r2.1), (5, r3.1), (6, r4.1)]) r4.2 := by kernel_rfl

/-! impl_Tag_compare -/
theorem impl_Tag_compare_fn (x0 x1 : Value) (w : World) : fnC P (EV P) 118 #[x0, x1] w =
 (bx P 32 x0 w).bind fun r1 =>
 (bx P 32 x1 r1.2).bind fun r2 =>
 (vl (.int .i64 0) r2.2).bind fun r3 =>
 (fa P 32 r1.1 0 (dw r3.2)).bind fun r5 =>
 ifP (r5.2 = (dw r3.2)) <|
 (ld P 3 r5.1 (dw r3.2)).bind fun r6 =>
 ifP (r6.2 = (dw r3.2)) <|
 (fa P 32 r2.1 0 (dw r3.2)).bind fun r7 =>
 ifP (r7.2 = (dw r3.2)) <|
 (ld P 3 r7.1 (dw r3.2)).bind fun r8 =>
 ifP (r8.2 = (dw r3.2)) <|
 (fa P 32 r1.1 1 (dw r3.2)).bind fun r9 =>
 ifP (r9.2 = (dw r3.2)) <|
 (ld P 3 r9.1 (dw r3.2)).bind fun r10 =>
 ifP (r10.2 = (dw r3.2)) <|
 (fa P 32 r2.1 1 (dw r3.2)).bind fun r11 =>
 ifP (r11.2 = (dw r3.2)) <|
 (ld P 3 r11.1 (dw r3.2)).bind fun r12 =>
 ifP (r12.2 = (dw r3.2)) <|
 (EV P 124 #[r6.1, r8.1] (dw r3.2)).bind fun r13 =>
 ifP (ld P 3 r11.1 r13.2 = some (r12.1, r13.2) ∧ fa P 32 r2.1 1 r13.2 = some (r11.1, r13.2) ∧ ld P 3 r9.1 r13.2 = some (r10.1, r13.2) ∧ fa P 32 r1.1 1 r13.2 = some (r9.1, r13.2) ∧ True ∧ True ∧ True ∧ True ∧ True) <|
 (EV P 124 #[r10.1, r12.1] r13.2).bind fun r14 =>
 ifP (True ∧ True ∧ True ∧ True ∧ True ∧ True ∧ True ∧ True ∧ True) <|
 (bs P 109 2 #[(0, r13.1), (1, r14.1)] r14.2).bind fun r15 =>
 ifP (True ∧ True ∧ True ∧ True ∧ True ∧ True ∧ True ∧ True ∧ True) <|
 (EV P 123 #[r15.1] r15.2).bind fun r16 =>
 ifP (True ∧ True ∧ True ∧ True ∧ True ∧ True ∧ True ∧ True ∧ True) <|
 (vl r16.1 r16.2).bind fun r17 =>
 ifP (r17.2 = r16.2) <|
 some (r17.1, r16.2) := by kernel_rfl


end Go.Proofs.Ytjpacbedcocohaa.X
