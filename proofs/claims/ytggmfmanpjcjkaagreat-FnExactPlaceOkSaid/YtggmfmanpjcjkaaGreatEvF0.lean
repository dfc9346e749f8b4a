/- A part of the proof: an evaluator of the model, its laws, and contracts of functions; no condition. -/
import Derived.Test.YtggmfmanpjcjkaaGreatEvT
set_option linter.unusedVariables false
set_option maxRecDepth 100000
namespace Go.Proofs.YtggmfmanpjcjkaaGreat.X
open Go Go.Ev
theorem laws_FnExactPlaceOk_fn (x0 : Value) (w : World) : fnC P (EV P) 4 #[x0] w =
 (bx P 41 x0 w).bind fun r1 =>
 (vl (.bool false) r1.2).bind fun r2 =>
 (vl (.int .i64 1048576) r2.2).bind fun r3 =>
 (ld P 41 r1.1 r3.2).bind fun r4 =>
 (vl r3.1 r4.2).bind fun r5 =>
 (EV P 12 #[r4.1, r5.1] r5.2).bind fun r6 =>
 (vl r6.1 r6.2).bind fun r7 =>
 (vl r7.1 r7.2).bind fun r8 =>
 (bo P .lss 3 (.tmp 10) (.const (.int .i64 0)) r8.1 (.int .i64 0) r8.2).bind fun r9 =>
 cnd r9.1 (
 (vl (.bool true) r9.2).bind fun r10 =>
 some (r10.1, r10.2)) (
 (ld P 41 r1.1 r9.2).bind fun r11 =>
 (EV P 14 #[r11.1] r11.2).bind fun r12 =>
 (EV P 13 #[r12.1] r12.2).bind fun r13 =>
 (vl r13.1 r13.2).bind fun r14 =>
 (ld P 41 r1.1 r14.2).bind fun r15 =>
 (EV P 14 #[r15.1] r15.2).bind fun r16 =>
 (al P 50 r16.2).bind fun r17 =>
 (st P 50 r17.1 r16.1 r17.2).bind fun r18 =>
 (ld P 50 r17.1 r18.2).bind fun r19 =>
 (EV P 15 #[r19.1] r19.2).bind fun r20 =>
 (vl r20.1 r20.2).bind fun r21 =>
 (vl r21.1 r21.2).bind fun r22 =>
 (vl r14.1 r22.2).bind fun r23 =>
 (bo P .neq 4 (.tmp 19) (.tmp 20) r22.1 r23.1 r23.2).bind fun r24 =>
 cnd r24.1 (
 (vl (.bool false) r24.2).bind fun r25 =>
 some (r25.1, r25.2)) (
 (ld P 50 r17.1 (dw r24.2)).bind fun r27 =>
 ifP (r27.2 = (dw r24.2)) <|
 (ld P 41 r1.1 (dw r24.2)).bind fun r28 =>
 ifP (r28.2 = (dw r24.2)) <|
 (EV P 14 #[r28.1] (dw r24.2)).bind fun r29 =>
 ifP (True ∧ ld P 50 r17.1 r29.2 = some (r27.1, r29.2) ∧ True) <|
 (EV P 16 #[r27.1, r29.1] r29.2).bind fun r30 =>
 ifP (True ∧ True ∧ True) <|
 (uo P .not r30.1 r30.2).bind fun r31 =>
 ifP (r31.2 = r30.2) <|
 cnd r31.1 (
 (vl (.bool false) r30.2).bind fun r32 =>
 some (r32.1, r32.2)) (
 (vl (.bool true) r30.2).bind fun r33 =>
 some (r33.1, r33.2)))) := by kernel_rfl
theorem laws_szPlace_fn (x0 x1 : Value) (w : World) : fnC P (EV P) 12 #[x0, x1] w =
 (bx P 41 x0 w).bind fun r1 =>
 (vl (.int .i64 0) r1.2).bind fun r2 =>
 (fa P 41 r1.1 2 r2.2).bind fun r3 =>
 (ld P 37 r3.1 r3.2).bind fun r4 =>
 (vl x1 r4.2).bind fun r5 =>
 (EV P 37 #[r4.1, r5.1] r5.2).bind fun r6 =>
 (vl r6.1 r6.2).bind fun r7 =>
 (vl r7.1 r7.2).bind fun r8 =>
 (bo P .lss 3 (.tmp 9) (.const (.int .i64 0)) r8.1 (.int .i64 0) r8.2).bind fun r9 =>
 cnd r9.1 (
 (vl (.int .i64 (-1)) r9.2).bind fun r10 =>
 some (r10.1, r10.2)) (
 (fa P 41 r1.1 3 r9.2).bind fun r11 =>
 (ld P 38 r11.1 r11.2).bind fun r12 =>
 (vl r7.1 r12.2).bind fun r13 =>
 (EV P 38 #[r12.1, r13.1] r13.2).bind fun r14 =>
 (vl r14.1 r14.2).bind fun r15 =>
 (vl r15.1 r15.2).bind fun r16 =>
 (bo P .lss 3 (.tmp 15) (.const (.int .i64 0)) r16.1 (.int .i64 0) r16.2).bind fun r17 =>
 cnd r17.1 (
 (vl (.int .i64 (-1)) r17.2).bind fun r18 =>
 some (r18.1, r18.2)) (
 (fa P 41 r1.1 4 r17.2).bind fun r19 =>
 (ld P 39 r19.1 r19.2).bind fun r20 =>
 (vl r15.1 r20.2).bind fun r21 =>
 (EV P 39 #[r20.1, r21.1] r21.2).bind fun r22 =>
 (vl r22.1 r22.2).bind fun r23 =>
 (vl r23.1 r23.2).bind fun r24 =>
 (bo P .lss 3 (.tmp 21) (.const (.int .i64 0)) r24.1 (.int .i64 0) r24.2).bind fun r25 =>
 cnd r25.1 (
 (vl (.int .i64 (-1)) r25.2).bind fun r26 =>
 some (r26.1, r26.2)) (
 (vl r23.1 r25.2).bind fun r27 =>
 (vl r27.1 r27.2).bind fun r28 =>
 some (r28.1, r28.2)))) := by kernel_rfl
theorem spec_PlaceOk_fn (x0 : Value) (w : World) : fnC P (EV P) 13 #[x0] w =
 (bx P 50 x0 w).bind fun r1 =>
 (vl (.bool false) r1.2).bind fun r2 =>
 (ld P 50 r1.1 r2.2).bind fun r3 =>
 (EV P 40 #[r3.1] r3.2).bind fun r4 =>
 (vl r4.1 r4.2).bind fun r5 =>
 some (r5.1, r5.2) := by kernel_rfl
theorem laws_toPlace_fn (x0 : Value) (w : World) : fnC P (EV P) 14 #[x0] w =
 (bx P 41 x0 w).bind fun r1 =>
 (al P 50 r1.2).bind fun r2 =>
 (al P 50 r2.2).bind fun r3 =>
 (fa P 41 r1.1 0 r3.2).bind fun r4 =>
 (ld P 3 r4.1 r4.2).bind fun r5 =>
 (fa P 50 r3.1 0 r5.2).bind fun r6 =>
 (st P 3 r6.1 r5.1 r6.2).bind fun r7 =>
 (fa P 41 r1.1 1 r7.2).bind fun r8 =>
 (ld P 3 r8.1 r8.2).bind fun r9 =>
 (fa P 50 r3.1 1 r9.2).bind fun r10 =>
 (st P 3 r10.1 r9.1 r10.2).bind fun r11 =>
 (fa P 41 r1.1 2 r11.2).bind fun r12 =>
 (ld P 37 r12.1 r12.2).bind fun r13 =>
 (EV P 41 #[r13.1] r13.2).bind fun r14 =>
 (fa P 50 r3.1 2 r14.2).bind fun r15 =>
 (st P 46 r15.1 r14.1 r15.2).bind fun r16 =>
 (fa P 41 r1.1 3 r16.2).bind fun r17 =>
 (ld P 38 r17.1 r17.2).bind fun r18 =>
 (EV P 42 #[r18.1] r18.2).bind fun r19 =>
 (fa P 50 r3.1 3 r19.2).bind fun r20 =>
 (st P 47 r20.1 r19.1 r20.2).bind fun r21 =>
 (fa P 41 r1.1 4 r21.2).bind fun r22 =>
 (ld P 39 r22.1 r22.2).bind fun r23 =>
 (EV P 43 #[r23.1] r23.2).bind fun r24 =>
 (fa P 50 r3.1 4 r24.2).bind fun r25 =>
 (st P 48 r25.1 r24.1 r25.2).bind fun r26 =>
 (fa P 41 r1.1 5 r26.2).bind fun r27 =>
 (ld P 4 r27.1 r27.2).bind fun r28 =>
 (fa P 50 r3.1 5 r28.2).bind fun r29 =>
 (st P 4 r29.1 r28.1 r29.2).bind fun r30 =>
 (ld P 50 r3.1 r30.2).bind fun r31 =>
 (st P 50 r2.1 r31.1 r31.2).bind fun r32 =>
 ((ld P 50 r2.1 r32.2).bind fun r33 => ifP (r33.2 = r32.2) (some r33.1)).bind fun v34 =>
 some (v34, r32.2) := by kernel_rfl
noncomputable def impl_PlaceOk_l1 (e : Env) (w : World) : Option (Value × World) := exC P (EV P) 15 113 (.loop (cA (cA (cB (cA (cB (cB (cB (bodyOf P 15))))))))) e w (kBlock 0 (kSeq P (EV P) 15 113 (cB (cB (cB (cB (bodyOf P 15))))) (kFn P (fnOf P 15))))
noncomputable def impl_PlaceOk_l2 (e : Env) (w : World) : Option (Value × World) := exC P (EV P) 15 113 (.loop (cA (cA (cB (cB (cA (cA (cB (cB (cA (cA (cB (cA (cB (cB (cB (bodyOf P 15))))))))))))))))) e w (kBlock 2 (kBlock 1 (kSeq P (EV P) 15 113 (cB (cB (cB (cA (cA (cB (cA (cB (cB (cB (bodyOf P 15))))))))))) (kLoop P (EV P) 15 113 (cA (cA (cB (cA (cB (cB (cB (bodyOf P 15)))))))) (kBlock 0 (kSeq P (EV P) 15 113 (cB (cB (cB (cB (bodyOf P 15))))) (kFn P (fnOf P 15))))))))
noncomputable def impl_PlaceOk_l3 (e : Env) (w : World) : Option (Value × World) := exC P (EV P) 15 113 (.loop (cA (cA (cB (cA (cB (cB (cB (cB (bodyOf P 15)))))))))) e w (kBlock 4 (kSeq P (EV P) 15 113 (cB (cB (cB (cB (cB (bodyOf P 15)))))) (kFn P (fnOf P 15))))
theorem impl_PlaceOk_l1_eq (e : Env) (w : World) : impl_PlaceOk_l1 e w =
 (bo P .lss 3 (.tmp 47) (.tmp 46) (e 47) (e 46) w).bind fun r1 =>
 cnd r1.1 (
 (vl (e 47) r1.2).bind fun r2 =>
 (ia P 44 (e 45) (e 47) r2.2).bind fun r3 =>
 (ld P 95 r3.1 r3.2).bind fun r4 =>
 (al P 95 r4.2).bind fun r5 =>
 (vl r2.1 r5.2).bind fun r6 =>
 (st P 95 r5.1 r4.1 r6.2).bind fun r7 =>
 (fa P 95 r5.1 0 r7.2).bind fun r8 =>
 (fa P 91 r8.1 0 r8.2).bind fun r9 =>
 (ld P 47 r9.1 r9.2).bind fun r10 =>
 (fa P 95 r5.1 1 r10.2).bind fun r11 =>
 (ld P 47 r11.1 r11.2).bind fun r12 =>
 (bs P 48 2 #[(0, r10.1), (1, r12.1)] r12.2).bind fun r13 =>
 (EV P 50 #[r13.1] r13.2).bind fun r14 =>
 (b_len P #[47] 3 #[r14.1] r14.2).bind fun r15 =>
 (vl (.int .i64 0) r15.2).bind fun r16 =>
 impl_PlaceOk_l2 (ups e [(48, r1.1), (49, r2.1), (50, r3.1), (51, r4.1), (5, r5.1), (4, r6.1), (52, r8.1), (53, r9.1), (54, r10.1), (55, r11.1), (56, r12.1), (57, r13.1), (58, r14.1), (59, r15.1), (60, r16.1)]) r16.2) (
 (fa P 50 (e 1) 4 r1.2).bind fun r17 =>
 (ld P 48 r17.1 r17.2).bind fun r18 =>
 (b_len P #[48] 3 #[r18.1] r18.2).bind fun r19 =>
 (vl (.int .i64 0) r19.2).bind fun r20 =>
 impl_PlaceOk_l3 (ups e [(48, r1.1), (89, r17.1), (90, r18.1), (91, r19.1), (92, r20.1)]) r20.2) := (exC_loop P (EV P) 15 113 (cA (cA (cB (cA (cB (cB (cB (bodyOf P 15)))))))) e w (kBlock 0 (kSeq P (EV P) 15 113 (cB (cB (cB (cB (bodyOf P 15))))) (kFn P (fnOf P 15))))).trans (by kernel_rfl)
theorem impl_PlaceOk_l2_eq (e : Env) (w : World) : impl_PlaceOk_l2 e w =
 (bo P .lss 3 (.tmp 60) (.tmp 59) (e 60) (e 59) w).bind fun r1 =>
 cnd r1.1 (
 (ia P 47 (e 58) (e 60) r1.2).bind fun r2 =>
 (ld P 69 r2.1 r2.2).bind fun r3 =>
 (al P 69 r3.2).bind fun r4 =>
 (st P 69 r4.1 r3.1 r4.2).bind fun r5 =>
 (fa P 69 r4.1 1 r5.2).bind fun r6 =>
 (ld P 64 r6.1 r6.2).bind fun r7 =>
 (bd P 64 #[] r7.2).bind fun r8 =>
 (bo P .neq 64 (.tmp 65) (.tmp 66) r7.1 r8.1 r8.2).bind fun r9 =>
 (vl r9.1 r9.2).bind fun r10 =>
 (gif r10.1 true (fa P 69 r4.1 2 r10.2) r10.2).bind fun r11 =>
 (gif r10.1 true (ld P 62 r11.1 r11.2) r11.2).bind fun r12 =>
 (gif r10.1 true (ld P 62 (e 3) r12.2) r12.2).bind fun r13 =>
 (gif r10.1 true (EV P 51 #[r12.1, r13.1] r13.2) r13.2).bind fun r14 =>
 (gif r10.1 true (uo P .not r14.1 r14.2) r14.2).bind fun r15 =>
 (pickV r10.1 r15.1 (.bool false) r15.2).bind fun r16 =>
 (vl r16.1 r16.2).bind fun r17 =>
 (gif r17.1 false (vl (e 4) r17.2) r17.2).bind fun r18 =>
 (gif r17.1 false (bo P .eql 3 (.tmp 76) (.const (.int .i64 0)) r18.1 (.int .i64 0) r18.2) r18.2).bind fun r19 =>
 (gif r17.1 false (vl r19.1 r19.2) r19.2).bind fun r20 =>
 (gif r20.1 true (fa P 69 r4.1 1 r20.2) r20.2).bind fun r21 =>
 (gif r20.1 true (fa P 64 r21.1 0 r21.2) r21.2).bind fun r22 =>
 (gif r20.1 true (ld P 3 r22.1 r22.2) r22.2).bind fun r23 =>
 (gif r20.1 true (fa P 50 (e 1) 1 r23.2) r23.2).bind fun r24 =>
 (gif r20.1 true (ld P 3 r24.1 r24.2) r24.2).bind fun r25 =>
 (gif r20.1 true (bo P .gtr 3 (.tmp 81) (.tmp 83) r23.1 r25.1 r25.2) r25.2).bind fun r26 =>
 (gif r17.1 false (pickV r20.1 r26.1 (.bool false) r26.2) r26.2).bind fun r27 =>
 (pickV r17.1 (.bool true) r27.1 r27.2).bind fun r28 =>
 cnd r28.1 (
 (vl (.bool false) r28.2).bind fun r29 =>
 some (r29.1, r29.2)) (
 (bo P .add 3 (.tmp 60) (.const (.int .i64 1)) (e 60) (.int .i64 1) r28.2).bind fun r30 =>
 (vl r30.1 r30.2).bind fun r31 =>
 impl_PlaceOk_l2 (ups e [(61, r1.1), (62, r2.1), (63, r3.1), (7, r4.1), (64, r6.1), (65, r7.1), (66, r8.1), (67, r9.1), (68, r10.1), (69, r11.1), (70, r12.1), (71, r13.1), (72, r14.1), (73, r15.1), (74, r16.1), (75, r17.1), (76, r18.1), (77, r19.1), (78, r20.1), (79, r21.1), (80, r22.1), (81, r23.1), (82, r24.1), (83, r25.1), (84, r26.1), (85, r27.1), (86, r28.1), (87, r30.1), (60, r31.1)]) r31.2)) (
 (bo P .add 3 (.tmp 47) (.const (.int .i64 1)) (e 47) (.int .i64 1) r1.2).bind fun r32 =>
 (vl r32.1 r32.2).bind fun r33 =>
 impl_PlaceOk_l1 (ups e [(61, r1.1), (88, r32.1), (47, r33.1)]) r33.2) := (exC_loop P (EV P) 15 113 (cA (cA (cB (cB (cA (cA (cB (cB (cA (cA (cB (cA (cB (cB (cB (bodyOf P 15)))))))))))))))) e w (kBlock 2 (kBlock 1 (kSeq P (EV P) 15 113 (cB (cB (cB (cA (cA (cB (cA (cB (cB (cB (bodyOf P 15))))))))))) (kLoop P (EV P) 15 113 (cA (cA (cB (cA (cB (cB (cB (bodyOf P 15)))))))) (kBlock 0 (kSeq P (EV P) 15 113 (cB (cB (cB (cB (bodyOf P 15))))) (kFn P (fnOf P 15))))))))).trans (by kernel_rfl)
theorem impl_PlaceOk_l3_eq (e : Env) (w : World) : impl_PlaceOk_l3 e w =
 (bo P .lss 3 (.tmp 92) (.tmp 91) (e 92) (e 91) w).bind fun r1 =>
 cnd r1.1 (
 (vl (e 92) r1.2).bind fun r2 =>
 (ia P 48 (e 90) (e 92) r2.2).bind fun r3 =>
 (ld P 47 r3.1 r3.2).bind fun r4 =>
 (vl r2.1 r4.2).bind fun r5 =>
 (vl r4.1 r5.2).bind fun r6 =>
 (vl r6.1 r6.2).bind fun r7 =>
 (vl r5.1 r7.2).bind fun r8 =>
 (EV P 47 #[r7.1, r8.1] r8.2).bind fun r9 =>
 (uo P .not r9.1 r9.2).bind fun r10 =>
 (vl r10.1 r10.2).bind fun r11 =>
 (gif r11.1 false (vl r5.1 r11.2) r11.2).bind fun r12 =>
 (gif r11.1 false (fa P 50 (e 1) 0 r12.2) r12.2).bind fun r13 =>
 (gif r11.1 false (ld P 3 r13.1 r13.2) r13.2).bind fun r14 =>
 (gif r11.1 false (bo P .eql 3 (.tmp 102) (.tmp 104) r12.1 r14.1 r14.2) r14.2).bind fun r15 =>
 (gif r11.1 false (vl r15.1 r15.2) r15.2).bind fun r16 =>
 (gif r16.1 true (vl r6.1 r16.2) r16.2).bind fun r17 =>
 (gif r16.1 true (b_len P #[47] 3 #[r17.1] r17.2) r17.2).bind fun r18 =>
 (gif r16.1 true (bo P .gtr 3 (.tmp 108) (.const (.int .i64 0)) r18.1 (.int .i64 0) r18.2) r18.2).bind fun r19 =>
 (gif r11.1 false (pickV r16.1 r19.1 (.bool false) r19.2) r19.2).bind fun r20 =>
 (pickV r11.1 (.bool true) r20.1 r20.2).bind fun r21 =>
 cnd r21.1 (
 (vl (.bool false) r21.2).bind fun r22 =>
 some (r22.1, r22.2)) (
 (bo P .add 3 (.tmp 92) (.const (.int .i64 1)) (e 92) (.int .i64 1) r21.2).bind fun r23 =>
 (vl r23.1 r23.2).bind fun r24 =>
 impl_PlaceOk_l3 (ups e [(93, r1.1), (94, r2.1), (95, r3.1), (96, r4.1), (8, r5.1), (9, r6.1), (97, r7.1), (98, r8.1), (99, r9.1), (100, r10.1), (101, r11.1), (102, r12.1), (103, r13.1), (104, r14.1), (105, r15.1), (106, r16.1), (107, r17.1), (108, r18.1), (109, r19.1), (110, r20.1), (111, r21.1), (112, r23.1), (92, r24.1)]) r24.2)) (
 (vl (.bool true) r1.2).bind fun r25 =>
 some (r25.1, r25.2)) := (exC_loop P (EV P) 15 113 (cA (cA (cB (cA (cB (cB (cB (cB (bodyOf P 15))))))))) e w (kBlock 4 (kSeq P (EV P) 15 113 (cB (cB (cB (cB (cB (bodyOf P 15)))))) (kFn P (fnOf P 15))))).trans (by kernel_rfl)
theorem impl_PlaceOk_fn (x0 : Value) (w : World) : fnC P (EV P) 15 #[x0] w =
 (bx P 50 x0 w).bind fun r1 =>
 (vl (.bool false) r1.2).bind fun r2 =>
 (fa P 50 r1.1 0 r2.2).bind fun r3 =>
 (ld P 3 r3.1 r3.2).bind fun r4 =>
 (EV P 44 #[r4.1] r4.2).bind fun r5 =>
 (uo P .not r5.1 r5.2).bind fun r6 =>
 (vl r6.1 r6.2).bind fun r7 =>
 (gif r7.1 false (fa P 50 r1.1 1 r7.2) r7.2).bind fun r8 =>
 (gif r7.1 false (ld P 3 r8.1 r8.2) r8.2).bind fun r9 =>
 (gif r7.1 false (EV P 45 #[r9.1, (.int .i64 0), (.int .i64 999)] r9.2) r9.2).bind fun r10 =>
 (gif r7.1 false (uo P .not r10.1 r10.2) r10.2).bind fun r11 =>
 (pickV r7.1 (.bool true) r11.1 r11.2).bind fun r12 =>
 (vl r12.1 r12.2).bind fun r13 =>
 (gif r13.1 false (fa P 50 r1.1 2 r13.2) r13.2).bind fun r14 =>
 (gif r13.1 false (ld P 46 r14.1 r14.2) r14.2).bind fun r15 =>
 (gif r13.1 false (EV P 46 #[r15.1] r15.2) r15.2).bind fun r16 =>
 (gif r13.1 false (uo P .not r16.1 r16.2) r16.2).bind fun r17 =>
 (pickV r13.1 (.bool true) r17.1 r17.2).bind fun r18 =>
 (vl r18.1 r18.2).bind fun r19 =>
 (gif r19.1 false (fa P 50 r1.1 3 r19.2) r19.2).bind fun r20 =>
 (gif r19.1 false (ld P 47 r20.1 r20.2) r20.2).bind fun r21 =>
 (gif r19.1 false (fa P 50 r1.1 0 r21.2) r21.2).bind fun r22 =>
 (gif r19.1 false (ld P 3 r22.1 r22.2) r22.2).bind fun r23 =>
 (gif r19.1 false (EV P 47 #[r21.1, r23.1] r23.2) r23.2).bind fun r24 =>
 (gif r19.1 false (uo P .not r24.1 r24.2) r24.2).bind fun r25 =>
 (pickV r19.1 (.bool true) r25.1 r25.2).bind fun r26 =>
 (vl r26.1 r26.2).bind fun r27 =>
 (gif r27.1 false (fa P 50 r1.1 4 r27.2) r27.2).bind fun r28 =>
 (gif r27.1 false (ld P 48 r28.1 r28.2) r28.2).bind fun r29 =>
 (gif r27.1 false (b_len P #[48] 3 #[r29.1] r29.2) r29.2).bind fun r30 =>
 (gif r27.1 false (bo P .neq 3 (.tmp 37) (.const (.int .i64 3)) r30.1 (.int .i64 3) r30.2) r30.2).bind fun r31 =>
 (pickV r27.1 (.bool true) r31.1 r31.2).bind fun r32 =>
 cnd r32.1 (
 (vl (.bool false) r32.2).bind fun r33 =>
 some (r33.1, r33.2)) (
 (fa P 50 r1.1 2 r32.2).bind fun r34 =>
 (EV P 48 #[r34.1] r34.2).bind fun r35 =>
 (EV P 49 #[r35.1] r35.2).bind fun r36 =>
 (al P 62 r36.2).bind fun r37 =>
 (st P 62 r37.1 r36.1 r37.2).bind fun r38 =>
 (fa P 50 r1.1 2 r38.2).bind fun r39 =>
 (fa P 46 r39.1 0 r39.2).bind fun r40 =>
 (ld P 44 r40.1 r40.2).bind fun r41 =>
 (b_len P #[44] 3 #[r41.1] r41.2).bind fun r42 =>
 (vl (.int .i64 0) r42.2).bind fun r43 =>
 impl_PlaceOk_l1 (ups (env0 #[x0]) [(1, r1.1), (2, r2.1), (10, r3.1), (11, r4.1), (12, r5.1), (13, r6.1), (14, r7.1), (15, r8.1), (16, r9.1), (17, r10.1), (18, r11.1), (19, r12.1), (20, r13.1), (21, r14.1), (22, r15.1), (23, r16.1), (24, r17.1), (25, r18.1), (26, r19.1), (27, r20.1), (28, r21.1), (29, r22.1), (30, r23.1), (31, r24.1), (32, r25.1), (33, r26.1), (34, r27.1), (35, r28.1), (36, r29.1), (37, r30.1), (38, r31.1), (39, r32.1), (40, r34.1), (41, r35.1), (42, r36.1), (3, r37.1), (43, r39.1), (44, r40.1), (45, r41.1), (46, r42.1), (47, r43.1)]) r43.2) := by kernel_rfl
theorem laws_eqPlace_fn (x0 x1 : Value) (w : World) : fnC P (EV P) 16 #[x0, x1] w =
 (bx P 50 x0 w).bind fun r1 =>
 (bx P 50 x1 r1.2).bind fun r2 =>
 (vl (.bool false) r2.2).bind fun r3 =>
 (fa P 50 r1.1 0 r3.2).bind fun r4 =>
 (ld P 3 r4.1 r4.2).bind fun r5 =>
 (fa P 50 r2.1 0 r5.2).bind fun r6 =>
 (ld P 3 r6.1 r6.2).bind fun r7 =>
 (bo P .neq 3 (.tmp 6) (.tmp 8) r5.1 r7.1 r7.2).bind fun r8 =>
 cnd r8.1 (
 (vl (.bool false) r8.2).bind fun r9 =>
 some (r9.1, r9.2)) (
 (fa P 50 r1.1 1 r8.2).bind fun r10 =>
 (ld P 3 r10.1 r10.2).bind fun r11 =>
 (fa P 50 r2.1 1 r11.2).bind fun r12 =>
 (ld P 3 r12.1 r12.2).bind fun r13 =>
 (bo P .neq 3 (.tmp 11) (.tmp 13) r11.1 r13.1 r13.2).bind fun r14 =>
 cnd r14.1 (
 (vl (.bool false) r14.2).bind fun r15 =>
 some (r15.1, r15.2)) (
 (fa P 50 r1.1 2 r14.2).bind fun r16 =>
 (ld P 46 r16.1 r16.2).bind fun r17 =>
 (fa P 50 r2.1 2 r17.2).bind fun r18 =>
 (ld P 46 r18.1 r18.2).bind fun r19 =>
 (EV P 52 #[r17.1, r19.1] r19.2).bind fun r20 =>
 (uo P .not r20.1 r20.2).bind fun r21 =>
 cnd r21.1 (
 (vl (.bool false) r21.2).bind fun r22 =>
 some (r22.1, r22.2)) (
 (fa P 50 r1.1 3 r21.2).bind fun r23 =>
 (ld P 47 r23.1 r23.2).bind fun r24 =>
 (fa P 50 r2.1 3 r24.2).bind fun r25 =>
 (ld P 47 r25.1 r25.2).bind fun r26 =>
 (EV P 53 #[r24.1, r26.1] r26.2).bind fun r27 =>
 (uo P .not r27.1 r27.2).bind fun r28 =>
 cnd r28.1 (
 (vl (.bool false) r28.2).bind fun r29 =>
 some (r29.1, r29.2)) (
 (fa P 50 r1.1 4 r28.2).bind fun r30 =>
 (ld P 48 r30.1 r30.2).bind fun r31 =>
 (fa P 50 r2.1 4 r31.2).bind fun r32 =>
 (ld P 48 r32.1 r32.2).bind fun r33 =>
 (EV P 54 #[r31.1, r33.1] r33.2).bind fun r34 =>
 (uo P .not r34.1 r34.2).bind fun r35 =>
 cnd r35.1 (
 (vl (.bool false) r35.2).bind fun r36 =>
 some (r36.1, r36.2)) (
 (fa P 50 r1.1 5 r35.2).bind fun r37 =>
 (ld P 4 r37.1 r37.2).bind fun r38 =>
 (fa P 50 r2.1 5 r38.2).bind fun r39 =>
 (ld P 4 r39.1 r39.2).bind fun r40 =>
 (bo P .neq 4 (.tmp 34) (.tmp 36) r38.1 r40.1 r40.2).bind fun r41 =>
 cnd r41.1 (
 (vl (.bool false) r41.2).bind fun r42 =>
 some (r42.1, r42.2)) (
 (vl (.bool true) r41.2).bind fun r43 =>
 some (r43.1, r43.2))))))) := by kernel_rfl
theorem spec_l1In_fn (x0 x1 x2 : Value) (w : World) : fnC P (EV P) 25 #[x0, x1, x2] w =
 (vl (.bool false) w).bind fun r1 =>
 (vl x0 r1.2).bind fun r2 =>
 (vl x1 r2.2).bind fun r3 =>
 (bo P .geq 3 (.tmp 7) (.tmp 8) r2.1 r3.1 r3.2).bind fun r4 =>
 (vl r4.1 r4.2).bind fun r5 =>
 (gif r5.1 true (vl x0 r5.2) r5.2).bind fun r6 =>
 (gif r5.1 true (vl x2 r6.2) r6.2).bind fun r7 =>
 (gif r5.1 true (bo P .leq 3 (.tmp 11) (.tmp 12) r6.1 r7.1 r7.2) r7.2).bind fun r8 =>
 (pickV r5.1 r8.1 (.bool false) r8.2).bind fun r9 =>
 (vl r9.1 r9.2).bind fun r10 =>
 some (r10.1, r10.2) := by kernel_rfl
end Go.Proofs.YtggmfmanpjcjkaaGreat.X
