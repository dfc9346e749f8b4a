/- A part of the proof: an evaluator of the model, its laws, and contracts of functions; no condition. -/
import Derived.Test.YtcafhepclddcaaaEvT
set_option linter.unusedVariables false
set_option maxRecDepth 100000
namespace Go.Proofs.Ytcafhepclddcaaa.X
open Go Go.Ev
noncomputable def laws_FnExactCauseOf_a1 (e : Env) (w : World) : Option (Value × World) := exC P (EV P) 6 104 (cA (cB (cB (cB (cB (bodyOf P 6)))))) e w (kSeq P (EV P) 6 104 (cB (cB (cB (cB (cB (bodyOf P 6)))))) (kFn P (fnOf P 6)))
noncomputable def laws_FnExactCauseOf_j1 (e : Env) (w : World) : Option (Value × World) := exC P (EV P) 6 104 (cB (cB (cB (cB (cB (bodyOf P 6)))))) e w (kFn P (fnOf P 6))
noncomputable def laws_FnExactCauseOf_a2 (e : Env) (w : World) : Option (Value × World) := exC P (EV P) 6 104 (cA (cB (cB (cB (cB (cB (cB (cB (cB (cB (cB (cB (cB (cB (cB (cB (cB (cB (cB (bodyOf P 6)))))))))))))))))))) e w (kSeq P (EV P) 6 104 (cB (cB (cB (cB (cB (cB (cB (cB (cB (cB (cB (cB (cB (cB (cB (cB (cB (cB (cB (bodyOf P 6)))))))))))))))))))) (kFn P (fnOf P 6)))
noncomputable def laws_FnExactCauseOf_j2 (e : Env) (w : World) : Option (Value × World) := exC P (EV P) 6 104 (cB (cB (cB (cB (cB (cB (cB (cB (cB (cB (cB (cB (cB (cB (cB (cB (cB (cB (cB (bodyOf P 6)))))))))))))))))))) e w (kFn P (fnOf P 6))
theorem laws_FnExactCauseOf_a1_any (e : Env) (w : World) {Q : Value × World → Prop} (h :
 (Ret (vl (e 0) (dw w)) fun r1 => r1.2 = (dw w) ∧
 (Ret (ld P 39 (e 3) (dw w)) fun r2 => r2.2 = (dw w) ∧
 ((Ret (EV P 14 #[r1.1] (dw w)) fun r3 => (ld P 39 (e 3) r3.2 = some (r2.1, r3.2) ∧ True) ∧
 ((Ret (EV P 26 #[r2.1] r3.2) fun r4 => (True ∧ True) ∧
 ((Ret (EV P 25 #[r3.1, r4.1] r4.2) fun r5 => (True ∧ True) ∧
 (Ret (vl r5.1 r5.2) fun r6 => r6.2 = r5.2 ∧
 (Ret (xt P r6.1 0 r5.2) fun r7 => r7.2 = r5.2 ∧
 (Ret (xt P r6.1 1 r5.2) fun r8 => r8.2 = r5.2 ∧
 ((Ret (al P 32 r5.2) fun r9 => (xt P r6.1 1 r9.2 = some (r8.1, r9.2) ∧ xt P r6.1 0 r9.2 = some (r7.1, r9.2) ∧ ld P 39 (e 3) r9.2 = some (r2.1, r9.2) ∧ True) ∧
 ((Ret (st P 32 r9.1 r7.1 r9.2) fun r10 => (xt P r6.1 1 r10.2 = some (r8.1, r10.2) ∧ True ∧ True ∧ True) ∧
 (Ret (vl r8.1 r10.2) fun r11 => r11.2 = r10.2 ∧
 Ret (laws_FnExactCauseOf_j1 (ups e [(22, r1.1), (24, r2.1), (23, r3.1), (25, r4.1), (26, r5.1), (21, r6.1), (27, r7.1), (28, r8.1), (6, r9.1), (7, r11.1)]) r10.2) Q))))))))) ∧
 (Ret (al P 32 r4.2) fun r12 => (ld P 39 (e 3) r12.2 = some (r2.1, r12.2) ∧ True) ∧
 ((Ret (EV P 25 #[r3.1, r4.1] r12.2) fun r13 => (True ∧ True) ∧
 (Ret (vl r13.1 r13.2) fun r14 => r14.2 = r13.2 ∧
 (Ret (xt P r14.1 0 r13.2) fun r15 => r15.2 = r13.2 ∧
 (Ret (xt P r14.1 1 r13.2) fun r16 => r16.2 = r13.2 ∧
 ((Ret (st P 32 r12.1 r15.1 r13.2) fun r17 => (xt P r14.1 1 r17.2 = some (r16.1, r17.2) ∧ True ∧ True ∧ True) ∧
 (Ret (vl r16.1 r17.2) fun r18 => r18.2 = r17.2 ∧
 Ret (laws_FnExactCauseOf_j1 (ups e [(22, r1.1), (24, r2.1), (23, r3.1), (25, r4.1), (6, r12.1), (26, r13.1), (21, r14.1), (27, r15.1), (28, r16.1), (7, r18.1)]) r17.2) Q))))))))))) ∧
 (Ret (al P 32 r3.2) fun r19 => (ld P 39 (e 3) r19.2 = some (r2.1, r19.2) ∧ True) ∧
 ((Ret (EV P 26 #[r2.1] r19.2) fun r20 => (True ∧ True) ∧
 ((Ret (EV P 25 #[r3.1, r20.1] r20.2) fun r21 => (True ∧ True) ∧
 (Ret (vl r21.1 r21.2) fun r22 => r22.2 = r21.2 ∧
 (Ret (xt P r22.1 0 r21.2) fun r23 => r23.2 = r21.2 ∧
 (Ret (xt P r22.1 1 r21.2) fun r24 => r24.2 = r21.2 ∧
 ((Ret (st P 32 r19.1 r23.1 r21.2) fun r25 => (xt P r22.1 1 r25.2 = some (r24.1, r25.2) ∧ True ∧ True ∧ True) ∧
 (Ret (vl r24.1 r25.2) fun r26 => r26.2 = r25.2 ∧
 Ret (laws_FnExactCauseOf_j1 (ups e [(22, r1.1), (24, r2.1), (23, r3.1), (6, r19.1), (25, r20.1), (26, r21.1), (21, r22.1), (27, r23.1), (28, r24.1), (7, r26.1)]) r25.2) Q))))))))))))) ∧
 (Ret (al P 32 (dw w)) fun r27 => (ld P 39 (e 3) r27.2 = some (r2.1, r27.2) ∧ True) ∧
 ((Ret (EV P 14 #[r1.1] r27.2) fun r28 => (ld P 39 (e 3) r28.2 = some (r2.1, r28.2) ∧ True) ∧
 ((Ret (EV P 26 #[r2.1] r28.2) fun r29 => (True ∧ True) ∧
 ((Ret (EV P 25 #[r28.1, r29.1] r29.2) fun r30 => (True ∧ True) ∧
 (Ret (vl r30.1 r30.2) fun r31 => r31.2 = r30.2 ∧
 (Ret (xt P r31.1 0 r30.2) fun r32 => r32.2 = r30.2 ∧
 (Ret (xt P r31.1 1 r30.2) fun r33 => r33.2 = r30.2 ∧
 ((Ret (st P 32 r27.1 r32.1 r30.2) fun r34 => (xt P r31.1 1 r34.2 = some (r33.1, r34.2) ∧ True ∧ True ∧ True) ∧
 (Ret (vl r33.1 r34.2) fun r35 => r35.2 = r34.2 ∧
 Ret (laws_FnExactCauseOf_j1 (ups e [(22, r1.1), (24, r2.1), (6, r27.1), (23, r28.1), (25, r29.1), (26, r30.1), (21, r31.1), (27, r32.1), (28, r33.1), (7, r35.1)]) r34.2) Q))))))))))))))))) : Ret (laws_FnExactCauseOf_a1 e w) Q := exC_any (id := 5) (ops := opsOf (cA (cB (cB (cB (cB (bodyOf P 6))))))) (by kernel_rfl) (by kernel_rfl) (Eq.mpr (by kernel_rfl) h)
theorem laws_FnExactCauseOf_j1_eq (e : Env) (w : World) : laws_FnExactCauseOf_j1 e w =
 (vl (e 0) w).bind fun r1 =>
 (EV P 14 #[r1.1] r1.2).bind fun r2 =>
 (vl r2.1 r2.2).bind fun r3 =>
 (vl r3.1 r3.2).bind fun r4 =>
 (ld P 39 (e 3) r4.2).bind fun r5 =>
 (EV P 26 #[r5.1] r5.2).bind fun r6 =>
 (EV P 27 #[r4.1, r6.1] r6.2).bind fun r7 =>
 (vl r7.1 r7.2).bind fun r8 =>
 (xt P r8.1 0 r8.2).bind fun r9 =>
 (xt P r8.1 1 r9.2).bind fun r10 =>
 (al P 32 r10.2).bind fun r11 =>
 (st P 32 r11.1 r9.1 r11.2).bind fun r12 =>
 (vl r10.1 r12.2).bind fun r13 =>
 (ld P 32 r11.1 r13.2).bind fun r14 =>
 (ld P 32 (e 6) r14.2).bind fun r15 =>
 (EV P 21 #[r14.1, r15.1] r15.2).bind fun r16 =>
 (uo P .not r16.1 r16.2).bind fun r17 =>
 (vl r17.1 r17.2).bind fun r18 =>
 (gif r18.1 false (vl r13.1 r18.2) r18.2).bind fun r19 =>
 (gif r18.1 false (vl (e 7) r19.2) r19.2).bind fun r20 =>
 (gif r18.1 false (bo P .neq 4 (.tmp 43) (.tmp 44) r19.1 r20.1 r20.2) r20.2).bind fun r21 =>
 (pickV r18.1 (.bool true) r21.1 r21.2).bind fun r22 =>
 cnd r22.1 (
 (vl (.bool false) r22.2).bind fun r23 =>
 some (r23.1, r23.2)) (
 (vl r3.1 r22.2).bind fun r24 =>
 (vl (e 0) r24.2).bind fun r25 =>
 (EV P 14 #[r25.1] r25.2).bind fun r26 =>
 (EV P 16 #[r24.1, r26.1] r26.2).bind fun r27 =>
 (uo P .not r27.1 r27.2).bind fun r28 =>
 cnd r28.1 (
 (vl (.bool false) r28.2).bind fun r29 =>
 some (r29.1, r29.2)) (
 (vl (.int .i64 1) r28.2).bind fun r30 =>
 (vl r3.1 r30.2).bind fun r31 =>
 (vl r30.1 r31.2).bind fun r32 =>
 (EV P 22 #[r31.1, r32.1] r32.2).bind fun r33 =>
 (vl r33.1 r33.2).bind fun r34 =>
 (vl r34.1 r34.2).bind fun r35 =>
 (bo P .lss 3 (.tmp 55) (.const (.int .i64 0)) r35.1 (.int .i64 0) r35.2).bind fun r36 =>
 (vl r36.1 r36.2).bind fun r37 =>
 (gif r37.1 false (ld P 32 r11.1 r37.2) r37.2).bind fun r38 =>
 (gif r37.1 false (ld P 32 (e 6) r38.2) r38.2).bind fun r39 =>
 (gif r37.1 false (EV P 21 #[r38.1, r39.1] r39.2) r39.2).bind fun r40 =>
 (gif r37.1 false (uo P .not r40.1 r40.2) r40.2).bind fun r41 =>
 (pickV r37.1 (.bool true) r41.1 r41.2).bind fun r42 =>
 (vl r42.1 r42.2).bind fun r43 =>
 (gif r43.1 false (vl r13.1 r43.2) r43.2).bind fun r44 =>
 (gif r43.1 false (vl (e 7) r44.2) r44.2).bind fun r45 =>
 (gif r43.1 false (bo P .neq 4 (.tmp 64) (.tmp 65) r44.1 r45.1 r45.2) r45.2).bind fun r46 =>
 (pickV r43.1 (.bool true) r46.1 r46.2).bind fun r47 =>
 cnd r47.1 (
 (vl (.bool false) r47.2).bind fun r48 =>
 some (r48.1, r48.2)) (
 (vl (.int .i64 1) r47.2).bind fun r49 =>
 (ld P 32 r11.1 r49.2).bind fun r50 =>
 (vl r49.1 r50.2).bind fun r51 =>
 (EV P 23 #[r50.1, r51.1] r51.2).bind fun r52 =>
 (vl r52.1 r52.2).bind fun r53 =>
 (vl (.int .i64 1) r53.2).bind fun r54 =>
 (ld P 32 r11.1 r54.2).bind fun r55 =>
 (vl r54.1 r55.2).bind fun r56 =>
 (EV P 24 #[r55.1, r56.1] r56.2).bind fun r57 =>
 (vl r57.1 r57.2).bind fun r58 =>
 (vl r58.1 r58.2).bind fun r59 =>
 (bo P .lss 3 (.tmp 74) (.const (.int .i64 0)) r59.1 (.int .i64 0) r59.2).bind fun r60 =>
 cnd r60.1 (
 (vl (.bool false) r60.2).bind fun r61 =>
 some (r61.1, r61.2)) (
 (vl r58.1 r60.2).bind fun r62 =>
 (vl r53.1 r62.2).bind fun r63 =>
 (bo P .neq 3 (.tmp 76) (.tmp 77) r62.1 r63.1 r63.2).bind fun r64 =>
 cnd r64.1 (
 (vl (.bool false) r64.2).bind fun r65 =>
 some (r65.1, r65.2)) (
 laws_FnExactCauseOf_a2 (ups e [(29, r1.1), (30, r2.1), (8, r3.1), (32, r4.1), (33, r5.1), (34, r6.1), (35, r7.1), (31, r8.1), (36, r9.1), (37, r10.1), (9, r11.1), (10, r13.1), (38, r14.1), (39, r15.1), (40, r16.1), (41, r17.1), (42, r18.1), (43, r19.1), (44, r20.1), (45, r21.1), (46, r22.1), (47, r24.1), (48, r25.1), (49, r26.1), (50, r27.1), (51, r28.1), (11, r30.1), (52, r31.1), (53, r32.1), (54, r33.1), (11, r34.1), (55, r35.1), (56, r36.1), (57, r37.1), (58, r38.1), (59, r39.1), (60, r40.1), (61, r41.1), (62, r42.1), (63, r43.1), (64, r44.1), (65, r45.1), (66, r46.1), (67, r47.1), (12, r49.1), (68, r50.1), (69, r51.1), (70, r52.1), (12, r53.1), (13, r54.1), (71, r55.1), (72, r56.1), (73, r57.1), (13, r58.1), (74, r59.1), (75, r60.1), (76, r62.1), (77, r63.1), (78, r64.1)]) r64.2))))) := by kernel_rfl
theorem laws_FnExactCauseOf_a2_any (e : Env) (w : World) {Q : Value × World → Prop} (h :
 (Ret (vl (e 0) (dw w)) fun r1 => r1.2 = (dw w) ∧
 (Ret (ld P 39 (e 3) (dw w)) fun r2 => r2.2 = (dw w) ∧
 ((Ret (EV P 14 #[r1.1] (dw w)) fun r3 => (ld P 39 (e 3) r3.2 = some (r2.1, r3.2) ∧ True) ∧
 ((Ret (EV P 26 #[r2.1] r3.2) fun r4 => (True ∧ True) ∧
 ((Ret (EV P 27 #[r3.1, r4.1] r4.2) fun r5 => (True ∧ True) ∧
 (Ret (vl r5.1 r5.2) fun r6 => r6.2 = r5.2 ∧
 (Ret (xt P r6.1 0 r5.2) fun r7 => r7.2 = r5.2 ∧
 (Ret (xt P r6.1 1 r5.2) fun r8 => r8.2 = r5.2 ∧
 ((Ret (al P 32 r5.2) fun r9 => (xt P r6.1 1 r9.2 = some (r8.1, r9.2) ∧ xt P r6.1 0 r9.2 = some (r7.1, r9.2) ∧ ld P 39 (e 3) r9.2 = some (r2.1, r9.2) ∧ True) ∧
 ((Ret (st P 32 r9.1 r7.1 r9.2) fun r10 => (xt P r6.1 1 r10.2 = some (r8.1, r10.2) ∧ True ∧ True ∧ True) ∧
 (Ret (vl r8.1 r10.2) fun r11 => r11.2 = r10.2 ∧
 Ret (laws_FnExactCauseOf_j2 (ups e [(80, r1.1), (82, r2.1), (81, r3.1), (83, r4.1), (84, r5.1), (79, r6.1), (85, r7.1), (86, r8.1), (14, r9.1), (15, r11.1)]) r10.2) Q))))))))) ∧
 (Ret (al P 32 r4.2) fun r12 => (ld P 39 (e 3) r12.2 = some (r2.1, r12.2) ∧ True) ∧
 ((Ret (EV P 27 #[r3.1, r4.1] r12.2) fun r13 => (True ∧ True) ∧
 (Ret (vl r13.1 r13.2) fun r14 => r14.2 = r13.2 ∧
 (Ret (xt P r14.1 0 r13.2) fun r15 => r15.2 = r13.2 ∧
 (Ret (xt P r14.1 1 r13.2) fun r16 => r16.2 = r13.2 ∧
 ((Ret (st P 32 r12.1 r15.1 r13.2) fun r17 => (xt P r14.1 1 r17.2 = some (r16.1, r17.2) ∧ True ∧ True ∧ True) ∧
 (Ret (vl r16.1 r17.2) fun r18 => r18.2 = r17.2 ∧
 Ret (laws_FnExactCauseOf_j2 (ups e [(80, r1.1), (82, r2.1), (81, r3.1), (83, r4.1), (14, r12.1), (84, r13.1), (79, r14.1), (85, r15.1), (86, r16.1), (15, r18.1)]) r17.2) Q))))))))))) ∧
 (Ret (al P 32 r3.2) fun r19 => (ld P 39 (e 3) r19.2 = some (r2.1, r19.2) ∧ True) ∧
 ((Ret (EV P 26 #[r2.1] r19.2) fun r20 => (True ∧ True) ∧
 ((Ret (EV P 27 #[r3.1, r20.1] r20.2) fun r21 => (True ∧ True) ∧
 (Ret (vl r21.1 r21.2) fun r22 => r22.2 = r21.2 ∧
 (Ret (xt P r22.1 0 r21.2) fun r23 => r23.2 = r21.2 ∧
 (Ret (xt P r22.1 1 r21.2) fun r24 => r24.2 = r21.2 ∧
 ((Ret (st P 32 r19.1 r23.1 r21.2) fun r25 => (xt P r22.1 1 r25.2 = some (r24.1, r25.2) ∧ True ∧ True ∧ True) ∧
 (Ret (vl r24.1 r25.2) fun r26 => r26.2 = r25.2 ∧
 Ret (laws_FnExactCauseOf_j2 (ups e [(80, r1.1), (82, r2.1), (81, r3.1), (14, r19.1), (83, r20.1), (84, r21.1), (79, r22.1), (85, r23.1), (86, r24.1), (15, r26.1)]) r25.2) Q))))))))))))) ∧
 (Ret (al P 32 (dw w)) fun r27 => (ld P 39 (e 3) r27.2 = some (r2.1, r27.2) ∧ True) ∧
 ((Ret (EV P 14 #[r1.1] r27.2) fun r28 => (ld P 39 (e 3) r28.2 = some (r2.1, r28.2) ∧ True) ∧
 ((Ret (EV P 26 #[r2.1] r28.2) fun r29 => (True ∧ True) ∧
 ((Ret (EV P 27 #[r28.1, r29.1] r29.2) fun r30 => (True ∧ True) ∧
 (Ret (vl r30.1 r30.2) fun r31 => r31.2 = r30.2 ∧
 (Ret (xt P r31.1 0 r30.2) fun r32 => r32.2 = r30.2 ∧
 (Ret (xt P r31.1 1 r30.2) fun r33 => r33.2 = r30.2 ∧
 ((Ret (st P 32 r27.1 r32.1 r30.2) fun r34 => (xt P r31.1 1 r34.2 = some (r33.1, r34.2) ∧ True ∧ True ∧ True) ∧
 (Ret (vl r33.1 r34.2) fun r35 => r35.2 = r34.2 ∧
 Ret (laws_FnExactCauseOf_j2 (ups e [(80, r1.1), (82, r2.1), (14, r27.1), (81, r28.1), (83, r29.1), (84, r30.1), (79, r31.1), (85, r32.1), (86, r33.1), (15, r35.1)]) r34.2) Q))))))))))))))))) : Ret (laws_FnExactCauseOf_a2 e w) Q := exC_any (id := 24) (ops := opsOf (cA (cB (cB (cB (cB (cB (cB (cB (cB (cB (cB (cB (cB (cB (cB (cB (cB (cB (cB (bodyOf P 6))))))))))))))))))))) (by kernel_rfl) (by kernel_rfl) (Eq.mpr (by kernel_rfl) h)
theorem laws_FnExactCauseOf_j2_eq (e : Env) (w : World) : laws_FnExactCauseOf_j2 e w =
 (ld P 32 (e 14) w).bind fun r1 =>
 (ld P 32 (e 6) r1.2).bind fun r2 =>
 (EV P 21 #[r1.1, r2.1] r2.2).bind fun r3 =>
 (uo P .not r3.1 r3.2).bind fun r4 =>
 (vl r4.1 r4.2).bind fun r5 =>
 (gif r5.1 false (vl (e 15) r5.2) r5.2).bind fun r6 =>
 (gif r5.1 false (vl (e 7) r6.2) r6.2).bind fun r7 =>
 (gif r5.1 false (bo P .neq 4 (.tmp 92) (.tmp 93) r6.1 r7.1 r7.2) r7.2).bind fun r8 =>
 (pickV r5.1 (.bool true) r8.1 r8.2).bind fun r9 =>
 cnd r9.1 (
 (vl (.bool false) r9.2).bind fun r10 =>
 some (r10.1, r10.2)) (
 (vl (.int .i64 1) r9.2).bind fun r11 =>
 (ld P 32 (e 9) r11.2).bind fun r12 =>
 (vl r11.1 r12.2).bind fun r13 =>
 (EV P 24 #[r12.1, r13.1] r13.2).bind fun r14 =>
 (vl r14.1 r14.2).bind fun r15 =>
 (vl r15.1 r15.2).bind fun r16 =>
 (bo P .lss 3 (.tmp 99) (.const (.int .i64 0)) r16.1 (.int .i64 0) r16.2).bind fun r17 =>
 cnd r17.1 (
 (vl (.bool false) r17.2).bind fun r18 =>
 some (r18.1, r18.2)) (
 (vl r15.1 r17.2).bind fun r19 =>
 (vl (e 12) r19.2).bind fun r20 =>
 (bo P .neq 3 (.tmp 101) (.tmp 102) r19.1 r20.1 r20.2).bind fun r21 =>
 cnd r21.1 (
 (vl (.bool false) r21.2).bind fun r22 =>
 some (r22.1, r22.2)) (
 (vl (.bool true) r21.2).bind fun r23 =>
 some (r23.1, r23.2)))) := by kernel_rfl
theorem laws_FnExactCauseOf_fn (x0 x1 : Value) (w : World) : fnC P (EV P) 6 #[x0, x1] w =
 (bx P 39 x1 w).bind fun r1 =>
 (vl (.bool false) r1.2).bind fun r2 =>
 (vl (.int .i64 1048576) r2.2).bind fun r3 =>
 (vl x0 r3.2).bind fun r4 =>
 (vl r3.1 r4.2).bind fun r5 =>
 (EV P 12 #[r4.1, r5.1] r5.2).bind fun r6 =>
 (vl r6.1 r6.2).bind fun r7 =>
 (vl r7.1 r7.2).bind fun r8 =>
 (bo P .lss 3 (.tmp 19) (.const (.int .i64 0)) r8.1 (.int .i64 0) r8.2).bind fun r9 =>
 cnd r9.1 (
 (vl (.bool true) r9.2).bind fun r10 =>
 some (r10.1, r10.2)) (
 laws_FnExactCauseOf_a1 (ups (env0 #[x0, x1]) [(3, r1.1), (4, r2.1), (5, r3.1), (16, r4.1), (17, r5.1), (18, r6.1), (5, r7.1), (19, r8.1), (20, r9.1)]) r9.2) := by kernel_rfl
theorem laws_szDoneS_fn (x0 x1 : Value) (w : World) : fnC P (EV P) 12 #[x0, x1] w =
 (vl (.int .i64 0) w).bind fun r1 =>
 (vl x1 r1.2).bind fun r2 =>
 (vl x0 r2.2).bind fun r3 =>
 (b_len P #[22] 3 #[r3.1] r3.2).bind fun r4 =>
 (bo P .sub 3 (.tmp 5) (.tmp 7) r2.1 r4.1 r4.2).bind fun r5 =>
 (vl r5.1 r5.2).bind fun r6 =>
 (vl r6.1 r6.2).bind fun r7 =>
 (bo P .lss 3 (.tmp 9) (.const (.int .i64 0)) r7.1 (.int .i64 0) r7.2).bind fun r8 =>
 cnd r8.1 (
 (vl (.int .i64 (-1)) r8.2).bind fun r9 =>
 some (r9.1, r9.2)) (
 (vl r6.1 r8.2).bind fun r10 =>
 (vl r10.1 r10.2).bind fun r11 =>
 some (r11.1, r11.2)) := by kernel_rfl
noncomputable def laws_toDoneS_l1 (e : Env) (w : World) : Option (Value × World) := exC P (EV P) 14 23 (.loop (cA (cA (cB (cA (cB (cB (bodyOf P 14)))))))) e w (kBlock 0 (kSeq P (EV P) 14 23 (cB (cB (cB (bodyOf P 14)))) (kFn P (fnOf P 14))))
theorem laws_toDoneS_l1_eq (e : Env) (w : World) : laws_toDoneS_l1 e w =
 (vl (e 4) w).bind fun r1 =>
 (vl (e 0) r1.2).bind fun r2 =>
 (b_len P #[22] 3 #[r2.1] r2.2).bind fun r3 =>
 (bo P .lss 3 (.tmp 8) (.tmp 10) r1.1 r3.1 r3.2).bind fun r4 =>
 cnd r4.1 (
 (vl (e 3) r4.2).bind fun r5 =>
 (vl (e 4) r5.2).bind fun r6 =>
 (vl (e 0) r6.2).bind fun r7 =>
 (vl (e 4) r7.2).bind fun r8 =>
 (ia P 22 r7.1 r8.1 r8.2).bind fun r9 =>
 (ld P 69 r9.1 r9.2).bind fun r10 =>
 (EV P 48 #[r10.1] r10.2).bind fun r11 =>
 (ia P 25 r5.1 r6.1 r11.2).bind fun r12 =>
 (st P 66 r12.1 r11.1 r12.2).bind fun r13 =>
 (vl (e 4) r13.2).bind fun r14 =>
 (bo P .add 3 (.tmp 12) (.const (.int .i64 1)) r14.1 (.int .i64 1) r14.2).bind fun r15 =>
 (vl r15.1 r15.2).bind fun r16 =>
 laws_toDoneS_l1 (ups e [(8, r1.1), (9, r2.1), (10, r3.1), (11, r4.1), (14, r5.1), (15, r6.1), (16, r7.1), (17, r8.1), (18, r9.1), (19, r10.1), (20, r11.1), (21, r12.1), (12, r14.1), (13, r15.1), (4, r16.1)]) r16.2) (
 (vl (e 3) r4.2).bind fun r17 =>
 (vl r17.1 r17.2).bind fun r18 =>
 some (r18.1, r18.2)) := (exC_loop P (EV P) 14 23 (cA (cA (cB (cA (cB (cB (bodyOf P 14))))))) e w (kBlock 0 (kSeq P (EV P) 14 23 (cB (cB (cB (bodyOf P 14)))) (kFn P (fnOf P 14))))).trans (by kernel_rfl)
theorem laws_toDoneS_fn (x0 : Value) (w : World) : fnC P (EV P) 14 #[x0] w =
 (vl (Go.Value.slice none 0 0) w).bind fun r1 =>
 (vl x0 r1.2).bind fun r2 =>
 (b_len P #[22] 3 #[r2.1] r2.2).bind fun r3 =>
 (ms P 25 r3.1 r3.1 r3.2).bind fun r4 =>
 (vl r4.1 r4.2).bind fun r5 =>
 (vl (.int .i64 0) r5.2).bind fun r6 =>
 laws_toDoneS_l1 (ups (env0 #[x0]) [(2, r1.1), (5, r2.1), (6, r3.1), (7, r4.1), (3, r5.1), (4, r6.1)]) r6.2 := by kernel_rfl
noncomputable def laws_eqDoneS_l1 (e : Env) (w : World) : Option (Value × World) := exC P (EV P) 16 27 (.loop (cA (cA (cB (cA (cB (cB (bodyOf P 16)))))))) e w (kBlock 0 (kSeq P (EV P) 16 27 (cB (cB (cB (bodyOf P 16)))) (kFn P (fnOf P 16))))
theorem laws_eqDoneS_l1_eq (e : Env) (w : World) : laws_eqDoneS_l1 e w =
 (vl (e 5) w).bind fun r1 =>
 (vl (e 0) r1.2).bind fun r2 =>
 (b_len P #[25] 3 #[r2.1] r2.2).bind fun r3 =>
 (bo P .lss 3 (.tmp 11) (.tmp 13) r1.1 r3.1 r3.2).bind fun r4 =>
 cnd r4.1 (
 (vl (e 0) (dw r4.2)).bind fun r6 =>
 ifP (r6.2 = (dw r4.2)) <|
 (vl (e 5) (dw r4.2)).bind fun r7 =>
 ifP (r7.2 = (dw r4.2)) <|
 (ia P 25 r6.1 r7.1 (dw r4.2)).bind fun r8 =>
 ifP (r8.2 = (dw r4.2)) <|
 (ld P 66 r8.1 (dw r4.2)).bind fun r9 =>
 ifP (r9.2 = (dw r4.2)) <|
 (vl (e 1) (dw r4.2)).bind fun r10 =>
 ifP (r10.2 = (dw r4.2)) <|
 (vl (e 5) (dw r4.2)).bind fun r11 =>
 ifP (r11.2 = (dw r4.2)) <|
 (ia P 25 r10.1 r11.1 (dw r4.2)).bind fun r12 =>
 ifP (r12.2 = (dw r4.2)) <|
 (ld P 66 r12.1 (dw r4.2)).bind fun r13 =>
 ifP (r13.2 = (dw r4.2)) <|
 (EV P 51 #[r9.1, r13.1] (dw r4.2)).bind fun r14 =>
 ifP (True ∧ True ∧ True ∧ True ∧ True) <|
 (uo P .not r14.1 r14.2).bind fun r15 =>
 ifP (r15.2 = r14.2) <|
 cnd r15.1 (
 (vl (.bool false) r14.2).bind fun r16 =>
 some (r16.1, r16.2)) (
 (vl (e 5) r14.2).bind fun r17 =>
 (bo P .add 3 (.tmp 15) (.const (.int .i64 1)) r17.1 (.int .i64 1) r17.2).bind fun r18 =>
 (vl r18.1 r18.2).bind fun r19 =>
 laws_eqDoneS_l1 (ups e [(11, r1.1), (12, r2.1), (13, r3.1), (14, r4.1), (17, r6.1), (18, r7.1), (19, r8.1), (20, r9.1), (21, r10.1), (22, r11.1), (23, r12.1), (24, r13.1), (25, r14.1), (26, r15.1), (15, r17.1), (16, r18.1), (5, r19.1)]) r19.2)) (
 (vl (.bool true) r4.2).bind fun r20 =>
 some (r20.1, r20.2)) := (exC_loop P (EV P) 16 27 (cA (cA (cB (cA (cB (cB (bodyOf P 16))))))) e w (kBlock 0 (kSeq P (EV P) 16 27 (cB (cB (cB (bodyOf P 16)))) (kFn P (fnOf P 16))))).trans (by kernel_rfl)
theorem laws_eqDoneS_fn (x0 x1 : Value) (w : World) : fnC P (EV P) 16 #[x0, x1] w =
 (vl (.bool false) w).bind fun r1 =>
 (vl x0 r1.2).bind fun r2 =>
 (b_len P #[25] 3 #[r2.1] r2.2).bind fun r3 =>
 (vl x1 r3.2).bind fun r4 =>
 (b_len P #[25] 3 #[r4.1] r4.2).bind fun r5 =>
 (bo P .neq 3 (.tmp 7) (.tmp 9) r3.1 r5.1 r5.2).bind fun r6 =>
 cnd r6.1 (
 (vl (.bool false) r6.2).bind fun r7 =>
 some (r7.1, r7.2)) (
 (vl (.int .i64 0) r6.2).bind fun r8 =>
 laws_eqDoneS_l1 (ups (env0 #[x0, x1]) [(4, r1.1), (6, r2.1), (7, r3.1), (8, r4.1), (9, r5.1), (10, r6.1), (5, r8.1)]) r8.2) := by kernel_rfl
theorem laws_eqPast_fn (x0 x1 : Value) (w : World) : fnC P (EV P) 21 #[x0, x1] w =
 (bx P 32 x0 w).bind fun r1 =>
 (bx P 32 x1 r1.2).bind fun r2 =>
 (vl (.bool false) r2.2).bind fun r3 =>
 (fa P 32 r1.1 0 r3.2).bind fun r4 =>
 (ld P 30 r4.1 r4.2).bind fun r5 =>
 (fa P 32 r2.1 0 r5.2).bind fun r6 =>
 (ld P 30 r6.1 r6.2).bind fun r7 =>
 (EV P 30 #[r5.1, r7.1] r7.2).bind fun r8 =>
 (uo P .not r8.1 r8.2).bind fun r9 =>
 cnd r9.1 (
 (vl (.bool false) r9.2).bind fun r10 =>
 some (r10.1, r10.2)) (
 (vl (.bool true) r9.2).bind fun r11 =>
 some (r11.1, r11.2)) := by kernel_rfl
noncomputable def laws_markDoneS_l1 (e : Env) (w : World) : Option (Value × World) := exC P (EV P) 22 50 (.loop (cA (cA (cB (cA (cB (bodyOf P 22))))))) e w (kBlock 0 (kSeq P (EV P) 22 50 (cB (cB (bodyOf P 22))) (kFn P (fnOf P 22))))
theorem laws_markDoneS_l1_eq (e : Env) (w : World) : laws_markDoneS_l1 e w =
 (vl (e 5) w).bind fun r1 =>
 (vl (e 0) r1.2).bind fun r2 =>
 (b_len P #[25] 3 #[r2.1] r2.2).bind fun r3 =>
 (bo P .lss 3 (.tmp 6) (.tmp 8) r1.1 r3.1 r3.2).bind fun r4 =>
 cnd r4.1 (
 (vl (e 0) r4.2).bind fun r5 =>
 (vl (e 5) r5.2).bind fun r6 =>
 (vl (e 1) r6.2).bind fun r7 =>
 (ia P 25 r5.1 r6.1 r7.2).bind fun r8 =>
 (fa P 66 r8.1 0 r8.2).bind fun r9 =>
 (st P 3 r9.1 r7.1 r9.2).bind fun r10 =>
 (vl (e 1) r10.2).bind fun r11 =>
 (bo P .add 3 (.tmp 17) (.const (.int .i64 1)) r11.1 (.int .i64 1) r11.2).bind fun r12 =>
 (vl r12.1 r12.2).bind fun r13 =>
 (vl (e 0) r13.2).bind fun r14 =>
 (vl (e 5) r14.2).bind fun r15 =>
 (vl r13.1 r15.2).bind fun r16 =>
 (ia P 25 r14.1 r15.1 r16.2).bind fun r17 =>
 (fa P 66 r17.1 1 r17.2).bind fun r18 =>
 (st P 3 r18.1 r16.1 r18.2).bind fun r19 =>
 (vl r13.1 r19.2).bind fun r20 =>
 (bo P .add 3 (.tmp 24) (.const (.int .i64 1)) r20.1 (.int .i64 1) r20.2).bind fun r21 =>
 (vl r21.1 r21.2).bind fun r22 =>
 (vl (e 0) r22.2).bind fun r23 =>
 (vl (e 5) r23.2).bind fun r24 =>
 (vl r22.1 r24.2).bind fun r25 =>
 (ia P 25 r23.1 r24.1 r25.2).bind fun r26 =>
 (fa P 66 r26.1 2 r26.2).bind fun r27 =>
 (st P 3 r27.1 r25.1 r27.2).bind fun r28 =>
 (vl r22.1 r28.2).bind fun r29 =>
 (bo P .add 3 (.tmp 31) (.const (.int .i64 1)) r29.1 (.int .i64 1) r29.2).bind fun r30 =>
 (vl r30.1 r30.2).bind fun r31 =>
 (vl (e 0) r31.2).bind fun r32 =>
 (vl (e 5) r32.2).bind fun r33 =>
 (vl r31.1 r33.2).bind fun r34 =>
 (ia P 25 r32.1 r33.1 r34.2).bind fun r35 =>
 (fa P 66 r35.1 3 r35.2).bind fun r36 =>
 (fa P 42 r36.1 0 r36.2).bind fun r37 =>
 (st P 3 r37.1 r34.1 r37.2).bind fun r38 =>
 (vl r31.1 r38.2).bind fun r39 =>
 (bo P .add 3 (.tmp 39) (.const (.int .i64 1)) r39.1 (.int .i64 1) r39.2).bind fun r40 =>
 (vl r40.1 r40.2).bind fun r41 =>
 (vl (e 0) r41.2).bind fun r42 =>
 (vl (e 5) r42.2).bind fun r43 =>
 (vl r41.1 r43.2).bind fun r44 =>
 (ia P 25 r42.1 r43.1 r44.2).bind fun r45 =>
 (fa P 66 r45.1 3 r45.2).bind fun r46 =>
 (fa P 42 r46.1 1 r46.2).bind fun r47 =>
 (st P 3 r47.1 r44.1 r47.2).bind fun r48 =>
 (vl r41.1 r48.2).bind fun r49 =>
 (bo P .add 3 (.tmp 47) (.const (.int .i64 1)) r49.1 (.int .i64 1) r49.2).bind fun r50 =>
 (vl r50.1 r50.2).bind fun r51 =>
 (vl (e 5) r51.2).bind fun r52 =>
 (bo P .add 3 (.tmp 10) (.const (.int .i64 1)) r52.1 (.int .i64 1) r52.2).bind fun r53 =>
 (vl r53.1 r53.2).bind fun r54 =>
 laws_markDoneS_l1 (ups e [(6, r1.1), (7, r2.1), (8, r3.1), (9, r4.1), (12, r5.1), (13, r6.1), (14, r7.1), (15, r8.1), (16, r9.1), (17, r11.1), (18, r12.1), (1, r13.1), (19, r14.1), (20, r15.1), (21, r16.1), (22, r17.1), (23, r18.1), (24, r20.1), (25, r21.1), (1, r22.1), (26, r23.1), (27, r24.1), (28, r25.1), (29, r26.1), (30, r27.1), (31, r29.1), (32, r30.1), (1, r31.1), (33, r32.1), (34, r33.1), (35, r34.1), (36, r35.1), (37, r36.1), (38, r37.1), (39, r39.1), (40, r40.1), (1, r41.1), (41, r42.1), (42, r43.1), (43, r44.1), (44, r45.1), (45, r46.1), (46, r47.1), (47, r49.1), (48, r50.1), (1, r51.1), (10, r52.1), (11, r53.1), (5, r54.1)]) r54.2) (
 (vl (e 1) r4.2).bind fun r55 =>
 (vl r55.1 r55.2).bind fun r56 =>
 some (r56.1, r56.2)) := (exC_loop P (EV P) 22 50 (cA (cA (cB (cA (cB (bodyOf P 22)))))) e w (kBlock 0 (kSeq P (EV P) 22 50 (cB (cB (bodyOf P 22))) (kFn P (fnOf P 22))))).trans (by kernel_rfl)
theorem laws_markDoneS_fn (x0 x1 : Value) (w : World) : fnC P (EV P) 22 #[x0, x1] w =
 (vl (.int .i64 0) w).bind fun r1 =>
 (vl (.int .i64 0) r1.2).bind fun r2 =>
 laws_markDoneS_l1 (ups (env0 #[x0, x1]) [(4, r1.1), (5, r2.1)]) r2.2 := by kernel_rfl
theorem laws_markPast_fn (x0 x1 : Value) (w : World) : fnC P (EV P) 23 #[x0, x1] w =
 (bx P 32 x0 w).bind fun r1 =>
 (vl (.int .i64 0) r1.2).bind fun r2 =>
 (fa P 32 r1.1 0 r2.2).bind fun r3 =>
 (ld P 30 r3.1 r3.2).bind fun r4 =>
 (vl x1 r4.2).bind fun r5 =>
 (EV P 31 #[r4.1, r5.1] r5.2).bind fun r6 =>
 (vl r6.1 r6.2).bind fun r7 =>
 (vl r7.1 r7.2).bind fun r8 =>
 (vl r8.1 r8.2).bind fun r9 =>
 some (r9.1, r9.2) := by kernel_rfl
theorem laws_heldPast_fn (x0 x1 : Value) (w : World) : fnC P (EV P) 24 #[x0, x1] w =
 (bx P 32 x0 w).bind fun r1 =>
 (vl (.int .i64 0) r1.2).bind fun r2 =>
 (fa P 32 r1.1 0 r2.2).bind fun r3 =>
 (ld P 30 r3.1 r3.2).bind fun r4 =>
 (vl x1 r4.2).bind fun r5 =>
 (EV P 32 #[r4.1, r5.1] r5.2).bind fun r6 =>
 (vl r6.1 r6.2).bind fun r7 =>
 (vl r7.1 r7.2).bind fun r8 =>
 (bo P .lss 3 (.tmp 9) (.const (.int .i64 0)) r8.1 (.int .i64 0) r8.2).bind fun r9 =>
 cnd r9.1 (
 (vl (.int .i64 (-1)) r9.2).bind fun r10 =>
 some (r10.1, r10.2)) (
 (vl r7.1 r9.2).bind fun r11 =>
 (vl r11.1 r11.2).bind fun r12 =>
 some (r12.1, r12.2)) := by kernel_rfl
theorem spec_CauseOf_fn (x0 x1 : Value) (w : World) : fnC P (EV P) 25 #[x0, x1] w =
 (bx P 42 x1 w).bind fun r1 =>
 (al P 32 r1.2).bind fun r2 =>
 (vl (.bool false) r2.2).bind fun r3 =>
 (vl x0 r3.2).bind fun r4 =>
 (EV P 52 #[r4.1] r4.2).bind fun r5 =>
 (uo P .not r5.1 r5.2).bind fun r6 =>
 cnd r6.1 (
 (bd P 32 #[] r6.2).bind fun r7 =>
 (st P 32 r2.1 r7.1 r7.2).bind fun r8 =>
 (vl (.bool false) r8.2).bind fun r9 =>
 ((ld P 32 r2.1 r9.2).bind fun r10 => ifP (r10.2 = r9.2) (some r10.1)).bind fun v11 =>
 some (.tuple #[v11, r9.1], r9.2)) (
 (vl x0 r6.2).bind fun r12 =>
 (ld P 42 r1.1 r12.2).bind fun r13 =>
 (EV P 58 #[r12.1, r13.1] r13.2).bind fun r14 =>
 (vl r14.1 r14.2).bind fun r15 =>
 (xt P r15.1 0 r15.2).bind fun r16 =>
 (xt P r15.1 1 r16.2).bind fun r17 =>
 (al P 32 r17.2).bind fun r18 =>
 (st P 32 r18.1 r16.1 r18.2).bind fun r19 =>
 (vl r17.1 r19.2).bind fun r20 =>
 (vl r20.1 r20.2).bind fun r21 =>
 (uo P .not r21.1 r21.2).bind fun r22 =>
 cnd r22.1 (
 (bd P 32 #[] r22.2).bind fun r23 =>
 (st P 32 r2.1 r23.1 r23.2).bind fun r24 =>
 (vl (.bool false) r24.2).bind fun r25 =>
 ((ld P 32 r2.1 r25.2).bind fun r26 => ifP (r26.2 = r25.2) (some r26.1)).bind fun v27 =>
 some (.tuple #[v27, r25.1], r25.2)) (
 (bs P 30 0 #[] r22.2).bind fun r28 =>
 (fa P 32 r18.1 0 r28.2).bind fun r29 =>
 (ld P 30 r29.1 r29.2).bind fun r30 =>
 (b_append P #[30, 30] 30 #[r28.1, r30.1] r30.2).bind fun r31 =>
 (bd P 32 #[(0, r31.1)] r31.2).bind fun r32 =>
 (st P 32 r2.1 r32.1 r32.2).bind fun r33 =>
 (vl (.bool true) r33.2).bind fun r34 =>
 ((ld P 32 r2.1 r34.2).bind fun r35 => ifP (r35.2 = r34.2) (some r35.1)).bind fun v36 =>
 some (.tuple #[v36, r34.1], r34.2))) := by kernel_rfl
theorem laws_toTag_fn (x0 : Value) (w : World) : fnC P (EV P) 26 #[x0] w =
 (bx P 39 x0 w).bind fun r1 =>
 (al P 42 r1.2).bind fun r2 =>
 (al P 42 r2.2).bind fun r3 =>
 (fa P 39 r1.1 0 r3.2).bind fun r4 =>
 (ld P 3 r4.1 r4.2).bind fun r5 =>
 (fa P 42 r3.1 0 r5.2).bind fun r6 =>
 (st P 3 r6.1 r5.1 r6.2).bind fun r7 =>
 (fa P 39 r1.1 1 r7.2).bind fun r8 =>
 (ld P 3 r8.1 r8.2).bind fun r9 =>
 (fa P 42 r3.1 1 r9.2).bind fun r10 =>
 (st P 3 r10.1 r9.1 r10.2).bind fun r11 =>
 (ld P 42 r3.1 r11.2).bind fun r12 =>
 (st P 42 r2.1 r12.1 r12.2).bind fun r13 =>
 ((ld P 42 r2.1 r13.2).bind fun r14 => ifP (r14.2 = r13.2) (some r14.1)).bind fun v15 =>
 some (v15, r13.2) := by kernel_rfl
theorem impl_CauseOf_fn (x0 x1 : Value) (w : World) : fnC P (EV P) 27 #[x0, x1] w =
 (bx P 42 x1 w).bind fun r1 =>
 (al P 32 r1.2).bind fun r2 =>
 (vl (.bool false) r2.2).bind fun r3 =>
 (vl x0 r3.2).bind fun r4 =>
 (EV P 53 #[r4.1] r4.2).bind fun r5 =>
 (vl r5.1 r5.2).bind fun r6 =>
 (xt P r6.1 0 r6.2).bind fun r7 =>
 (xt P r6.1 1 r7.2).bind fun r8 =>
 (vl r7.1 r8.2).bind fun r9 =>
 (vl r8.1 r9.2).bind fun r10 =>
 (vl r10.1 r10.2).bind fun r11 =>
 (uo P .not r11.1 r11.2).bind fun r12 =>
 cnd r12.1 (
 (bd P 32 #[] r12.2).bind fun r13 =>
 (st P 32 r2.1 r13.1 r13.2).bind fun r14 =>
 (vl (.bool false) r14.2).bind fun r15 =>
 ((ld P 32 r2.1 r15.2).bind fun r16 => ifP (r16.2 = r15.2) (some r16.1)).bind fun v17 =>
 some (.tuple #[v17, r15.1], r15.2)) (
 (vl r9.1 (dw r12.2)).bind fun r19 =>
 ifP (r19.2 = (dw r12.2)) <|
 (nk P r19.1 (dw r12.2)).bind fun r20 =>
 ifP (r20.2 = (dw r12.2)) <|
 (fa P 81 r20.1 1 (dw r12.2)).bind fun r21 =>
 ifP (r21.2 = (dw r12.2)) <|
 (ld P 79 r21.1 (dw r12.2)).bind fun r22 =>
 ifP (r22.2 = (dw r12.2)) <|
 (ld P 42 r1.1 (dw r12.2)).bind fun r23 =>
 ifP (r23.2 = (dw r12.2)) <|
 (lk P 79 r22.1 r23.1 true (dw r12.2)).bind fun r24 =>
 ifP (r24.2 = (dw r12.2)) <|
 (vl r24.1 (dw r12.2)).bind fun r25 =>
 ifP (r25.2 = (dw r12.2)) <|
 (xt P r25.1 0 (dw r12.2)).bind fun r26 =>
 ifP (r26.2 = (dw r12.2)) <|
 (xt P r25.1 1 (dw r12.2)).bind fun r27 =>
 ifP (r27.2 = (dw r12.2)) <|
 (al P 83 (dw r12.2)).bind fun r28 =>
 ifP (xt P r25.1 1 r28.2 = some (r27.1, r28.2) ∧ xt P r25.1 0 r28.2 = some (r26.1, r28.2) ∧ lk P 79 r22.1 r23.1 true r28.2 = some (r24.1, r28.2) ∧ ld P 42 r1.1 r28.2 = some (r23.1, r28.2) ∧ ld P 79 r21.1 r28.2 = some (r22.1, r28.2) ∧ fa P 81 r20.1 1 r28.2 = some (r21.1, r28.2) ∧ nk P r19.1 r28.2 = some (r20.1, r28.2) ∧ True) <|
 (st P 83 r28.1 r26.1 r28.2).bind fun r29 =>
 ifP (xt P r25.1 1 r29.2 = some (r27.1, r29.2) ∧ True ∧ True ∧ True ∧ True ∧ True ∧ True ∧ True) <|
 (vl r27.1 r29.2).bind fun r30 =>
 ifP (r30.2 = r29.2) <|
 (vl r30.1 r29.2).bind fun r31 =>
 (uo P .not r31.1 r31.2).bind fun r32 =>
 cnd r32.1 (
 (bd P 32 #[] r32.2).bind fun r33 =>
 (st P 32 r2.1 r33.1 r33.2).bind fun r34 =>
 (vl (.bool false) r34.2).bind fun r35 =>
 ((ld P 32 r2.1 r35.2).bind fun r36 => ifP (r36.2 = r35.2) (some r36.1)).bind fun v37 =>
 some (.tuple #[v37, r35.1], r35.2)) (
 (fa P 83 r28.1 2 r32.2).bind fun r38 =>
 (ld P 32 r38.1 r38.2).bind fun r39 =>
 (EV P 57 #[r39.1] r39.2).bind fun r40 =>
 (st P 32 r2.1 r40.1 r40.2).bind fun r41 =>
 (vl (.bool true) r41.2).bind fun r42 =>
 ((ld P 32 r2.1 r42.2).bind fun r43 => ifP (r43.2 = r42.2) (some r43.1)).bind fun v44 =>
 some (.tuple #[v44, r42.1], r42.2))) := by kernel_rfl
noncomputable def laws_eqTagS_l1 (e : Env) (w : World) : Option (Value × World) := exC P (EV P) 30 27 (.loop (cA (cA (cB (cA (cB (cB (bodyOf P 30)))))))) e w (kBlock 0 (kSeq P (EV P) 30 27 (cB (cB (cB (bodyOf P 30)))) (kFn P (fnOf P 30))))
theorem laws_eqTagS_l1_eq (e : Env) (w : World) : laws_eqTagS_l1 e w =
 (vl (e 5) w).bind fun r1 =>
 (vl (e 0) r1.2).bind fun r2 =>
 (b_len P #[30] 3 #[r2.1] r2.2).bind fun r3 =>
 (bo P .lss 3 (.tmp 11) (.tmp 13) r1.1 r3.1 r3.2).bind fun r4 =>
 cnd r4.1 (
 (vl (e 0) (dw r4.2)).bind fun r6 =>
 ifP (r6.2 = (dw r4.2)) <|
 (vl (e 5) (dw r4.2)).bind fun r7 =>
 ifP (r7.2 = (dw r4.2)) <|
 (ia P 30 r6.1 r7.1 (dw r4.2)).bind fun r8 =>
 ifP (r8.2 = (dw r4.2)) <|
 (ld P 42 r8.1 (dw r4.2)).bind fun r9 =>
 ifP (r9.2 = (dw r4.2)) <|
 (vl (e 1) (dw r4.2)).bind fun r10 =>
 ifP (r10.2 = (dw r4.2)) <|
 (vl (e 5) (dw r4.2)).bind fun r11 =>
 ifP (r11.2 = (dw r4.2)) <|
 (ia P 30 r10.1 r11.1 (dw r4.2)).bind fun r12 =>
 ifP (r12.2 = (dw r4.2)) <|
 (ld P 42 r12.1 (dw r4.2)).bind fun r13 =>
 ifP (r13.2 = (dw r4.2)) <|
 (EV P 63 #[r9.1, r13.1] (dw r4.2)).bind fun r14 =>
 ifP (True ∧ True ∧ True ∧ True ∧ True) <|
 (uo P .not r14.1 r14.2).bind fun r15 =>
 ifP (r15.2 = r14.2) <|
 cnd r15.1 (
 (vl (.bool false) r14.2).bind fun r16 =>
 some (r16.1, r16.2)) (
 (vl (e 5) r14.2).bind fun r17 =>
 (bo P .add 3 (.tmp 15) (.const (.int .i64 1)) r17.1 (.int .i64 1) r17.2).bind fun r18 =>
 (vl r18.1 r18.2).bind fun r19 =>
 laws_eqTagS_l1 (ups e [(11, r1.1), (12, r2.1), (13, r3.1), (14, r4.1), (17, r6.1), (18, r7.1), (19, r8.1), (20, r9.1), (21, r10.1), (22, r11.1), (23, r12.1), (24, r13.1), (25, r14.1), (26, r15.1), (15, r17.1), (16, r18.1), (5, r19.1)]) r19.2)) (
 (vl (.bool true) r4.2).bind fun r20 =>
 some (r20.1, r20.2)) := (exC_loop P (EV P) 30 27 (cA (cA (cB (cA (cB (cB (bodyOf P 30))))))) e w (kBlock 0 (kSeq P (EV P) 30 27 (cB (cB (cB (bodyOf P 30)))) (kFn P (fnOf P 30))))).trans (by kernel_rfl)
theorem laws_eqTagS_fn (x0 x1 : Value) (w : World) : fnC P (EV P) 30 #[x0, x1] w =
 (vl (.bool false) w).bind fun r1 =>
 (vl x0 r1.2).bind fun r2 =>
 (b_len P #[30] 3 #[r2.1] r2.2).bind fun r3 =>
 (vl x1 r3.2).bind fun r4 =>
 (b_len P #[30] 3 #[r4.1] r4.2).bind fun r5 =>
 (bo P .neq 3 (.tmp 7) (.tmp 9) r3.1 r5.1 r5.2).bind fun r6 =>
 cnd r6.1 (
 (vl (.bool false) r6.2).bind fun r7 =>
 some (r7.1, r7.2)) (
 (vl (.int .i64 0) r6.2).bind fun r8 =>
 laws_eqTagS_l1 (ups (env0 #[x0, x1]) [(4, r1.1), (6, r2.1), (7, r3.1), (8, r4.1), (9, r5.1), (10, r6.1), (5, r8.1)]) r8.2) := by kernel_rfl
noncomputable def laws_markTagS_l1 (e : Env) (w : World) : Option (Value × World) := exC P (EV P) 31 27 (.loop (cA (cA (cB (cA (cB (bodyOf P 31))))))) e w (kBlock 0 (kSeq P (EV P) 31 27 (cB (cB (bodyOf P 31))) (kFn P (fnOf P 31))))
theorem laws_markTagS_l1_eq (e : Env) (w : World) : laws_markTagS_l1 e w =
 (vl (e 5) w).bind fun r1 =>
 (vl (e 0) r1.2).bind fun r2 =>
 (b_len P #[30] 3 #[r2.1] r2.2).bind fun r3 =>
 (bo P .lss 3 (.tmp 6) (.tmp 8) r1.1 r3.1 r3.2).bind fun r4 =>
 cnd r4.1 (
 (vl (e 0) r4.2).bind fun r5 =>
 (vl (e 5) r5.2).bind fun r6 =>
 (vl (e 1) r6.2).bind fun r7 =>
 (ia P 30 r5.1 r6.1 r7.2).bind fun r8 =>
 (fa P 42 r8.1 0 r8.2).bind fun r9 =>
 (st P 3 r9.1 r7.1 r9.2).bind fun r10 =>
 (vl (e 1) r10.2).bind fun r11 =>
 (bo P .add 3 (.tmp 17) (.const (.int .i64 1)) r11.1 (.int .i64 1) r11.2).bind fun r12 =>
 (vl r12.1 r12.2).bind fun r13 =>
 (vl (e 0) r13.2).bind fun r14 =>
 (vl (e 5) r14.2).bind fun r15 =>
 (vl r13.1 r15.2).bind fun r16 =>
 (ia P 30 r14.1 r15.1 r16.2).bind fun r17 =>
 (fa P 42 r17.1 1 r17.2).bind fun r18 =>
 (st P 3 r18.1 r16.1 r18.2).bind fun r19 =>
 (vl r13.1 r19.2).bind fun r20 =>
 (bo P .add 3 (.tmp 24) (.const (.int .i64 1)) r20.1 (.int .i64 1) r20.2).bind fun r21 =>
 (vl r21.1 r21.2).bind fun r22 =>
 (vl (e 5) r22.2).bind fun r23 =>
 (bo P .add 3 (.tmp 10) (.const (.int .i64 1)) r23.1 (.int .i64 1) r23.2).bind fun r24 =>
 (vl r24.1 r24.2).bind fun r25 =>
 laws_markTagS_l1 (ups e [(6, r1.1), (7, r2.1), (8, r3.1), (9, r4.1), (12, r5.1), (13, r6.1), (14, r7.1), (15, r8.1), (16, r9.1), (17, r11.1), (18, r12.1), (1, r13.1), (19, r14.1), (20, r15.1), (21, r16.1), (22, r17.1), (23, r18.1), (24, r20.1), (25, r21.1), (1, r22.1), (10, r23.1), (11, r24.1), (5, r25.1)]) r25.2) (
 (vl (e 1) r4.2).bind fun r26 =>
 (vl r26.1 r26.2).bind fun r27 =>
 some (r27.1, r27.2)) := (exC_loop P (EV P) 31 27 (cA (cA (cB (cA (cB (bodyOf P 31)))))) e w (kBlock 0 (kSeq P (EV P) 31 27 (cB (cB (bodyOf P 31))) (kFn P (fnOf P 31))))).trans (by kernel_rfl)
theorem laws_markTagS_fn (x0 x1 : Value) (w : World) : fnC P (EV P) 31 #[x0, x1] w =
 (vl (.int .i64 0) w).bind fun r1 =>
 (vl (.int .i64 0) r1.2).bind fun r2 =>
 laws_markTagS_l1 (ups (env0 #[x0, x1]) [(4, r1.1), (5, r2.1)]) r2.2 := by kernel_rfl
noncomputable def laws_heldTagS_l1 (e : Env) (w : World) : Option (Value × World) := exC P (EV P) 32 31 (.loop (cA (cA (cB (cA (cB (bodyOf P 32))))))) e w (kBlock 0 (kSeq P (EV P) 32 31 (cB (cB (bodyOf P 32))) (kFn P (fnOf P 32))))
theorem laws_heldTagS_l1_eq (e : Env) (w : World) : laws_heldTagS_l1 e w =
 (vl (e 5) w).bind fun r1 =>
 (vl (e 0) r1.2).bind fun r2 =>
 (b_len P #[30] 3 #[r2.1] r2.2).bind fun r3 =>
 (bo P .lss 3 (.tmp 6) (.tmp 8) r1.1 r3.1 r3.2).bind fun r4 =>
 cnd r4.1 (
 (vl (e 0) r4.2).bind fun r5 =>
 (vl (e 5) r5.2).bind fun r6 =>
 (ia P 30 r5.1 r6.1 r6.2).bind fun r7 =>
 (fa P 42 r7.1 0 r7.2).bind fun r8 =>
 (ld P 3 r8.1 r8.2).bind fun r9 =>
 (vl (e 1) r9.2).bind fun r10 =>
 (bo P .neq 3 (.tmp 16) (.tmp 17) r9.1 r10.1 r10.2).bind fun r11 =>
 cnd r11.1 (
 (vl (.int .i64 (-1)) r11.2).bind fun r12 =>
 some (r12.1, r12.2)) (
 (vl (e 1) r11.2).bind fun r13 =>
 (bo P .add 3 (.tmp 19) (.const (.int .i64 1)) r13.1 (.int .i64 1) r13.2).bind fun r14 =>
 (vl r14.1 r14.2).bind fun r15 =>
 (vl (e 0) r15.2).bind fun r16 =>
 (vl (e 5) r16.2).bind fun r17 =>
 (ia P 30 r16.1 r17.1 r17.2).bind fun r18 =>
 (fa P 42 r18.1 1 r18.2).bind fun r19 =>
 (ld P 3 r19.1 r19.2).bind fun r20 =>
 (vl r15.1 r20.2).bind fun r21 =>
 (bo P .neq 3 (.tmp 25) (.tmp 26) r20.1 r21.1 r21.2).bind fun r22 =>
 cnd r22.1 (
 (vl (.int .i64 (-1)) r22.2).bind fun r23 =>
 some (r23.1, r23.2)) (
 (vl r15.1 r22.2).bind fun r24 =>
 (bo P .add 3 (.tmp 28) (.const (.int .i64 1)) r24.1 (.int .i64 1) r24.2).bind fun r25 =>
 (vl r25.1 r25.2).bind fun r26 =>
 (vl (e 5) r26.2).bind fun r27 =>
 (bo P .add 3 (.tmp 10) (.const (.int .i64 1)) r27.1 (.int .i64 1) r27.2).bind fun r28 =>
 (vl r28.1 r28.2).bind fun r29 =>
 laws_heldTagS_l1 (ups e [(6, r1.1), (7, r2.1), (8, r3.1), (9, r4.1), (12, r5.1), (13, r6.1), (14, r7.1), (15, r8.1), (16, r9.1), (17, r10.1), (18, r11.1), (19, r13.1), (20, r14.1), (1, r15.1), (21, r16.1), (22, r17.1), (23, r18.1), (24, r19.1), (25, r20.1), (26, r21.1), (27, r22.1), (28, r24.1), (29, r25.1), (1, r26.1), (10, r27.1), (11, r28.1), (5, r29.1)]) r29.2))) (
 (vl (e 1) r4.2).bind fun r30 =>
 (vl r30.1 r30.2).bind fun r31 =>
 some (r31.1, r31.2)) := (exC_loop P (EV P) 32 31 (cA (cA (cB (cA (cB (bodyOf P 32)))))) e w (kBlock 0 (kSeq P (EV P) 32 31 (cB (cB (bodyOf P 32))) (kFn P (fnOf P 32))))).trans (by kernel_rfl)
theorem laws_heldTagS_fn (x0 x1 : Value) (w : World) : fnC P (EV P) 32 #[x0, x1] w =
 (vl (.int .i64 0) w).bind fun r1 =>
 (vl (.int .i64 0) r1.2).bind fun r2 =>
 laws_heldTagS_l1 (ups (env0 #[x0, x1]) [(4, r1.1), (5, r2.1)]) r2.2 := by kernel_rfl
end Go.Proofs.Ytcafhepclddcaaa.X
