/- A part of the proof: an evaluator of the model, its laws, and contracts of functions; no condition. -/
import Derived.Test.YthicfemhpnnaaaaGreatEvT
set_option linter.unusedVariables false
set_option maxRecDepth 100000
namespace Go.Proofs.YthicfemhpnnaaaaGreat.X
open Go Go.Ev
noncomputable def laws_FnExactChainPut_a1 (e : Env) (w : World) : Option (Value × World) := exC P (EV P) 4 119 (cA (cB (cB (cB (cB (cB (cB (bodyOf P 4)))))))) e w (kSeq P (EV P) 4 119 (cB (cB (cB (cB (cB (cB (cB (bodyOf P 4)))))))) (kFn P (fnOf P 4)))
noncomputable def laws_FnExactChainPut_j1 (e : Env) (w : World) : Option (Value × World) := exC P (EV P) 4 119 (cB (cB (cB (cB (cB (cB (cB (bodyOf P 4)))))))) e w (kFn P (fnOf P 4))
noncomputable def laws_FnExactChainPut_a2 (e : Env) (w : World) : Option (Value × World) := exC P (EV P) 4 119 (cA (cB (cB (cB (cB (cB (cB (cB (cB (cB (cB (cB (cB (cB (cB (cB (cB (cB (cB (cB (cB (cB (cB (cB (bodyOf P 4))))))))))))))))))))))))) e w (kSeq P (EV P) 4 119 (cB (cB (cB (cB (cB (cB (cB (cB (cB (cB (cB (cB (cB (cB (cB (cB (cB (cB (cB (cB (cB (cB (cB (cB (bodyOf P 4))))))))))))))))))))))))) (kFn P (fnOf P 4)))
noncomputable def laws_FnExactChainPut_j2 (e : Env) (w : World) : Option (Value × World) := exC P (EV P) 4 119 (cB (cB (cB (cB (cB (cB (cB (cB (cB (cB (cB (cB (cB (cB (cB (cB (cB (cB (cB (cB (cB (cB (cB (cB (bodyOf P 4))))))))))))))))))))))))) e w (kFn P (fnOf P 4))
theorem laws_FnExactChainPut_a1_any (e : Env) (w : World) {Q : Value × World → Prop} (h :
 (Ret (ld P 51 (e 2) (dw w)) fun r1 => r1.2 = (dw w) ∧
 (Ret (ld P 57 (e 3) (dw w)) fun r2 => r2.2 = (dw w) ∧
 ((Ret (EV P 18 #[r1.1] (dw w)) fun r3 => (ld P 57 (e 3) r3.2 = some (r2.1, r3.2) ∧ True ∧ True) ∧
 ((Ret (EV P 19 #[r2.1] r3.2) fun r4 => (True ∧ True ∧ True) ∧
 ((Ret (EV P 17 #[r3.1, r4.1] r4.2) fun r5 => (True ∧ True ∧ True) ∧
 (Ret (vl r5.1 r5.2) fun r6 => r6.2 = r5.2 ∧
 (Ret (xt P r6.1 0 r5.2) fun r7 => r7.2 = r5.2 ∧
 (Ret (xt P r6.1 1 r5.2) fun r8 => r8.2 = r5.2 ∧
 ((Ret (al P 25 r5.2) fun r9 => (xt P r6.1 1 r9.2 = some (r8.1, r9.2) ∧ xt P r6.1 0 r9.2 = some (r7.1, r9.2) ∧ ld P 57 (e 3) r9.2 = some (r2.1, r9.2) ∧ ld P 51 (e 2) r9.2 = some (r1.1, r9.2) ∧ True) ∧
 ((Ret (st P 25 r9.1 r7.1 r9.2) fun r10 => (xt P r6.1 1 r10.2 = some (r8.1, r10.2) ∧ True ∧ True ∧ True ∧ True) ∧
 (Ret (vl r8.1 r10.2) fun r11 => r11.2 = r10.2 ∧
 Ret (laws_FnExactChainPut_j1 (ups e [(28, r1.1), (30, r2.1), (29, r3.1), (31, r4.1), (32, r5.1), (27, r6.1), (33, r7.1), (34, r8.1), (6, r9.1), (7, r11.1)]) r10.2) Q))))))))) ∧
 (Ret (al P 25 r4.2) fun r12 => (ld P 57 (e 3) r12.2 = some (r2.1, r12.2) ∧ ld P 51 (e 2) r12.2 = some (r1.1, r12.2) ∧ True) ∧
 ((Ret (EV P 17 #[r3.1, r4.1] r12.2) fun r13 => (True ∧ True ∧ True) ∧
 (Ret (vl r13.1 r13.2) fun r14 => r14.2 = r13.2 ∧
 (Ret (xt P r14.1 0 r13.2) fun r15 => r15.2 = r13.2 ∧
 (Ret (xt P r14.1 1 r13.2) fun r16 => r16.2 = r13.2 ∧
 ((Ret (st P 25 r12.1 r15.1 r13.2) fun r17 => (xt P r14.1 1 r17.2 = some (r16.1, r17.2) ∧ True ∧ True ∧ True ∧ True) ∧
 (Ret (vl r16.1 r17.2) fun r18 => r18.2 = r17.2 ∧
 Ret (laws_FnExactChainPut_j1 (ups e [(28, r1.1), (30, r2.1), (29, r3.1), (31, r4.1), (6, r12.1), (32, r13.1), (27, r14.1), (33, r15.1), (34, r16.1), (7, r18.1)]) r17.2) Q))))))))))) ∧
 (Ret (al P 25 r3.2) fun r19 => (ld P 57 (e 3) r19.2 = some (r2.1, r19.2) ∧ ld P 51 (e 2) r19.2 = some (r1.1, r19.2) ∧ True) ∧
 ((Ret (EV P 19 #[r2.1] r19.2) fun r20 => (True ∧ True ∧ True) ∧
 ((Ret (EV P 17 #[r3.1, r20.1] r20.2) fun r21 => (True ∧ True ∧ True) ∧
 (Ret (vl r21.1 r21.2) fun r22 => r22.2 = r21.2 ∧
 (Ret (xt P r22.1 0 r21.2) fun r23 => r23.2 = r21.2 ∧
 (Ret (xt P r22.1 1 r21.2) fun r24 => r24.2 = r21.2 ∧
 ((Ret (st P 25 r19.1 r23.1 r21.2) fun r25 => (xt P r22.1 1 r25.2 = some (r24.1, r25.2) ∧ True ∧ True ∧ True ∧ True) ∧
 (Ret (vl r24.1 r25.2) fun r26 => r26.2 = r25.2 ∧
 Ret (laws_FnExactChainPut_j1 (ups e [(28, r1.1), (30, r2.1), (29, r3.1), (6, r19.1), (31, r20.1), (32, r21.1), (27, r22.1), (33, r23.1), (34, r24.1), (7, r26.1)]) r25.2) Q))))))))))))) ∧
 (Ret (al P 25 (dw w)) fun r27 => (ld P 57 (e 3) r27.2 = some (r2.1, r27.2) ∧ ld P 51 (e 2) r27.2 = some (r1.1, r27.2) ∧ True) ∧
 ((Ret (EV P 18 #[r1.1] r27.2) fun r28 => (ld P 57 (e 3) r28.2 = some (r2.1, r28.2) ∧ True ∧ True) ∧
 ((Ret (EV P 19 #[r2.1] r28.2) fun r29 => (True ∧ True ∧ True) ∧
 ((Ret (EV P 17 #[r28.1, r29.1] r29.2) fun r30 => (True ∧ True ∧ True) ∧
 (Ret (vl r30.1 r30.2) fun r31 => r31.2 = r30.2 ∧
 (Ret (xt P r31.1 0 r30.2) fun r32 => r32.2 = r30.2 ∧
 (Ret (xt P r31.1 1 r30.2) fun r33 => r33.2 = r30.2 ∧
 ((Ret (st P 25 r27.1 r32.1 r30.2) fun r34 => (xt P r31.1 1 r34.2 = some (r33.1, r34.2) ∧ True ∧ True ∧ True ∧ True) ∧
 (Ret (vl r33.1 r34.2) fun r35 => r35.2 = r34.2 ∧
 Ret (laws_FnExactChainPut_j1 (ups e [(28, r1.1), (30, r2.1), (6, r27.1), (29, r28.1), (31, r29.1), (32, r30.1), (27, r31.1), (33, r32.1), (34, r33.1), (7, r35.1)]) r34.2) Q))))))))))))))))) : Ret (laws_FnExactChainPut_a1 e w) Q := exC_any (id := 8) (ops := opsOf (cA (cB (cB (cB (cB (cB (cB (bodyOf P 4))))))))) (by kernel_rfl) (by kernel_rfl) (Eq.mpr (by kernel_rfl) h)
theorem laws_FnExactChainPut_j1_eq (e : Env) (w : World) : laws_FnExactChainPut_j1 e w =
 (ld P 51 (e 2) w).bind fun r1 =>
 (EV P 18 #[r1.1] r1.2).bind fun r2 =>
 (al P 25 r2.2).bind fun r3 =>
 (st P 25 r3.1 r2.1 r3.2).bind fun r4 =>
 (ld P 57 (e 3) r4.2).bind fun r5 =>
 (EV P 19 #[r5.1] r5.2).bind fun r6 =>
 (al P 45 r6.2).bind fun r7 =>
 (st P 45 r7.1 r6.1 r7.2).bind fun r8 =>
 (ld P 25 r3.1 r8.2).bind fun r9 =>
 (ld P 45 r7.1 r9.2).bind fun r10 =>
 (EV P 20 #[r9.1, r10.1] r10.2).bind fun r11 =>
 (vl r11.1 r11.2).bind fun r12 =>
 (xt P r12.1 0 r12.2).bind fun r13 =>
 (xt P r12.1 1 r13.2).bind fun r14 =>
 (al P 25 r14.2).bind fun r15 =>
 (st P 25 r15.1 r13.1 r15.2).bind fun r16 =>
 (vl r14.1 r16.2).bind fun r17 =>
 (ld P 25 r15.1 r17.2).bind fun r18 =>
 (ld P 25 (e 6) r18.2).bind fun r19 =>
 (EV P 21 #[r18.1, r19.1] r19.2).bind fun r20 =>
 (uo P .not r20.1 r20.2).bind fun r21 =>
 (vl r21.1 r21.2).bind fun r22 =>
 (gif r22.1 false (vl r17.1 r22.2) r22.2).bind fun r23 =>
 (gif r22.1 false (vl (e 7) r23.2) r23.2).bind fun r24 =>
 (gif r22.1 false (bo P .neq 4 (.tmp 50) (.tmp 51) r23.1 r24.1 r24.2) r24.2).bind fun r25 =>
 (pickV r22.1 (.bool true) r25.1 r25.2).bind fun r26 =>
 cnd r26.1 (
 (vl (.bool false) r26.2).bind fun r27 =>
 some (r27.1, r27.2)) (
 (ld P 25 r3.1 (dw r26.2)).bind fun r29 =>
 ifP (r29.2 = (dw r26.2)) <|
 (ld P 51 (e 2) (dw r26.2)).bind fun r30 =>
 ifP (r30.2 = (dw r26.2)) <|
 (EV P 18 #[r30.1] (dw r26.2)).bind fun r31 =>
 ifP (True ∧ ld P 25 r3.1 r31.2 = some (r29.1, r31.2) ∧ True) <|
 (EV P 21 #[r29.1, r31.1] r31.2).bind fun r32 =>
 ifP (True ∧ True ∧ True) <|
 (uo P .not r32.1 r32.2).bind fun r33 =>
 ifP (r33.2 = r32.2) <|
 cnd r33.1 (
 (vl (.bool false) r32.2).bind fun r34 =>
 some (r34.1, r34.2)) (
 (ld P 45 r7.1 (dw r32.2)).bind fun r36 =>
 ifP (r36.2 = (dw r32.2)) <|
 (ld P 57 (e 3) (dw r32.2)).bind fun r37 =>
 ifP (r37.2 = (dw r32.2)) <|
 (EV P 19 #[r37.1] (dw r32.2)).bind fun r38 =>
 ifP (True ∧ ld P 45 r7.1 r38.2 = some (r36.1, r38.2) ∧ True) <|
 (EV P 22 #[r36.1, r38.1] r38.2).bind fun r39 =>
 ifP (True ∧ True ∧ True) <|
 (uo P .not r39.1 r39.2).bind fun r40 =>
 ifP (r40.2 = r39.2) <|
 cnd r40.1 (
 (vl (.bool false) r39.2).bind fun r41 =>
 some (r41.1, r41.2)) (
 (vl (.int .i64 1) r39.2).bind fun r42 =>
 (ld P 25 r3.1 r42.2).bind fun r43 =>
 (vl r42.1 r43.2).bind fun r44 =>
 (EV P 23 #[r43.1, r44.1] r44.2).bind fun r45 =>
 (vl r45.1 r45.2).bind fun r46 =>
 (ld P 45 r7.1 r46.2).bind fun r47 =>
 (vl r46.1 r47.2).bind fun r48 =>
 (EV P 24 #[r47.1, r48.1] r48.2).bind fun r49 =>
 (vl r49.1 r49.2).bind fun r50 =>
 (vl r50.1 r50.2).bind fun r51 =>
 (bo P .lss 3 (.tmp 70) (.const (.int .i64 0)) r51.1 (.int .i64 0) r51.2).bind fun r52 =>
 (vl r52.1 r52.2).bind fun r53 =>
 (gif r53.1 false (ld P 25 r15.1 r53.2) r53.2).bind fun r54 =>
 (gif r53.1 false (ld P 25 (e 6) r54.2) r54.2).bind fun r55 =>
 (gif r53.1 false (EV P 21 #[r54.1, r55.1] r55.2) r55.2).bind fun r56 =>
 (gif r53.1 false (uo P .not r56.1 r56.2) r56.2).bind fun r57 =>
 (pickV r53.1 (.bool true) r57.1 r57.2).bind fun r58 =>
 (vl r58.1 r58.2).bind fun r59 =>
 (gif r59.1 false (vl r17.1 r59.2) r59.2).bind fun r60 =>
 (gif r59.1 false (vl (e 7) r60.2) r60.2).bind fun r61 =>
 (gif r59.1 false (bo P .neq 4 (.tmp 79) (.tmp 80) r60.1 r61.1 r61.2) r61.2).bind fun r62 =>
 (pickV r59.1 (.bool true) r62.1 r62.2).bind fun r63 =>
 cnd r63.1 (
 (vl (.bool false) r63.2).bind fun r64 =>
 some (r64.1, r64.2)) (
 (vl (.int .i64 1) r63.2).bind fun r65 =>
 (ld P 25 r15.1 r65.2).bind fun r66 =>
 (vl r65.1 r66.2).bind fun r67 =>
 (EV P 23 #[r66.1, r67.1] r67.2).bind fun r68 =>
 (vl r68.1 r68.2).bind fun r69 =>
 (vl (.int .i64 1) r69.2).bind fun r70 =>
 (ld P 25 r15.1 r70.2).bind fun r71 =>
 (vl r70.1 r71.2).bind fun r72 =>
 (EV P 25 #[r71.1, r72.1] r72.2).bind fun r73 =>
 (vl r73.1 r73.2).bind fun r74 =>
 (vl r74.1 r74.2).bind fun r75 =>
 (bo P .lss 3 (.tmp 89) (.const (.int .i64 0)) r75.1 (.int .i64 0) r75.2).bind fun r76 =>
 cnd r76.1 (
 (vl (.bool false) r76.2).bind fun r77 =>
 some (r77.1, r77.2)) (
 (vl r74.1 r76.2).bind fun r78 =>
 (vl r69.1 r78.2).bind fun r79 =>
 (bo P .neq 3 (.tmp 91) (.tmp 92) r78.1 r79.1 r79.2).bind fun r80 =>
 cnd r80.1 (
 (vl (.bool false) r80.2).bind fun r81 =>
 some (r81.1, r81.2)) (
 laws_FnExactChainPut_a2 (ups e [(35, r1.1), (36, r2.1), (8, r3.1), (37, r5.1), (38, r6.1), (9, r7.1), (40, r9.1), (41, r10.1), (42, r11.1), (39, r12.1), (43, r13.1), (44, r14.1), (10, r15.1), (11, r17.1), (45, r18.1), (46, r19.1), (47, r20.1), (48, r21.1), (49, r22.1), (50, r23.1), (51, r24.1), (52, r25.1), (53, r26.1), (54, r29.1), (55, r30.1), (56, r31.1), (57, r32.1), (58, r33.1), (59, r36.1), (60, r37.1), (61, r38.1), (62, r39.1), (63, r40.1), (12, r42.1), (64, r43.1), (65, r44.1), (66, r45.1), (12, r46.1), (67, r47.1), (68, r48.1), (69, r49.1), (12, r50.1), (70, r51.1), (71, r52.1), (72, r53.1), (73, r54.1), (74, r55.1), (75, r56.1), (76, r57.1), (77, r58.1), (78, r59.1), (79, r60.1), (80, r61.1), (81, r62.1), (82, r63.1), (13, r65.1), (83, r66.1), (84, r67.1), (85, r68.1), (13, r69.1), (14, r70.1), (86, r71.1), (87, r72.1), (88, r73.1), (14, r74.1), (89, r75.1), (90, r76.1), (91, r78.1), (92, r79.1), (93, r80.1)]) r80.2)))))) := by kernel_rfl
theorem laws_FnExactChainPut_a2_any (e : Env) (w : World) {Q : Value × World → Prop} (h :
 (Ret (ld P 51 (e 2) (dw w)) fun r1 => r1.2 = (dw w) ∧
 (Ret (ld P 57 (e 3) (dw w)) fun r2 => r2.2 = (dw w) ∧
 ((Ret (EV P 18 #[r1.1] (dw w)) fun r3 => (ld P 57 (e 3) r3.2 = some (r2.1, r3.2) ∧ True ∧ True) ∧
 ((Ret (EV P 19 #[r2.1] r3.2) fun r4 => (True ∧ True ∧ True) ∧
 ((Ret (EV P 20 #[r3.1, r4.1] r4.2) fun r5 => (True ∧ True ∧ True) ∧
 (Ret (vl r5.1 r5.2) fun r6 => r6.2 = r5.2 ∧
 (Ret (xt P r6.1 0 r5.2) fun r7 => r7.2 = r5.2 ∧
 (Ret (xt P r6.1 1 r5.2) fun r8 => r8.2 = r5.2 ∧
 ((Ret (al P 25 r5.2) fun r9 => (xt P r6.1 1 r9.2 = some (r8.1, r9.2) ∧ xt P r6.1 0 r9.2 = some (r7.1, r9.2) ∧ ld P 57 (e 3) r9.2 = some (r2.1, r9.2) ∧ ld P 51 (e 2) r9.2 = some (r1.1, r9.2) ∧ True) ∧
 ((Ret (st P 25 r9.1 r7.1 r9.2) fun r10 => (xt P r6.1 1 r10.2 = some (r8.1, r10.2) ∧ True ∧ True ∧ True ∧ True) ∧
 (Ret (vl r8.1 r10.2) fun r11 => r11.2 = r10.2 ∧
 Ret (laws_FnExactChainPut_j2 (ups e [(95, r1.1), (97, r2.1), (96, r3.1), (98, r4.1), (99, r5.1), (94, r6.1), (100, r7.1), (101, r8.1), (15, r9.1), (16, r11.1)]) r10.2) Q))))))))) ∧
 (Ret (al P 25 r4.2) fun r12 => (ld P 57 (e 3) r12.2 = some (r2.1, r12.2) ∧ ld P 51 (e 2) r12.2 = some (r1.1, r12.2) ∧ True) ∧
 ((Ret (EV P 20 #[r3.1, r4.1] r12.2) fun r13 => (True ∧ True ∧ True) ∧
 (Ret (vl r13.1 r13.2) fun r14 => r14.2 = r13.2 ∧
 (Ret (xt P r14.1 0 r13.2) fun r15 => r15.2 = r13.2 ∧
 (Ret (xt P r14.1 1 r13.2) fun r16 => r16.2 = r13.2 ∧
 ((Ret (st P 25 r12.1 r15.1 r13.2) fun r17 => (xt P r14.1 1 r17.2 = some (r16.1, r17.2) ∧ True ∧ True ∧ True ∧ True) ∧
 (Ret (vl r16.1 r17.2) fun r18 => r18.2 = r17.2 ∧
 Ret (laws_FnExactChainPut_j2 (ups e [(95, r1.1), (97, r2.1), (96, r3.1), (98, r4.1), (15, r12.1), (99, r13.1), (94, r14.1), (100, r15.1), (101, r16.1), (16, r18.1)]) r17.2) Q))))))))))) ∧
 (Ret (al P 25 r3.2) fun r19 => (ld P 57 (e 3) r19.2 = some (r2.1, r19.2) ∧ ld P 51 (e 2) r19.2 = some (r1.1, r19.2) ∧ True) ∧
 ((Ret (EV P 19 #[r2.1] r19.2) fun r20 => (True ∧ True ∧ True) ∧
 ((Ret (EV P 20 #[r3.1, r20.1] r20.2) fun r21 => (True ∧ True ∧ True) ∧
 (Ret (vl r21.1 r21.2) fun r22 => r22.2 = r21.2 ∧
 (Ret (xt P r22.1 0 r21.2) fun r23 => r23.2 = r21.2 ∧
 (Ret (xt P r22.1 1 r21.2) fun r24 => r24.2 = r21.2 ∧
 ((Ret (st P 25 r19.1 r23.1 r21.2) fun r25 => (xt P r22.1 1 r25.2 = some (r24.1, r25.2) ∧ True ∧ True ∧ True ∧ True) ∧
 (Ret (vl r24.1 r25.2) fun r26 => r26.2 = r25.2 ∧
 Ret (laws_FnExactChainPut_j2 (ups e [(95, r1.1), (97, r2.1), (96, r3.1), (15, r19.1), (98, r20.1), (99, r21.1), (94, r22.1), (100, r23.1), (101, r24.1), (16, r26.1)]) r25.2) Q))))))))))))) ∧
 (Ret (al P 25 (dw w)) fun r27 => (ld P 57 (e 3) r27.2 = some (r2.1, r27.2) ∧ ld P 51 (e 2) r27.2 = some (r1.1, r27.2) ∧ True) ∧
 ((Ret (EV P 18 #[r1.1] r27.2) fun r28 => (ld P 57 (e 3) r28.2 = some (r2.1, r28.2) ∧ True ∧ True) ∧
 ((Ret (EV P 19 #[r2.1] r28.2) fun r29 => (True ∧ True ∧ True) ∧
 ((Ret (EV P 20 #[r28.1, r29.1] r29.2) fun r30 => (True ∧ True ∧ True) ∧
 (Ret (vl r30.1 r30.2) fun r31 => r31.2 = r30.2 ∧
 (Ret (xt P r31.1 0 r30.2) fun r32 => r32.2 = r30.2 ∧
 (Ret (xt P r31.1 1 r30.2) fun r33 => r33.2 = r30.2 ∧
 ((Ret (st P 25 r27.1 r32.1 r30.2) fun r34 => (xt P r31.1 1 r34.2 = some (r33.1, r34.2) ∧ True ∧ True ∧ True ∧ True) ∧
 (Ret (vl r33.1 r34.2) fun r35 => r35.2 = r34.2 ∧
 Ret (laws_FnExactChainPut_j2 (ups e [(95, r1.1), (97, r2.1), (15, r27.1), (96, r28.1), (98, r29.1), (99, r30.1), (94, r31.1), (100, r32.1), (101, r33.1), (16, r35.1)]) r34.2) Q))))))))))))))))) : Ret (laws_FnExactChainPut_a2 e w) Q := exC_any (id := 31) (ops := opsOf (cA (cB (cB (cB (cB (cB (cB (cB (cB (cB (cB (cB (cB (cB (cB (cB (cB (cB (cB (cB (cB (cB (cB (cB (bodyOf P 4)))))))))))))))))))))))))) (by kernel_rfl) (by kernel_rfl) (Eq.mpr (by kernel_rfl) h)
theorem laws_FnExactChainPut_j2_eq (e : Env) (w : World) : laws_FnExactChainPut_j2 e w =
 (ld P 25 (e 15) w).bind fun r1 =>
 (ld P 25 (e 6) r1.2).bind fun r2 =>
 (EV P 21 #[r1.1, r2.1] r2.2).bind fun r3 =>
 (uo P .not r3.1 r3.2).bind fun r4 =>
 (vl r4.1 r4.2).bind fun r5 =>
 (gif r5.1 false (vl (e 16) r5.2) r5.2).bind fun r6 =>
 (gif r5.1 false (vl (e 7) r6.2) r6.2).bind fun r7 =>
 (gif r5.1 false (bo P .neq 4 (.tmp 107) (.tmp 108) r6.1 r7.1 r7.2) r7.2).bind fun r8 =>
 (pickV r5.1 (.bool true) r8.1 r8.2).bind fun r9 =>
 cnd r9.1 (
 (vl (.bool false) r9.2).bind fun r10 =>
 some (r10.1, r10.2)) (
 (vl (.int .i64 1) r9.2).bind fun r11 =>
 (ld P 25 (e 10) r11.2).bind fun r12 =>
 (vl r11.1 r12.2).bind fun r13 =>
 (EV P 25 #[r12.1, r13.1] r13.2).bind fun r14 =>
 (vl r14.1 r14.2).bind fun r15 =>
 (vl r15.1 r15.2).bind fun r16 =>
 (bo P .lss 3 (.tmp 114) (.const (.int .i64 0)) r16.1 (.int .i64 0) r16.2).bind fun r17 =>
 cnd r17.1 (
 (vl (.bool false) r17.2).bind fun r18 =>
 some (r18.1, r18.2)) (
 (vl r15.1 r17.2).bind fun r19 =>
 (vl (e 13) r19.2).bind fun r20 =>
 (bo P .neq 3 (.tmp 116) (.tmp 117) r19.1 r20.1 r20.2).bind fun r21 =>
 cnd r21.1 (
 (vl (.bool false) r21.2).bind fun r22 =>
 some (r22.1, r22.2)) (
 (vl (.bool true) r21.2).bind fun r23 =>
 some (r23.1, r23.2)))) := by kernel_rfl
theorem laws_FnExactChainPut_fn (x0 x1 : Value) (w : World) : fnC P (EV P) 4 #[x0, x1] w =
 (bx P 51 x0 w).bind fun r1 =>
 (bx P 57 x1 r1.2).bind fun r2 =>
 (vl (.bool false) r2.2).bind fun r3 =>
 (vl (.int .i64 1048576) r3.2).bind fun r4 =>
 (ld P 51 r1.1 r4.2).bind fun r5 =>
 (vl r4.1 r5.2).bind fun r6 =>
 (EV P 15 #[r5.1, r6.1] r6.2).bind fun r7 =>
 (vl r7.1 r7.2).bind fun r8 =>
 (vl r8.1 r8.2).bind fun r9 =>
 (bo P .lss 3 (.tmp 20) (.const (.int .i64 0)) r9.1 (.int .i64 0) r9.2).bind fun r10 =>
 cnd r10.1 (
 (vl (.bool true) r10.2).bind fun r11 =>
 some (r11.1, r11.2)) (
 (ld P 57 r2.1 r10.2).bind fun r12 =>
 (vl r8.1 r12.2).bind fun r13 =>
 (EV P 16 #[r12.1, r13.1] r13.2).bind fun r14 =>
 (vl r14.1 r14.2).bind fun r15 =>
 (vl r15.1 r15.2).bind fun r16 =>
 (bo P .lss 3 (.tmp 25) (.const (.int .i64 0)) r16.1 (.int .i64 0) r16.2).bind fun r17 =>
 cnd r17.1 (
 (vl (.bool true) r17.2).bind fun r18 =>
 some (r18.1, r18.2)) (
 laws_FnExactChainPut_a1 (ups (env0 #[x0, x1]) [(2, r1.1), (3, r2.1), (4, r3.1), (5, r4.1), (17, r5.1), (18, r6.1), (19, r7.1), (5, r8.1), (20, r9.1), (21, r10.1), (22, r12.1), (23, r13.1), (24, r14.1), (5, r15.1), (25, r16.1), (26, r17.1)]) r17.2)) := by kernel_rfl
noncomputable def impl_ChainOk_l1 (e : Env) (w : World) : Option (Value × World) := exC P (EV P) 10 71 (.loop (cA (cA (cB (cA (cB (cB (bodyOf P 10)))))))) e w (kBlock 0 (kSeq P (EV P) 10 71 (cB (cB (cB (bodyOf P 10)))) (kFn P (fnOf P 10))))
noncomputable def impl_ChainOk_l2 (e : Env) (w : World) : Option (Value × World) := exC P (EV P) 10 71 (.loop (cA (cA (cB (cA (cB (cB (cB (bodyOf P 10))))))))) e w (kBlock 2 (kSeq P (EV P) 10 71 (cB (cB (cB (cB (bodyOf P 10))))) (kFn P (fnOf P 10))))
theorem impl_ChainOk_l1_eq (e : Env) (w : World) : impl_ChainOk_l1 e w =
 (bo P .lss 3 (.tmp 15) (.tmp 14) (e 15) (e 14) w).bind fun r1 =>
 cnd r1.1 (
 (ia P 23 (e 13) (e 15) r1.2).bind fun r2 =>
 (ld P 36 r2.1 r2.2).bind fun r3 =>
 (al P 36 r3.2).bind fun r4 =>
 (st P 36 r4.1 r3.1 r4.2).bind fun r5 =>
 (fa P 36 r4.1 0 r5.2).bind fun r6 =>
 (ld P 34 r6.1 r6.2).bind fun r7 =>
 (EV P 38 #[r7.1] r7.2).bind fun r8 =>
 (uo P .not r8.1 r8.2).bind fun r9 =>
 (vl r9.1 r9.2).bind fun r10 =>
 (gif r10.1 false (fa P 36 r4.1 1 r10.2) r10.2).bind fun r11 =>
 (gif r10.1 false (ld P 32 r11.1 r11.2) r11.2).bind fun r12 =>
 (gif r10.1 false (b_len P #[32] 3 #[r12.1] r12.2) r12.2).bind fun r13 =>
 (gif r10.1 false (bo P .gtr 3 (.tmp 26) (.const (.int .i64 6)) r13.1 (.int .i64 6) r13.2) r13.2).bind fun r14 =>
 (pickV r10.1 (.bool true) r14.1 r14.2).bind fun r15 =>
 (vl r15.1 r15.2).bind fun r16 =>
 (gif r16.1 false (fa P 36 r4.1 1 r16.2) r16.2).bind fun r17 =>
 (gif r16.1 false (ld P 32 r17.1 r17.2) r17.2).bind fun r18 =>
 (gif r16.1 false (EV P 39 #[r18.1, (.func (.func 40) #[] #[])] r18.2) r18.2).bind fun r19 =>
 (pickV r16.1 (.bool true) r19.1 r19.2).bind fun r20 =>
 cnd r20.1 (
 (vl (.bool false) r20.2).bind fun r21 =>
 some (r21.1, r21.2)) (
 (bo P .add 3 (.tmp 15) (.const (.int .i64 1)) (e 15) (.int .i64 1) r20.2).bind fun r22 =>
 (vl r22.1 r22.2).bind fun r23 =>
 impl_ChainOk_l1 (ups e [(16, r1.1), (17, r2.1), (18, r3.1), (4, r4.1), (19, r6.1), (20, r7.1), (21, r8.1), (22, r9.1), (23, r10.1), (24, r11.1), (25, r12.1), (26, r13.1), (27, r14.1), (28, r15.1), (29, r16.1), (30, r17.1), (31, r18.1), (32, r19.1), (33, r20.1), (34, r22.1), (15, r23.1)]) r23.2)) (
 (fa P 25 (e 1) 0 r1.2).bind fun r24 =>
 (ld P 23 r24.1 r24.2).bind fun r25 =>
 (b_len P #[23] 3 #[r25.1] r25.2).bind fun r26 =>
 (vl (.int .i64 0) r26.2).bind fun r27 =>
 impl_ChainOk_l2 (ups e [(16, r1.1), (35, r24.1), (36, r25.1), (37, r26.1), (38, r27.1)]) r27.2) := (exC_loop P (EV P) 10 71 (cA (cA (cB (cA (cB (cB (bodyOf P 10))))))) e w (kBlock 0 (kSeq P (EV P) 10 71 (cB (cB (cB (bodyOf P 10)))) (kFn P (fnOf P 10))))).trans (by kernel_rfl)
theorem impl_ChainOk_l2_eq (e : Env) (w : World) : impl_ChainOk_l2 e w =
 (bo P .lss 3 (.tmp 38) (.tmp 37) (e 38) (e 37) w).bind fun r1 =>
 cnd r1.1 (
 (vl (e 38) r1.2).bind fun r2 =>
 (ia P 23 (e 36) (e 38) r2.2).bind fun r3 =>
 (ld P 36 r3.1 r3.2).bind fun r4 =>
 (al P 36 r4.2).bind fun r5 =>
 (vl r2.1 r5.2).bind fun r6 =>
 (st P 36 r5.1 r4.1 r6.2).bind fun r7 =>
 (ld P 25 (e 1) (dw r7.2)).bind fun r9 =>
 ifP (r9.2 = (dw r7.2)) <|
 (vl r6.1 (dw r7.2)).bind fun r10 =>
 ifP (r10.2 = (dw r7.2)) <|
 (EV P 42 #[r9.1, r10.1] (dw r7.2)).bind fun r11 =>
 ifP (True ∧ True) <|
 (vl r11.1 r11.2).bind fun r12 =>
 ifP (r12.2 = r11.2) <|
 (gif r12.1 true (fa P 36 r5.1 1 r11.2) r11.2).bind fun r13 =>
 ifP (r13.2 = r11.2) <|
 (gif r12.1 true (ld P 32 r13.1 r11.2) r11.2).bind fun r14 =>
 ifP (r14.2 = r11.2) <|
 (gif r12.1 true (b_len P #[32] 3 #[r14.1] r11.2) r11.2).bind fun r15 =>
 ifP (r15.2 = r11.2) <|
 (gif r12.1 true (bo P .gtr 3 (.tmp 49) (.const (.int .i64 0)) r15.1 (.int .i64 0) r11.2) r11.2).bind fun r16 =>
 ifP (r16.2 = r11.2) <|
 (pickV r12.1 r16.1 (.bool false) r11.2).bind fun r17 =>
 ifP (r17.2 = r11.2) <|
 (vl r17.1 r11.2).bind fun r18 =>
 ifP (r18.2 = r11.2) <|
 (gif r18.1 false (ld P 25 (e 1) r11.2) r11.2).bind fun r19 =>
 ifP (r19.2 = r11.2) <|
 (gif r18.1 false (vl r6.1 r11.2) r11.2).bind fun r20 =>
 ifP (r20.2 = r11.2) <|
 (gif r18.1 false (EV P 42 #[r19.1, r20.1] r11.2) r11.2).bind fun r21 =>
 ifP (True ∧ True ∧ True ∧ True ∧ True ∧ True ∧ True) <|
 (gif r18.1 false (uo P .not r21.1 r21.2) r21.2).bind fun r22 =>
 ifP (r22.2 = r21.2) <|
 (gif r18.1 false (vl r22.1 r21.2) r21.2).bind fun r23 =>
 ifP (r23.2 = r21.2) <|
 (gif r23.1 true (ld P 36 r5.1 r21.2) r21.2).bind fun r24 =>
 ifP (r24.2 = r21.2) <|
 (gif r23.1 true (fa P 25 (e 1) 0 r21.2) r21.2).bind fun r25 =>
 ifP (r25.2 = r21.2) <|
 (gif r23.1 true (ld P 23 r25.1 r21.2) r21.2).bind fun r26 =>
 ifP (r26.2 = r21.2) <|
 (gif r23.1 true (vl r6.1 r21.2) r21.2).bind fun r27 =>
 ifP (r27.2 = r21.2) <|
 (gif r23.1 true (bo P .add 3 (.tmp 61) (.const (.int .i64 1)) r27.1 (.int .i64 1) r21.2) r21.2).bind fun r28 =>
 ifP (r28.2 = r21.2) <|
 (gif r23.1 true (ia P 23 r26.1 r28.1 r21.2) r21.2).bind fun r29 =>
 ifP (r29.2 = r21.2) <|
 (gif r23.1 true (fa P 36 r29.1 0 r21.2) r21.2).bind fun r30 =>
 ifP (r30.2 = r21.2) <|
 (gif r23.1 true (ld P 34 r30.1 r21.2) r21.2).bind fun r31 =>
 ifP (r31.2 = r21.2) <|
 (gif r23.1 true (EV P 43 #[r24.1, r31.1] r21.2) r21.2).bind fun r32 =>
 ifP (True ∧ True ∧ True ∧ True ∧ True ∧ True ∧ True ∧ True ∧ True ∧ True ∧ True ∧ True ∧ True ∧ True ∧ True) <|
 (gif r23.1 true (uo P .not r32.1 r32.2) r32.2).bind fun r33 =>
 ifP (r33.2 = r32.2) <|
 (gif r18.1 false (pickV r23.1 r33.1 (.bool false) r32.2) r32.2).bind fun r34 =>
 ifP (r34.2 = r32.2) <|
 (pickV r18.1 (.bool true) r34.1 r32.2).bind fun r35 =>
 ifP (r35.2 = r32.2) <|
 cnd r35.1 (
 (vl (.bool false) r32.2).bind fun r36 =>
 some (r36.1, r36.2)) (
 (bo P .add 3 (.tmp 38) (.const (.int .i64 1)) (e 38) (.int .i64 1) r32.2).bind fun r37 =>
 (vl r37.1 r37.2).bind fun r38 =>
 impl_ChainOk_l2 (ups e [(39, r1.1), (40, r2.1), (41, r3.1), (42, r4.1), (6, r5.1), (5, r6.1), (43, r9.1), (44, r10.1), (45, r11.1), (46, r12.1), (47, r13.1), (48, r14.1), (49, r15.1), (50, r16.1), (51, r17.1), (52, r18.1), (53, r19.1), (54, r20.1), (55, r21.1), (56, r22.1), (57, r23.1), (58, r24.1), (59, r25.1), (60, r26.1), (61, r27.1), (62, r28.1), (63, r29.1), (64, r30.1), (65, r31.1), (66, r32.1), (67, r33.1), (68, r34.1), (69, r35.1), (70, r37.1), (38, r38.1)]) r38.2)) (
 (vl (.bool true) r1.2).bind fun r39 =>
 some (r39.1, r39.2)) := (exC_loop P (EV P) 10 71 (cA (cA (cB (cA (cB (cB (cB (bodyOf P 10)))))))) e w (kBlock 2 (kSeq P (EV P) 10 71 (cB (cB (cB (cB (bodyOf P 10))))) (kFn P (fnOf P 10))))).trans (by kernel_rfl)
theorem impl_ChainOk_fn (x0 : Value) (w : World) : fnC P (EV P) 10 #[x0] w =
 (bx P 25 x0 w).bind fun r1 =>
 (vl (.bool false) r1.2).bind fun r2 =>
 (fa P 25 r1.1 0 r2.2).bind fun r3 =>
 (ld P 23 r3.1 r3.2).bind fun r4 =>
 (b_len P #[23] 3 #[r4.1] r4.2).bind fun r5 =>
 (EV P 37 #[r5.1] r5.2).bind fun r6 =>
 (uo P .not r6.1 r6.2).bind fun r7 =>
 cnd r7.1 (
 (vl (.bool false) r7.2).bind fun r8 =>
 some (r8.1, r8.2)) (
 (fa P 25 r1.1 0 r7.2).bind fun r9 =>
 (ld P 23 r9.1 r9.2).bind fun r10 =>
 (b_len P #[23] 3 #[r10.1] r10.2).bind fun r11 =>
 (vl (.int .i64 0) r11.2).bind fun r12 =>
 impl_ChainOk_l1 (ups (env0 #[x0]) [(1, r1.1), (2, r2.1), (7, r3.1), (8, r4.1), (9, r5.1), (10, r6.1), (11, r7.1), (12, r9.1), (13, r10.1), (14, r11.1), (15, r12.1)]) r12.2) := by kernel_rfl
theorem laws_szChain_fn (x0 x1 : Value) (w : World) : fnC P (EV P) 15 #[x0, x1] w =
 (bx P 51 x0 w).bind fun r1 =>
 (vl (.int .i64 0) r1.2).bind fun r2 =>
 (fa P 51 r1.1 0 r2.2).bind fun r3 =>
 (ld P 49 r3.1 r3.2).bind fun r4 =>
 (vl x1 r4.2).bind fun r5 =>
 (EV P 52 #[r4.1, r5.1] r5.2).bind fun r6 =>
 (vl r6.1 r6.2).bind fun r7 =>
 (vl r7.1 r7.2).bind fun r8 =>
 (bo P .lss 3 (.tmp 9) (.const (.int .i64 0)) r8.1 (.int .i64 0) r8.2).bind fun r9 =>
 cnd r9.1 (
 (vl (.int .i64 (-1)) r9.2).bind fun r10 =>
 some (r10.1, r10.2)) (
 (vl r7.1 r9.2).bind fun r11 =>
 (vl r11.1 r11.2).bind fun r12 =>
 some (r12.1, r12.2)) := by kernel_rfl
theorem laws_szVer_fn (x0 x1 : Value) (w : World) : fnC P (EV P) 16 #[x0, x1] w =
 (bx P 57 x0 w).bind fun r1 =>
 (vl (.int .i64 0) r1.2).bind fun r2 =>
 (fa P 57 r1.1 2 r2.2).bind fun r3 =>
 (ld P 55 r3.1 r3.2).bind fun r4 =>
 (vl x1 r4.2).bind fun r5 =>
 (EV P 53 #[r4.1, r5.1] r5.2).bind fun r6 =>
 (vl r6.1 r6.2).bind fun r7 =>
 (vl r7.1 r7.2).bind fun r8 =>
 (bo P .lss 3 (.tmp 9) (.const (.int .i64 0)) r8.1 (.int .i64 0) r8.2).bind fun r9 =>
 cnd r9.1 (
 (vl (.int .i64 (-1)) r9.2).bind fun r10 =>
 some (r10.1, r10.2)) (
 (vl r7.1 r9.2).bind fun r11 =>
 (fa P 57 r1.1 3 r11.2).bind fun r12 =>
 (ld P 9 r12.1 r12.2).bind fun r13 =>
 (b_len P #[9] 3 #[r13.1] r13.2).bind fun r14 =>
 (bo P .sub 3 (.tmp 11) (.tmp 14) r11.1 r14.1 r14.2).bind fun r15 =>
 (vl r15.1 r15.2).bind fun r16 =>
 (vl r16.1 r16.2).bind fun r17 =>
 (bo P .lss 3 (.tmp 16) (.const (.int .i64 0)) r17.1 (.int .i64 0) r17.2).bind fun r18 =>
 cnd r18.1 (
 (vl (.int .i64 (-1)) r18.2).bind fun r19 =>
 some (r19.1, r19.2)) (
 (vl r16.1 r18.2).bind fun r20 =>
 (vl r20.1 r20.2).bind fun r21 =>
 some (r21.1, r21.2))) := by kernel_rfl
theorem spec_ChainPut_fn (x0 x1 : Value) (w : World) : fnC P (EV P) 17 #[x0, x1] w =
 (bx P 25 x0 w).bind fun r1 =>
 (bx P 45 x1 r1.2).bind fun r2 =>
 (al P 25 r2.2).bind fun r3 =>
 (vl (.bool false) r3.2).bind fun r4 =>
 (ld P 25 r1.1 r4.2).bind fun r5 =>
 (EV P 32 #[r5.1] r5.2).bind fun r6 =>
 (uo P .not r6.1 r6.2).bind fun r7 =>
 (vl r7.1 r7.2).bind fun r8 =>
 (gif r8.1 false (ld P 45 r2.1 r8.2) r8.2).bind fun r9 =>
 (gif r8.1 false (EV P 54 #[r9.1] r9.2) r9.2).bind fun r10 =>
 (gif r8.1 false (uo P .not r10.1 r10.2) r10.2).bind fun r11 =>
 (pickV r8.1 (.bool true) r11.1 r11.2).bind fun r12 =>
 cnd r12.1 (
 (bd P 25 #[] r12.2).bind fun r13 =>
 (st P 25 r3.1 r13.1 r13.2).bind fun r14 =>
 (vl (.bool false) r14.2).bind fun r15 =>
 ((ld P 25 r3.1 r15.2).bind fun r16 => ifP (r16.2 = r15.2) (some r16.1)).bind fun v17 =>
 some (.tuple #[v17, r15.1], r15.2)) (
 (ld P 25 r1.1 r12.2).bind fun r18 =>
 (EV P 55 #[r18.1] r18.2).bind fun r19 =>
 (uo P .not r19.1 r19.2).bind fun r20 =>
 cnd r20.1 (
 (ld P 25 r1.1 r20.2).bind fun r21 =>
 (EV P 34 #[r21.1] r21.2).bind fun r22 =>
 (st P 25 r3.1 r22.1 r22.2).bind fun r23 =>
 (vl (.bool false) r23.2).bind fun r24 =>
 ((ld P 25 r3.1 r24.2).bind fun r25 => ifP (r25.2 = r24.2) (some r25.1)).bind fun v26 =>
 some (.tuple #[v26, r24.1], r24.2)) (
 (ld P 25 r1.1 (dw r20.2)).bind fun r28 =>
 ifP (r28.2 = (dw r20.2)) <|
 (ld P 45 r2.1 (dw r20.2)).bind fun r29 =>
 ifP (r29.2 = (dw r20.2)) <|
 (EV P 34 #[r28.1] (dw r20.2)).bind fun r30 =>
 ifP (ld P 45 r2.1 r30.2 = some (r29.1, r30.2) ∧ True ∧ True) <|
 (EV P 56 #[r30.1, (.int .i64 0), r29.1] r30.2).bind fun r31 =>
 ifP (True ∧ True ∧ True) <|
 (st P 25 r3.1 r31.1 r31.2).bind fun r32 =>
 ifP (True ∧ True ∧ True) <|
 (vl (.bool true) r32.2).bind fun r33 =>
 ifP (r33.2 = r32.2) <|
 ((ld P 25 r3.1 r32.2).bind fun r34 => ifP (r34.2 = r32.2) (some r34.1)).bind fun v35 =>
 some (.tuple #[v35, r33.1], r32.2))) := by kernel_rfl
theorem laws_toChain_fn (x0 : Value) (w : World) : fnC P (EV P) 18 #[x0] w =
 (bx P 51 x0 w).bind fun r1 =>
 (al P 25 r1.2).bind fun r2 =>
 (al P 25 r2.2).bind fun r3 =>
 (fa P 51 r1.1 0 r3.2).bind fun r4 =>
 (ld P 49 r4.1 r4.2).bind fun r5 =>
 (EV P 57 #[r5.1] r5.2).bind fun r6 =>
 (fa P 25 r3.1 0 r6.2).bind fun r7 =>
 (st P 23 r7.1 r6.1 r7.2).bind fun r8 =>
 (ld P 25 r3.1 r8.2).bind fun r9 =>
 (st P 25 r2.1 r9.1 r9.2).bind fun r10 =>
 ((ld P 25 r2.1 r10.2).bind fun r11 => ifP (r11.2 = r10.2) (some r11.1)).bind fun v12 =>
 some (v12, r10.2) := by kernel_rfl
theorem laws_toVer_fn (x0 : Value) (w : World) : fnC P (EV P) 19 #[x0] w =
 (bx P 57 x0 w).bind fun r1 =>
 (al P 45 r1.2).bind fun r2 =>
 (al P 45 r2.2).bind fun r3 =>
 (fa P 57 r1.1 0 r3.2).bind fun r4 =>
 (ld P 3 r4.1 r4.2).bind fun r5 =>
 (fa P 45 r3.1 0 r5.2).bind fun r6 =>
 (st P 3 r6.1 r5.1 r6.2).bind fun r7 =>
 (fa P 57 r1.1 1 r7.2).bind fun r8 =>
 (ld P 52 r8.1 r8.2).bind fun r9 =>
 (EV P 58 #[r9.1] r9.2).bind fun r10 =>
 (fa P 45 r3.1 1 r10.2).bind fun r11 =>
 (st P 40 r11.1 r10.1 r11.2).bind fun r12 =>
 (fa P 57 r1.1 2 r12.2).bind fun r13 =>
 (ld P 55 r13.1 r13.2).bind fun r14 =>
 (EV P 59 #[r14.1] r14.2).bind fun r15 =>
 (fa P 45 r3.1 2 r15.2).bind fun r16 =>
 (st P 43 r16.1 r15.1 r16.2).bind fun r17 =>
 (fa P 57 r1.1 3 r17.2).bind fun r18 =>
 (ld P 9 r18.1 r18.2).bind fun r19 =>
 (fa P 45 r3.1 3 r19.2).bind fun r20 =>
 (st P 9 r20.1 r19.1 r20.2).bind fun r21 =>
 (fa P 57 r1.1 4 r21.2).bind fun r22 =>
 (ld P 4 r22.1 r22.2).bind fun r23 =>
 (fa P 45 r3.1 4 r23.2).bind fun r24 =>
 (st P 4 r24.1 r23.1 r24.2).bind fun r25 =>
 (ld P 45 r3.1 r25.2).bind fun r26 =>
 (st P 45 r2.1 r26.1 r26.2).bind fun r27 =>
 ((ld P 45 r2.1 r27.2).bind fun r28 => ifP (r28.2 = r27.2) (some r28.1)).bind fun v29 =>
 some (v29, r27.2) := by kernel_rfl
theorem impl_ChainPut_fn (x0 x1 : Value) (w : World) : fnC P (EV P) 20 #[x0, x1] w =
 (bx P 25 x0 w).bind fun r1 =>
 (bx P 45 x1 r1.2).bind fun r2 =>
 (al P 25 r2.2).bind fun r3 =>
 (vl (.bool false) r3.2).bind fun r4 =>
 (ld P 25 r1.1 r4.2).bind fun r5 =>
 (EV P 10 #[r5.1] r5.2).bind fun r6 =>
 (uo P .not r6.1 r6.2).bind fun r7 =>
 (vl r7.1 r7.2).bind fun r8 =>
 (gif r8.1 false (ld P 45 r2.1 r8.2) r8.2).bind fun r9 =>
 (gif r8.1 false (EV P 41 #[r9.1] r9.2) r9.2).bind fun r10 =>
 (gif r8.1 false (uo P .not r10.1 r10.2) r10.2).bind fun r11 =>
 (pickV r8.1 (.bool true) r11.1 r11.2).bind fun r12 =>
 cnd r12.1 (
 (bd P 25 #[] r12.2).bind fun r13 =>
 (st P 25 r3.1 r13.1 r13.2).bind fun r14 =>
 (vl (.bool false) r14.2).bind fun r15 =>
 ((ld P 25 r3.1 r15.2).bind fun r16 => ifP (r16.2 = r15.2) (some r16.1)).bind fun v17 =>
 some (.tuple #[v17, r15.1], r15.2)) (
 (ld P 25 r1.1 r12.2).bind fun r18 =>
 (vl (.func (Go.Fn.func 60) #[] #[r2.1]) r18.2).bind fun r19 =>
 (EV P 29 #[r18.1, r19.1] r19.2).bind fun r20 =>
 (xt P r20.1 0 r20.2).bind fun r21 =>
 (xt P r20.1 1 r21.2).bind fun r22 =>
 (st P 25 r3.1 r21.1 r22.2).bind fun r23 =>
 (vl r22.1 r23.2).bind fun r24 =>
 ((ld P 25 r3.1 r24.2).bind fun r25 => ifP (r25.2 = r24.2) (some r25.1)).bind fun v26 =>
 some (.tuple #[v26, r24.1], r24.2)) := by kernel_rfl
theorem laws_eqChain_fn (x0 x1 : Value) (w : World) : fnC P (EV P) 21 #[x0, x1] w =
 (bx P 25 x0 w).bind fun r1 =>
 (bx P 25 x1 r1.2).bind fun r2 =>
 (vl (.bool false) r2.2).bind fun r3 =>
 (fa P 25 r1.1 0 r3.2).bind fun r4 =>
 (ld P 23 r4.1 r4.2).bind fun r5 =>
 (fa P 25 r2.1 0 r5.2).bind fun r6 =>
 (ld P 23 r6.1 r6.2).bind fun r7 =>
 (EV P 62 #[r5.1, r7.1] r7.2).bind fun r8 =>
 (uo P .not r8.1 r8.2).bind fun r9 =>
 cnd r9.1 (
 (vl (.bool false) r9.2).bind fun r10 =>
 some (r10.1, r10.2)) (
 (vl (.bool true) r9.2).bind fun r11 =>
 some (r11.1, r11.2)) := by kernel_rfl
theorem laws_eqVer_fn (x0 x1 : Value) (w : World) : fnC P (EV P) 22 #[x0, x1] w =
 (bx P 45 x0 w).bind fun r1 =>
 (bx P 45 x1 r1.2).bind fun r2 =>
 (vl (.bool false) r2.2).bind fun r3 =>
 (fa P 45 r1.1 0 r3.2).bind fun r4 =>
 (ld P 3 r4.1 r4.2).bind fun r5 =>
 (fa P 45 r2.1 0 r5.2).bind fun r6 =>
 (ld P 3 r6.1 r6.2).bind fun r7 =>
 (bo P .neq 3 (.tmp 6) (.tmp 8) r5.1 r7.1 r7.2).bind fun r8 =>
 cnd r8.1 (
 (vl (.bool false) r8.2).bind fun r9 =>
 some (r9.1, r9.2)) (
 (fa P 45 r1.1 1 r8.2).bind fun r10 =>
 (ld P 40 r10.1 r10.2).bind fun r11 =>
 (fa P 45 r2.1 1 r11.2).bind fun r12 =>
 (ld P 40 r12.1 r12.2).bind fun r13 =>
 (EV P 63 #[r11.1, r13.1] r13.2).bind fun r14 =>
 (uo P .not r14.1 r14.2).bind fun r15 =>
 cnd r15.1 (
 (vl (.bool false) r15.2).bind fun r16 =>
 some (r16.1, r16.2)) (
 (fa P 45 r1.1 2 r15.2).bind fun r17 =>
 (ld P 43 r17.1 r17.2).bind fun r18 =>
 (fa P 45 r2.1 2 r18.2).bind fun r19 =>
 (ld P 43 r19.1 r19.2).bind fun r20 =>
 (EV P 64 #[r18.1, r20.1] r20.2).bind fun r21 =>
 (uo P .not r21.1 r21.2).bind fun r22 =>
 cnd r22.1 (
 (vl (.bool false) r22.2).bind fun r23 =>
 some (r23.1, r23.2)) (
 (fa P 45 r1.1 3 r22.2).bind fun r24 =>
 (ld P 9 r24.1 r24.2).bind fun r25 =>
 (fa P 45 r2.1 3 r25.2).bind fun r26 =>
 (ld P 9 r26.1 r26.2).bind fun r27 =>
 (bo P .neq 9 (.tmp 23) (.tmp 25) r25.1 r27.1 r27.2).bind fun r28 =>
 cnd r28.1 (
 (vl (.bool false) r28.2).bind fun r29 =>
 some (r29.1, r29.2)) (
 (fa P 45 r1.1 4 r28.2).bind fun r30 =>
 (ld P 4 r30.1 r30.2).bind fun r31 =>
 (fa P 45 r2.1 4 r31.2).bind fun r32 =>
 (ld P 4 r32.1 r32.2).bind fun r33 =>
 (bo P .neq 4 (.tmp 28) (.tmp 30) r31.1 r33.1 r33.2).bind fun r34 =>
 cnd r34.1 (
 (vl (.bool false) r34.2).bind fun r35 =>
 some (r35.1, r35.2)) (
 (vl (.bool true) r34.2).bind fun r36 =>
 some (r36.1, r36.2)))))) := by kernel_rfl
theorem laws_markChain_fn (x0 x1 : Value) (w : World) : fnC P (EV P) 23 #[x0, x1] w =
 (bx P 25 x0 w).bind fun r1 =>
 (vl (.int .i64 0) r1.2).bind fun r2 =>
 (fa P 25 r1.1 0 r2.2).bind fun r3 =>
 (ld P 23 r3.1 r3.2).bind fun r4 =>
 (vl x1 r4.2).bind fun r5 =>
 (EV P 65 #[r4.1, r5.1] r5.2).bind fun r6 =>
 (vl r6.1 r6.2).bind fun r7 =>
 (vl r7.1 r7.2).bind fun r8 =>
 (vl r8.1 r8.2).bind fun r9 =>
 some (r9.1, r9.2) := by kernel_rfl
theorem laws_markVer_fn (x0 x1 : Value) (w : World) : fnC P (EV P) 24 #[x0, x1] w =
 (bx P 45 x0 w).bind fun r1 =>
 (vl (.int .i64 0) r1.2).bind fun r2 =>
 (fa P 45 r1.1 2 r2.2).bind fun r3 =>
 (ld P 43 r3.1 r3.2).bind fun r4 =>
 (vl x1 r4.2).bind fun r5 =>
 (EV P 66 #[r4.1, r5.1] r5.2).bind fun r6 =>
 (vl r6.1 r6.2).bind fun r7 =>
 (vl r7.1 r7.2).bind fun r8 =>
 (vl r8.1 r8.2).bind fun r9 =>
 some (r9.1, r9.2) := by kernel_rfl
theorem laws_heldChain_fn (x0 x1 : Value) (w : World) : fnC P (EV P) 25 #[x0, x1] w =
 (bx P 25 x0 w).bind fun r1 =>
 (vl (.int .i64 0) r1.2).bind fun r2 =>
 (fa P 25 r1.1 0 r2.2).bind fun r3 =>
 (ld P 23 r3.1 r3.2).bind fun r4 =>
 (vl x1 r4.2).bind fun r5 =>
 (EV P 67 #[r4.1, r5.1] r5.2).bind fun r6 =>
 (vl r6.1 r6.2).bind fun r7 =>
 (vl r7.1 r7.2).bind fun r8 =>
 (bo P .lss 3 (.tmp 9) (.const (.int .i64 0)) r8.1 (.int .i64 0) r8.2).bind fun r9 =>
 cnd r9.1 (
 (vl (.int .i64 (-1)) r9.2).bind fun r10 =>
 some (r10.1, r10.2)) (
 (vl r7.1 r9.2).bind fun r11 =>
 (vl r11.1 r11.2).bind fun r12 =>
 some (r12.1, r12.2)) := by kernel_rfl
theorem impl_tried_fn (x0 x1 : Value) (w : World) : fnC P (EV P) 29 #[x0, x1] w =
 (bx P 25 x0 w).bind fun r1 =>
 (al P 25 r1.2).bind fun r2 =>
 (vl (.bool false) r2.2).bind fun r3 =>
 (ld P 25 r1.1 r3.2).bind fun r4 =>
 (EV P 72 #[r4.1] r4.2).bind fun r5 =>
 (al P 25 r5.2).bind fun r6 =>
 (st P 25 r6.1 r5.1 r6.2).bind fun r7 =>
 (vl x1 r7.2).bind fun r8 =>
 (clo P r8.1 #[r6.1] r8.2).bind fun r9 =>
 (vl r9.1 r9.2).bind fun r10 =>
 (ld P 25 r6.1 r10.2).bind fun r11 =>
 (vl r10.1 r11.2).bind fun r12 =>
 (st P 25 r2.1 r11.1 r12.2).bind fun r13 =>
 (vl r12.1 r13.2).bind fun r14 =>
 ((ld P 25 r2.1 r14.2).bind fun r15 => ifP (r15.2 = r14.2) (some r15.1)).bind fun v16 =>
 some (.tuple #[v16, r14.1], r14.2) := by kernel_rfl
noncomputable def spec_l3Ok_l1 (e : Env) (w : World) : Option (Value × World) := exC P (EV P) 32 90 (.loop (cA (cA (cB (cA (cB (bodyOf P 32))))))) e w (kBlock 0 (kSeq P (EV P) 32 90 (cB (cB (bodyOf P 32))) (kFn P (fnOf P 32))))
noncomputable def spec_l3Ok_l2 (e : Env) (w : World) : Option (Value × World) := exC P (EV P) 32 90 (.loop (cA (cA (cB (cA (cB (cA (cA (cB (cA (cA (cB (cA (cB (bodyOf P 32))))))))))))))) e w (kBlock 2 (kSeq P (EV P) 32 90 (cB (cB (cA (cA (cB (cA (cA (cB (cA (cB (bodyOf P 32))))))))))) (kBlock 1 (kSeq P (EV P) 32 90 (cB (cB (cA (cA (cB (cA (cB (bodyOf P 32)))))))) (kLoop P (EV P) 32 90 (cA (cA (cB (cA (cB (bodyOf P 32)))))) (kBlock 0 (kSeq P (EV P) 32 90 (cB (cB (bodyOf P 32))) (kFn P (fnOf P 32)))))))))
theorem spec_l3Ok_l1_eq (e : Env) (w : World) : spec_l3Ok_l1 e w =
 (vl (e 3) w).bind fun r1 =>
 (fa P 25 (e 1) 0 r1.2).bind fun r2 =>
 (ld P 23 r2.1 r2.2).bind fun r3 =>
 (b_len P #[23] 3 #[r3.1] r3.2).bind fun r4 =>
 (bo P .lss 3 (.tmp 6) (.tmp 9) r1.1 r4.1 r4.2).bind fun r5 =>
 cnd r5.1 (
 (fa P 25 (e 1) 0 r5.2).bind fun r6 =>
 (ld P 23 r6.1 r6.2).bind fun r7 =>
 (vl (e 3) r7.2).bind fun r8 =>
 (ia P 23 r7.1 r8.1 r8.2).bind fun r9 =>
 (fa P 36 r9.1 0 r9.2).bind fun r10 =>
 (ld P 34 r10.1 r10.2).bind fun r11 =>
 (EV P 78 #[r11.1] r11.2).bind fun r12 =>
 (uo P .not r12.1 r12.2).bind fun r13 =>
 (vl r13.1 r13.2).bind fun r14 =>
 (gif r14.1 false (fa P 25 (e 1) 0 r14.2) r14.2).bind fun r15 =>
 (gif r14.1 false (ld P 23 r15.1 r15.2) r15.2).bind fun r16 =>
 (gif r14.1 false (vl (e 3) r16.2) r16.2).bind fun r17 =>
 (gif r14.1 false (ia P 23 r16.1 r17.1 r17.2) r17.2).bind fun r18 =>
 (gif r14.1 false (fa P 36 r18.1 1 r18.2) r18.2).bind fun r19 =>
 (gif r14.1 false (ld P 32 r19.1 r19.2) r19.2).bind fun r20 =>
 (gif r14.1 false (b_len P #[32] 3 #[r20.1] r20.2) r20.2).bind fun r21 =>
 (gif r14.1 false (bo P .gtr 3 (.tmp 28) (.const (.int .i64 6)) r21.1 (.int .i64 6) r21.2) r21.2).bind fun r22 =>
 (pickV r14.1 (.bool true) r22.1 r22.2).bind fun r23 =>
 cnd r23.1 (
 (vl (.bool false) r23.2).bind fun r24 =>
 some (r24.1, r24.2)) (
 (vl (.int .i64 0) r23.2).bind fun r25 =>
 spec_l3Ok_l2 (ups e [(6, r1.1), (7, r2.1), (8, r3.1), (9, r4.1), (10, r5.1), (13, r6.1), (14, r7.1), (15, r8.1), (16, r9.1), (17, r10.1), (18, r11.1), (19, r12.1), (20, r13.1), (21, r14.1), (22, r15.1), (23, r16.1), (24, r17.1), (25, r18.1), (26, r19.1), (27, r20.1), (28, r21.1), (29, r22.1), (30, r23.1), (4, r25.1)]) r25.2)) (
 (fa P 25 (e 1) 0 r5.2).bind fun r26 =>
 (ld P 23 r26.1 r26.2).bind fun r27 =>
 (b_len P #[23] 3 #[r27.1] r27.2).bind fun r28 =>
 (vl r28.1 r28.2).bind fun r29 =>
 (vl r29.1 r29.2).bind fun r30 =>
 (EV P 80 #[r30.1, (.int .i64 1), (.int .i64 4)] r30.2).bind fun r31 =>
 (vl r31.1 r31.2).bind fun r32 =>
 (gif r32.1 true (fa P 25 (e 1) 0 r32.2) r32.2).bind fun r33 =>
 (gif r32.1 true (ld P 23 r33.1 r33.2) r33.2).bind fun r34 =>
 (gif r32.1 true (vl r29.1 r34.2) r34.2).bind fun r35 =>
 (gif r32.1 true (bo P .sub 3 (.tmp 82) (.const (.int .i64 1)) r35.1 (.int .i64 1) r35.2) r35.2).bind fun r36 =>
 (gif r32.1 true (ia P 23 r34.1 r36.1 r36.2) r36.2).bind fun r37 =>
 (gif r32.1 true (fa P 36 r37.1 1 r37.2) r37.2).bind fun r38 =>
 (gif r32.1 true (ld P 32 r38.1 r38.2) r38.2).bind fun r39 =>
 (gif r32.1 true (b_len P #[32] 3 #[r39.1] r39.2) r39.2).bind fun r40 =>
 (gif r32.1 true (bo P .eql 3 (.tmp 87) (.const (.int .i64 0)) r40.1 (.int .i64 0) r40.2) r40.2).bind fun r41 =>
 (pickV r32.1 r41.1 (.bool false) r41.2).bind fun r42 =>
 (vl r42.1 r42.2).bind fun r43 =>
 some (r43.1, r43.2)) := (exC_loop P (EV P) 32 90 (cA (cA (cB (cA (cB (bodyOf P 32)))))) e w (kBlock 0 (kSeq P (EV P) 32 90 (cB (cB (bodyOf P 32))) (kFn P (fnOf P 32))))).trans (by kernel_rfl)
theorem spec_l3Ok_l2_eq (e : Env) (w : World) : spec_l3Ok_l2 e w =
 (vl (e 4) w).bind fun r1 =>
 (fa P 25 (e 1) 0 r1.2).bind fun r2 =>
 (ld P 23 r2.1 r2.2).bind fun r3 =>
 (vl (e 3) r3.2).bind fun r4 =>
 (ia P 23 r3.1 r4.1 r4.2).bind fun r5 =>
 (fa P 36 r5.1 1 r5.2).bind fun r6 =>
 (ld P 32 r6.1 r6.2).bind fun r7 =>
 (b_len P #[32] 3 #[r7.1] r7.2).bind fun r8 =>
 (bo P .lss 3 (.tmp 31) (.tmp 38) r1.1 r8.1 r8.2).bind fun r9 =>
 cnd r9.1 (
 (fa P 25 (e 1) 0 r9.2).bind fun r10 =>
 (ld P 23 r10.1 r10.2).bind fun r11 =>
 (vl (e 3) r11.2).bind fun r12 =>
 (ia P 23 r11.1 r12.1 r12.2).bind fun r13 =>
 (fa P 36 r13.1 1 r13.2).bind fun r14 =>
 (ld P 32 r14.1 r14.2).bind fun r15 =>
 (vl (e 4) r15.2).bind fun r16 =>
 (ia P 32 r15.1 r16.1 r16.2).bind fun r17 =>
 (ld P 45 r17.1 r17.2).bind fun r18 =>
 (EV P 54 #[r18.1] r18.2).bind fun r19 =>
 (uo P .not r19.1 r19.2).bind fun r20 =>
 cnd r20.1 (
 (vl (.bool false) r20.2).bind fun r21 =>
 some (r21.1, r21.2)) (
 (vl (e 4) r20.2).bind fun r22 =>
 (bo P .add 3 (.tmp 40) (.const (.int .i64 1)) r22.1 (.int .i64 1) r22.2).bind fun r23 =>
 (vl r23.1 r23.2).bind fun r24 =>
 spec_l3Ok_l2 (ups e [(31, r1.1), (32, r2.1), (33, r3.1), (34, r4.1), (35, r5.1), (36, r6.1), (37, r7.1), (38, r8.1), (39, r9.1), (42, r10.1), (43, r11.1), (44, r12.1), (45, r13.1), (46, r14.1), (47, r15.1), (48, r16.1), (49, r17.1), (50, r18.1), (51, r19.1), (52, r20.1), (40, r22.1), (41, r23.1), (4, r24.1)]) r24.2)) (
 (vl (e 3) (dw r9.2)).bind fun r26 =>
 ifP (r26.2 = (dw r9.2)) <|
 (bo P .add 3 (.tmp 53) (.const (.int .i64 1)) r26.1 (.int .i64 1) (dw r9.2)).bind fun r27 =>
 ifP (r27.2 = (dw r9.2)) <|
 (fa P 25 (e 1) 0 (dw r9.2)).bind fun r28 =>
 ifP (r28.2 = (dw r9.2)) <|
 (ld P 23 r28.1 (dw r9.2)).bind fun r29 =>
 ifP (r29.2 = (dw r9.2)) <|
 (b_len P #[23] 3 #[r29.1] (dw r9.2)).bind fun r30 =>
 ifP (r30.2 = (dw r9.2)) <|
 (bo P .lss 3 (.tmp 54) (.tmp 57) r27.1 r30.1 (dw r9.2)).bind fun r31 =>
 ifP (r31.2 = (dw r9.2)) <|
 (vl r31.1 (dw r9.2)).bind fun r32 =>
 ifP (r32.2 = (dw r9.2)) <|
 (gif r32.1 true (fa P 25 (e 1) 0 (dw r9.2)) (dw r9.2)).bind fun r33 =>
 ifP (r33.2 = (dw r9.2)) <|
 (gif r32.1 true (ld P 23 r33.1 (dw r9.2)) (dw r9.2)).bind fun r34 =>
 ifP (r34.2 = (dw r9.2)) <|
 (gif r32.1 true (vl (e 3) (dw r9.2)) (dw r9.2)).bind fun r35 =>
 ifP (r35.2 = (dw r9.2)) <|
 (gif r32.1 true (ia P 23 r34.1 r35.1 (dw r9.2)) (dw r9.2)).bind fun r36 =>
 ifP (r36.2 = (dw r9.2)) <|
 (gif r32.1 true (ld P 36 r36.1 (dw r9.2)) (dw r9.2)).bind fun r37 =>
 ifP (r37.2 = (dw r9.2)) <|
 (gif r32.1 true (fa P 25 (e 1) 0 (dw r9.2)) (dw r9.2)).bind fun r38 =>
 ifP (r38.2 = (dw r9.2)) <|
 (gif r32.1 true (ld P 23 r38.1 (dw r9.2)) (dw r9.2)).bind fun r39 =>
 ifP (r39.2 = (dw r9.2)) <|
 (gif r32.1 true (vl (e 3) (dw r9.2)) (dw r9.2)).bind fun r40 =>
 ifP (r40.2 = (dw r9.2)) <|
 (gif r32.1 true (bo P .add 3 (.tmp 67) (.const (.int .i64 1)) r40.1 (.int .i64 1) (dw r9.2)) (dw r9.2)).bind fun r41 =>
 ifP (r41.2 = (dw r9.2)) <|
 (gif r32.1 true (ia P 23 r39.1 r41.1 (dw r9.2)) (dw r9.2)).bind fun r42 =>
 ifP (r42.2 = (dw r9.2)) <|
 (gif r32.1 true (ld P 36 r42.1 (dw r9.2)) (dw r9.2)).bind fun r43 =>
 ifP (r43.2 = (dw r9.2)) <|
 (gif r32.1 true (EV P 79 #[r37.1, r43.1] (dw r9.2)) (dw r9.2)).bind fun r44 =>
 ifP (True ∧ True ∧ True ∧ True ∧ True ∧ True ∧ True ∧ True ∧ True ∧ True ∧ True ∧ True ∧ True ∧ True ∧ True) <|
 (gif r32.1 true (uo P .not r44.1 r44.2) r44.2).bind fun r45 =>
 ifP (r45.2 = r44.2) <|
 (pickV r32.1 r45.1 (.bool false) r44.2).bind fun r46 =>
 ifP (r46.2 = r44.2) <|
 cnd r46.1 (
 (vl (.bool false) r44.2).bind fun r47 =>
 some (r47.1, r47.2)) (
 (vl (e 3) r44.2).bind fun r48 =>
 (bo P .add 3 (.tmp 11) (.const (.int .i64 1)) r48.1 (.int .i64 1) r48.2).bind fun r49 =>
 (vl r49.1 r49.2).bind fun r50 =>
 spec_l3Ok_l1 (ups e [(31, r1.1), (32, r2.1), (33, r3.1), (34, r4.1), (35, r5.1), (36, r6.1), (37, r7.1), (38, r8.1), (39, r9.1), (53, r26.1), (54, r27.1), (55, r28.1), (56, r29.1), (57, r30.1), (58, r31.1), (59, r32.1), (60, r33.1), (61, r34.1), (62, r35.1), (63, r36.1), (64, r37.1), (65, r38.1), (66, r39.1), (67, r40.1), (68, r41.1), (69, r42.1), (70, r43.1), (71, r44.1), (72, r45.1), (73, r46.1), (11, r48.1), (12, r49.1), (3, r50.1)]) r50.2)) := (exC_loop P (EV P) 32 90 (cA (cA (cB (cA (cB (cA (cA (cB (cA (cA (cB (cA (cB (bodyOf P 32)))))))))))))) e w (kBlock 2 (kSeq P (EV P) 32 90 (cB (cB (cA (cA (cB (cA (cA (cB (cA (cB (bodyOf P 32))))))))))) (kBlock 1 (kSeq P (EV P) 32 90 (cB (cB (cA (cA (cB (cA (cB (bodyOf P 32)))))))) (kLoop P (EV P) 32 90 (cA (cA (cB (cA (cB (bodyOf P 32)))))) (kBlock 0 (kSeq P (EV P) 32 90 (cB (cB (bodyOf P 32))) (kFn P (fnOf P 32)))))))))).trans (by kernel_rfl)
theorem spec_l3Ok_fn (x0 : Value) (w : World) : fnC P (EV P) 32 #[x0] w =
 (bx P 25 x0 w).bind fun r1 =>
 (vl (.bool false) r1.2).bind fun r2 =>
 (vl (.int .i64 0) r2.2).bind fun r3 =>
 spec_l3Ok_l1 (ups (env0 #[x0]) [(1, r1.1), (2, r2.1), (3, r3.1)]) r3.2 := by kernel_rfl
end Go.Proofs.YthicfemhpnnaaaaGreat.X
