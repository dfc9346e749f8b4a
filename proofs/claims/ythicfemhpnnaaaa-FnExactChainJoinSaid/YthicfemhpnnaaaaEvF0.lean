/- A part of the proof: an evaluator of the model, its laws, and contracts of functions; no condition. -/
import Derived.Test.YthicfemhpnnaaaaEvT
set_option linter.unusedVariables false
set_option maxRecDepth 100000
namespace Go.Proofs.Ythicfemhpnnaaaa.X
open Go Go.Ev
theorem laws_FnExactChainJoin_fn (x0 : Value) (w : World) : fnC P (EV P) 10 #[x0] w =
 (bx P 41 x0 w).bind fun r1 =>
 (vl (.bool false) r1.2).bind fun r2 =>
 (vl (.int .i64 1048576) r2.2).bind fun r3 =>
 (ld P 41 r1.1 r3.2).bind fun r4 =>
 (vl r3.1 r4.2).bind fun r5 =>
 (EV P 22 #[r4.1, r5.1] r5.2).bind fun r6 =>
 (vl r6.1 r6.2).bind fun r7 =>
 (vl r7.1 r7.2).bind fun r8 =>
 (bo P .lss 3 (.tmp 17) (.const (.int .i64 0)) r8.1 (.int .i64 0) r8.2).bind fun r9 =>
 cnd r9.1 (
 (vl (.bool true) r9.2).bind fun r10 =>
 some (r10.1, r10.2)) (
 (ld P 41 r1.1 r9.2).bind fun r11 =>
 (EV P 24 #[r11.1] r11.2).bind fun r12 =>
 (EV P 43 #[r12.1] r12.2).bind fun r13 =>
 (vl r13.1 r13.2).bind fun r14 =>
 (xt P r14.1 0 r14.2).bind fun r15 =>
 (xt P r14.1 1 r15.2).bind fun r16 =>
 (al P 24 r16.2).bind fun r17 =>
 (st P 24 r17.1 r15.1 r17.2).bind fun r18 =>
 (vl r16.1 r18.2).bind fun r19 =>
 (ld P 41 r1.1 r19.2).bind fun r20 =>
 (EV P 24 #[r20.1] r20.2).bind fun r21 =>
 (al P 24 r21.2).bind fun r22 =>
 (st P 24 r22.1 r21.1 r22.2).bind fun r23 =>
 (ld P 24 r22.1 r23.2).bind fun r24 =>
 (EV P 44 #[r24.1] r24.2).bind fun r25 =>
 (vl r25.1 r25.2).bind fun r26 =>
 (xt P r26.1 0 r26.2).bind fun r27 =>
 (xt P r26.1 1 r27.2).bind fun r28 =>
 (al P 24 r28.2).bind fun r29 =>
 (st P 24 r29.1 r27.1 r29.2).bind fun r30 =>
 (vl r28.1 r30.2).bind fun r31 =>
 (ld P 24 r29.1 r31.2).bind fun r32 =>
 (ld P 24 r17.1 r32.2).bind fun r33 =>
 (EV P 13 #[r32.1, r33.1] r33.2).bind fun r34 =>
 (uo P .not r34.1 r34.2).bind fun r35 =>
 (vl r35.1 r35.2).bind fun r36 =>
 (gif r36.1 false (vl r31.1 r36.2) r36.2).bind fun r37 =>
 (gif r36.1 false (vl r19.1 r37.2) r37.2).bind fun r38 =>
 (gif r36.1 false (bo P .neq 4 (.tmp 37) (.tmp 38) r37.1 r38.1 r38.2) r38.2).bind fun r39 =>
 (pickV r36.1 (.bool true) r39.1 r39.2).bind fun r40 =>
 cnd r40.1 (
 (vl (.bool false) r40.2).bind fun r41 =>
 some (r41.1, r41.2)) (
 (ld P 24 r22.1 (dw r40.2)).bind fun r43 =>
 ifP (r43.2 = (dw r40.2)) <|
 (ld P 41 r1.1 (dw r40.2)).bind fun r44 =>
 ifP (r44.2 = (dw r40.2)) <|
 (EV P 24 #[r44.1] (dw r40.2)).bind fun r45 =>
 ifP (True ∧ ld P 24 r22.1 r45.2 = some (r43.1, r45.2) ∧ True) <|
 (EV P 13 #[r43.1, r45.1] r45.2).bind fun r46 =>
 ifP (True ∧ True ∧ True) <|
 (uo P .not r46.1 r46.2).bind fun r47 =>
 ifP (r47.2 = r46.2) <|
 cnd r47.1 (
 (vl (.bool false) r46.2).bind fun r48 =>
 some (r48.1, r48.2)) (
 (vl (.int .i64 1) r46.2).bind fun r49 =>
 (ld P 24 r22.1 r49.2).bind fun r50 =>
 (vl r49.1 r50.2).bind fun r51 =>
 (EV P 14 #[r50.1, r51.1] r51.2).bind fun r52 =>
 (vl r52.1 r52.2).bind fun r53 =>
 (vl r53.1 r53.2).bind fun r54 =>
 (bo P .lss 3 (.tmp 49) (.const (.int .i64 0)) r54.1 (.int .i64 0) r54.2).bind fun r55 =>
 (vl r55.1 r55.2).bind fun r56 =>
 (gif r56.1 false (ld P 24 r29.1 r56.2) r56.2).bind fun r57 =>
 (gif r56.1 false (ld P 24 r17.1 r57.2) r57.2).bind fun r58 =>
 (gif r56.1 false (EV P 13 #[r57.1, r58.1] r58.2) r58.2).bind fun r59 =>
 (gif r56.1 false (uo P .not r59.1 r59.2) r59.2).bind fun r60 =>
 (pickV r56.1 (.bool true) r60.1 r60.2).bind fun r61 =>
 (vl r61.1 r61.2).bind fun r62 =>
 (gif r62.1 false (vl r31.1 r62.2) r62.2).bind fun r63 =>
 (gif r62.1 false (vl r19.1 r63.2) r63.2).bind fun r64 =>
 (gif r62.1 false (bo P .neq 4 (.tmp 58) (.tmp 59) r63.1 r64.1 r64.2) r64.2).bind fun r65 =>
 (pickV r62.1 (.bool true) r65.1 r65.2).bind fun r66 =>
 cnd r66.1 (
 (vl (.bool false) r66.2).bind fun r67 =>
 some (r67.1, r67.2)) (
 (vl (.int .i64 1) r66.2).bind fun r68 =>
 (ld P 24 r29.1 r68.2).bind fun r69 =>
 (vl r68.1 r69.2).bind fun r70 =>
 (EV P 14 #[r69.1, r70.1] r70.2).bind fun r71 =>
 (vl r71.1 r71.2).bind fun r72 =>
 (vl (.int .i64 1) r72.2).bind fun r73 =>
 (ld P 24 r29.1 r73.2).bind fun r74 =>
 (vl r73.1 r74.2).bind fun r75 =>
 (EV P 15 #[r74.1, r75.1] r75.2).bind fun r76 =>
 (vl r76.1 r76.2).bind fun r77 =>
 (vl r77.1 r77.2).bind fun r78 =>
 (bo P .lss 3 (.tmp 68) (.const (.int .i64 0)) r78.1 (.int .i64 0) r78.2).bind fun r79 =>
 cnd r79.1 (
 (vl (.bool false) r79.2).bind fun r80 =>
 some (r80.1, r80.2)) (
 (vl r77.1 r79.2).bind fun r81 =>
 (vl r72.1 r81.2).bind fun r82 =>
 (bo P .neq 3 (.tmp 70) (.tmp 71) r81.1 r82.1 r82.2).bind fun r83 =>
 cnd r83.1 (
 (vl (.bool false) r83.2).bind fun r84 =>
 some (r84.1, r84.2)) (
 (ld P 41 r1.1 r83.2).bind fun r85 =>
 (EV P 24 #[r85.1] r85.2).bind fun r86 =>
 (EV P 44 #[r86.1] r86.2).bind fun r87 =>
 (vl r87.1 r87.2).bind fun r88 =>
 (xt P r88.1 0 r88.2).bind fun r89 =>
 (xt P r88.1 1 r89.2).bind fun r90 =>
 (al P 24 r90.2).bind fun r91 =>
 (st P 24 r91.1 r89.1 r91.2).bind fun r92 =>
 (vl r90.1 r92.2).bind fun r93 =>
 (ld P 24 r91.1 r93.2).bind fun r94 =>
 (ld P 24 r17.1 r94.2).bind fun r95 =>
 (EV P 13 #[r94.1, r95.1] r95.2).bind fun r96 =>
 (uo P .not r96.1 r96.2).bind fun r97 =>
 (vl r97.1 r97.2).bind fun r98 =>
 (gif r98.1 false (vl r93.1 r98.2) r98.2).bind fun r99 =>
 (gif r98.1 false (vl r19.1 r99.2) r99.2).bind fun r100 =>
 (gif r98.1 false (bo P .neq 4 (.tmp 84) (.tmp 85) r99.1 r100.1 r100.2) r100.2).bind fun r101 =>
 (pickV r98.1 (.bool true) r101.1 r101.2).bind fun r102 =>
 cnd r102.1 (
 (vl (.bool false) r102.2).bind fun r103 =>
 some (r103.1, r103.2)) (
 (vl (.int .i64 1) r102.2).bind fun r104 =>
 (ld P 24 r29.1 r104.2).bind fun r105 =>
 (vl r104.1 r105.2).bind fun r106 =>
 (EV P 15 #[r105.1, r106.1] r106.2).bind fun r107 =>
 (vl r107.1 r107.2).bind fun r108 =>
 (vl r108.1 r108.2).bind fun r109 =>
 (bo P .lss 3 (.tmp 91) (.const (.int .i64 0)) r109.1 (.int .i64 0) r109.2).bind fun r110 =>
 cnd r110.1 (
 (vl (.bool false) r110.2).bind fun r111 =>
 some (r111.1, r111.2)) (
 (vl r108.1 r110.2).bind fun r112 =>
 (vl r72.1 r112.2).bind fun r113 =>
 (bo P .neq 3 (.tmp 93) (.tmp 94) r112.1 r113.1 r113.2).bind fun r114 =>
 cnd r114.1 (
 (vl (.bool false) r114.2).bind fun r115 =>
 some (r115.1, r115.2)) (
 (vl (.bool true) r114.2).bind fun r116 =>
 some (r116.1, r116.2)))))))))) := by kernel_rfl
theorem laws_eqChain_fn (x0 x1 : Value) (w : World) : fnC P (EV P) 13 #[x0, x1] w =
 (bx P 24 x0 w).bind fun r1 =>
 (bx P 24 x1 r1.2).bind fun r2 =>
 (vl (.bool false) r2.2).bind fun r3 =>
 (fa P 24 r1.1 0 r3.2).bind fun r4 =>
 (ld P 22 r4.1 r4.2).bind fun r5 =>
 (fa P 24 r2.1 0 r5.2).bind fun r6 =>
 (ld P 22 r6.1 r6.2).bind fun r7 =>
 (EV P 49 #[r5.1, r7.1] r7.2).bind fun r8 =>
 (uo P .not r8.1 r8.2).bind fun r9 =>
 cnd r9.1 (
 (vl (.bool false) r9.2).bind fun r10 =>
 some (r10.1, r10.2)) (
 (vl (.bool true) r9.2).bind fun r11 =>
 some (r11.1, r11.2)) := by kernel_rfl
theorem laws_markChain_fn (x0 x1 : Value) (w : World) : fnC P (EV P) 14 #[x0, x1] w =
 (bx P 24 x0 w).bind fun r1 =>
 (vl (.int .i64 0) r1.2).bind fun r2 =>
 (fa P 24 r1.1 0 r2.2).bind fun r3 =>
 (ld P 22 r3.1 r3.2).bind fun r4 =>
 (vl x1 r4.2).bind fun r5 =>
 (EV P 50 #[r4.1, r5.1] r5.2).bind fun r6 =>
 (vl r6.1 r6.2).bind fun r7 =>
 (vl r7.1 r7.2).bind fun r8 =>
 (vl r8.1 r8.2).bind fun r9 =>
 some (r9.1, r9.2) := by kernel_rfl
theorem laws_heldChain_fn (x0 x1 : Value) (w : World) : fnC P (EV P) 15 #[x0, x1] w =
 (bx P 24 x0 w).bind fun r1 =>
 (vl (.int .i64 0) r1.2).bind fun r2 =>
 (fa P 24 r1.1 0 r2.2).bind fun r3 =>
 (ld P 22 r3.1 r3.2).bind fun r4 =>
 (vl x1 r4.2).bind fun r5 =>
 (EV P 51 #[r4.1, r5.1] r5.2).bind fun r6 =>
 (vl r6.1 r6.2).bind fun r7 =>
 (vl r7.1 r7.2).bind fun r8 =>
 (bo P .lss 3 (.tmp 9) (.const (.int .i64 0)) r8.1 (.int .i64 0) r8.2).bind fun r9 =>
 cnd r9.1 (
 (vl (.int .i64 (-1)) r9.2).bind fun r10 =>
 some (r10.1, r10.2)) (
 (vl r7.1 r9.2).bind fun r11 =>
 (vl r11.1 r11.2).bind fun r12 =>
 some (r12.1, r12.2)) := by kernel_rfl
noncomputable def impl_ChainOk_l1 (e : Env) (w : World) : Option (Value × World) := exC P (EV P) 18 71 (.loop (cA (cA (cB (cA (cB (cB (bodyOf P 18)))))))) e w (kBlock 0 (kSeq P (EV P) 18 71 (cB (cB (cB (bodyOf P 18)))) (kFn P (fnOf P 18))))
noncomputable def impl_ChainOk_l2 (e : Env) (w : World) : Option (Value × World) := exC P (EV P) 18 71 (.loop (cA (cA (cB (cA (cB (cB (cB (bodyOf P 18))))))))) e w (kBlock 2 (kSeq P (EV P) 18 71 (cB (cB (cB (cB (bodyOf P 18))))) (kFn P (fnOf P 18))))
theorem impl_ChainOk_l1_eq (e : Env) (w : World) : impl_ChainOk_l1 e w =
 (bo P .lss 3 (.tmp 15) (.tmp 14) (e 15) (e 14) w).bind fun r1 =>
 cnd r1.1 (
 (ia P 22 (e 13) (e 15) r1.2).bind fun r2 =>
 (ld P 59 r2.1 r2.2).bind fun r3 =>
 (al P 59 r3.2).bind fun r4 =>
 (st P 59 r4.1 r3.1 r4.2).bind fun r5 =>
 (fa P 59 r4.1 0 r5.2).bind fun r6 =>
 (ld P 57 r6.1 r6.2).bind fun r7 =>
 (EV P 55 #[r7.1] r7.2).bind fun r8 =>
 (uo P .not r8.1 r8.2).bind fun r9 =>
 (vl r9.1 r9.2).bind fun r10 =>
 (gif r10.1 false (fa P 59 r4.1 1 r10.2) r10.2).bind fun r11 =>
 (gif r10.1 false (ld P 55 r11.1 r11.2) r11.2).bind fun r12 =>
 (gif r10.1 false (b_len P #[55] 3 #[r12.1] r12.2) r12.2).bind fun r13 =>
 (gif r10.1 false (bo P .gtr 3 (.tmp 26) (.const (.int .i64 6)) r13.1 (.int .i64 6) r13.2) r13.2).bind fun r14 =>
 (pickV r10.1 (.bool true) r14.1 r14.2).bind fun r15 =>
 (vl r15.1 r15.2).bind fun r16 =>
 (gif r16.1 false (fa P 59 r4.1 1 r16.2) r16.2).bind fun r17 =>
 (gif r16.1 false (ld P 55 r17.1 r17.2) r17.2).bind fun r18 =>
 (gif r16.1 false (EV P 56 #[r18.1, (.func (.func 57) #[] #[])] r18.2) r18.2).bind fun r19 =>
 (pickV r16.1 (.bool true) r19.1 r19.2).bind fun r20 =>
 cnd r20.1 (
 (vl (.bool false) r20.2).bind fun r21 =>
 some (r21.1, r21.2)) (
 (bo P .add 3 (.tmp 15) (.const (.int .i64 1)) (e 15) (.int .i64 1) r20.2).bind fun r22 =>
 (vl r22.1 r22.2).bind fun r23 =>
 impl_ChainOk_l1 (ups e [(16, r1.1), (17, r2.1), (18, r3.1), (4, r4.1), (19, r6.1), (20, r7.1), (21, r8.1), (22, r9.1), (23, r10.1), (24, r11.1), (25, r12.1), (26, r13.1), (27, r14.1), (28, r15.1), (29, r16.1), (30, r17.1), (31, r18.1), (32, r19.1), (33, r20.1), (34, r22.1), (15, r23.1)]) r23.2)) (
 (fa P 24 (e 1) 0 r1.2).bind fun r24 =>
 (ld P 22 r24.1 r24.2).bind fun r25 =>
 (b_len P #[22] 3 #[r25.1] r25.2).bind fun r26 =>
 (vl (.int .i64 0) r26.2).bind fun r27 =>
 impl_ChainOk_l2 (ups e [(16, r1.1), (35, r24.1), (36, r25.1), (37, r26.1), (38, r27.1)]) r27.2) := (exC_loop P (EV P) 18 71 (cA (cA (cB (cA (cB (cB (bodyOf P 18))))))) e w (kBlock 0 (kSeq P (EV P) 18 71 (cB (cB (cB (bodyOf P 18)))) (kFn P (fnOf P 18))))).trans (by kernel_rfl)
theorem impl_ChainOk_l2_eq (e : Env) (w : World) : impl_ChainOk_l2 e w =
 (bo P .lss 3 (.tmp 38) (.tmp 37) (e 38) (e 37) w).bind fun r1 =>
 cnd r1.1 (
 (vl (e 38) r1.2).bind fun r2 =>
 (ia P 22 (e 36) (e 38) r2.2).bind fun r3 =>
 (ld P 59 r3.1 r3.2).bind fun r4 =>
 (al P 59 r4.2).bind fun r5 =>
 (vl r2.1 r5.2).bind fun r6 =>
 (st P 59 r5.1 r4.1 r6.2).bind fun r7 =>
 (ld P 24 (e 1) (dw r7.2)).bind fun r9 =>
 ifP (r9.2 = (dw r7.2)) <|
 (vl r6.1 (dw r7.2)).bind fun r10 =>
 ifP (r10.2 = (dw r7.2)) <|
 (EV P 58 #[r9.1, r10.1] (dw r7.2)).bind fun r11 =>
 ifP (True ∧ True) <|
 (vl r11.1 r11.2).bind fun r12 =>
 ifP (r12.2 = r11.2) <|
 (gif r12.1 true (fa P 59 r5.1 1 r11.2) r11.2).bind fun r13 =>
 ifP (r13.2 = r11.2) <|
 (gif r12.1 true (ld P 55 r13.1 r11.2) r11.2).bind fun r14 =>
 ifP (r14.2 = r11.2) <|
 (gif r12.1 true (b_len P #[55] 3 #[r14.1] r11.2) r11.2).bind fun r15 =>
 ifP (r15.2 = r11.2) <|
 (gif r12.1 true (bo P .gtr 3 (.tmp 49) (.const (.int .i64 0)) r15.1 (.int .i64 0) r11.2) r11.2).bind fun r16 =>
 ifP (r16.2 = r11.2) <|
 (pickV r12.1 r16.1 (.bool false) r11.2).bind fun r17 =>
 ifP (r17.2 = r11.2) <|
 (vl r17.1 r11.2).bind fun r18 =>
 ifP (r18.2 = r11.2) <|
 (gif r18.1 false (ld P 24 (e 1) r11.2) r11.2).bind fun r19 =>
 ifP (r19.2 = r11.2) <|
 (gif r18.1 false (vl r6.1 r11.2) r11.2).bind fun r20 =>
 ifP (r20.2 = r11.2) <|
 (gif r18.1 false (EV P 58 #[r19.1, r20.1] r11.2) r11.2).bind fun r21 =>
 ifP (True ∧ True ∧ True ∧ True ∧ True ∧ True ∧ True) <|
 (gif r18.1 false (uo P .not r21.1 r21.2) r21.2).bind fun r22 =>
 ifP (r22.2 = r21.2) <|
 (gif r18.1 false (vl r22.1 r21.2) r21.2).bind fun r23 =>
 ifP (r23.2 = r21.2) <|
 (gif r23.1 true (ld P 59 r5.1 r21.2) r21.2).bind fun r24 =>
 ifP (r24.2 = r21.2) <|
 (gif r23.1 true (fa P 24 (e 1) 0 r21.2) r21.2).bind fun r25 =>
 ifP (r25.2 = r21.2) <|
 (gif r23.1 true (ld P 22 r25.1 r21.2) r21.2).bind fun r26 =>
 ifP (r26.2 = r21.2) <|
 (gif r23.1 true (vl r6.1 r21.2) r21.2).bind fun r27 =>
 ifP (r27.2 = r21.2) <|
 (gif r23.1 true (bo P .add 3 (.tmp 61) (.const (.int .i64 1)) r27.1 (.int .i64 1) r21.2) r21.2).bind fun r28 =>
 ifP (r28.2 = r21.2) <|
 (gif r23.1 true (ia P 22 r26.1 r28.1 r21.2) r21.2).bind fun r29 =>
 ifP (r29.2 = r21.2) <|
 (gif r23.1 true (fa P 59 r29.1 0 r21.2) r21.2).bind fun r30 =>
 ifP (r30.2 = r21.2) <|
 (gif r23.1 true (ld P 57 r30.1 r21.2) r21.2).bind fun r31 =>
 ifP (r31.2 = r21.2) <|
 (gif r23.1 true (EV P 59 #[r24.1, r31.1] r21.2) r21.2).bind fun r32 =>
 ifP (True ∧ True ∧ True ∧ True ∧ True ∧ True ∧ True ∧ True ∧ True ∧ True ∧ True ∧ True ∧ True ∧ True ∧ True) <|
 (gif r23.1 true (uo P .not r32.1 r32.2) r32.2).bind fun r33 =>
 ifP (r33.2 = r32.2) <|
 (gif r18.1 false (pickV r23.1 r33.1 (.bool false) r32.2) r32.2).bind fun r34 =>
 ifP (r34.2 = r32.2) <|
 (pickV r18.1 (.bool true) r34.1 r32.2).bind fun r35 =>
 ifP (r35.2 = r32.2) <|
 cnd r35.1 (
 (vl (.bool false) r32.2).bind fun r36 =>
 some (r36.1, r36.2)) (
 (bo P .add 3 (.tmp 38) (.const (.int .i64 1)) (e 38) (.int .i64 1) r32.2).bind fun r37 =>
 (vl r37.1 r37.2).bind fun r38 =>
 impl_ChainOk_l2 (ups e [(39, r1.1), (40, r2.1), (41, r3.1), (42, r4.1), (6, r5.1), (5, r6.1), (43, r9.1), (44, r10.1), (45, r11.1), (46, r12.1), (47, r13.1), (48, r14.1), (49, r15.1), (50, r16.1), (51, r17.1), (52, r18.1), (53, r19.1), (54, r20.1), (55, r21.1), (56, r22.1), (57, r23.1), (58, r24.1), (59, r25.1), (60, r26.1), (61, r27.1), (62, r28.1), (63, r29.1), (64, r30.1), (65, r31.1), (66, r32.1), (67, r33.1), (68, r34.1), (69, r35.1), (70, r37.1), (38, r38.1)]) r38.2)) (
 (vl (.bool true) r1.2).bind fun r39 =>
 some (r39.1, r39.2)) := (exC_loop P (EV P) 18 71 (cA (cA (cB (cA (cB (cB (cB (bodyOf P 18)))))))) e w (kBlock 2 (kSeq P (EV P) 18 71 (cB (cB (cB (cB (bodyOf P 18))))) (kFn P (fnOf P 18))))).trans (by kernel_rfl)
theorem impl_ChainOk_fn (x0 : Value) (w : World) : fnC P (EV P) 18 #[x0] w =
 (bx P 24 x0 w).bind fun r1 =>
 (vl (.bool false) r1.2).bind fun r2 =>
 (fa P 24 r1.1 0 r2.2).bind fun r3 =>
 (ld P 22 r3.1 r3.2).bind fun r4 =>
 (b_len P #[22] 3 #[r4.1] r4.2).bind fun r5 =>
 (EV P 47 #[r5.1] r5.2).bind fun r6 =>
 (uo P .not r6.1 r6.2).bind fun r7 =>
 cnd r7.1 (
 (vl (.bool false) r7.2).bind fun r8 =>
 some (r8.1, r8.2)) (
 (fa P 24 r1.1 0 r7.2).bind fun r9 =>
 (ld P 22 r9.1 r9.2).bind fun r10 =>
 (b_len P #[22] 3 #[r10.1] r10.2).bind fun r11 =>
 (vl (.int .i64 0) r11.2).bind fun r12 =>
 impl_ChainOk_l1 (ups (env0 #[x0]) [(1, r1.1), (2, r2.1), (7, r3.1), (8, r4.1), (9, r5.1), (10, r6.1), (11, r7.1), (12, r9.1), (13, r10.1), (14, r11.1), (15, r12.1)]) r12.2) := by kernel_rfl
theorem laws_szChain_fn (x0 x1 : Value) (w : World) : fnC P (EV P) 22 #[x0, x1] w =
 (bx P 41 x0 w).bind fun r1 =>
 (vl (.int .i64 0) r1.2).bind fun r2 =>
 (fa P 41 r1.1 0 r2.2).bind fun r3 =>
 (ld P 39 r3.1 r3.2).bind fun r4 =>
 (vl x1 r4.2).bind fun r5 =>
 (EV P 62 #[r4.1, r5.1] r5.2).bind fun r6 =>
 (vl r6.1 r6.2).bind fun r7 =>
 (vl r7.1 r7.2).bind fun r8 =>
 (bo P .lss 3 (.tmp 9) (.const (.int .i64 0)) r8.1 (.int .i64 0) r8.2).bind fun r9 =>
 cnd r9.1 (
 (vl (.int .i64 (-1)) r9.2).bind fun r10 =>
 some (r10.1, r10.2)) (
 (vl r7.1 r9.2).bind fun r11 =>
 (vl r11.1 r11.2).bind fun r12 =>
 some (r12.1, r12.2)) := by kernel_rfl
theorem laws_toChain_fn (x0 : Value) (w : World) : fnC P (EV P) 24 #[x0] w =
 (bx P 41 x0 w).bind fun r1 =>
 (al P 24 r1.2).bind fun r2 =>
 (al P 24 r2.2).bind fun r3 =>
 (fa P 41 r1.1 0 r3.2).bind fun r4 =>
 (ld P 39 r4.1 r4.2).bind fun r5 =>
 (EV P 64 #[r5.1] r5.2).bind fun r6 =>
 (fa P 24 r3.1 0 r6.2).bind fun r7 =>
 (st P 22 r7.1 r6.1 r7.2).bind fun r8 =>
 (ld P 24 r3.1 r8.2).bind fun r9 =>
 (st P 24 r2.1 r9.1 r9.2).bind fun r10 =>
 ((ld P 24 r2.1 r10.2).bind fun r11 => ifP (r11.2 = r10.2) (some r11.1)).bind fun v12 =>
 some (v12, r10.2) := by kernel_rfl
theorem impl_VerOk_fn (x0 : Value) (w : World) : fnC P (EV P) 28 #[x0] w =
 (bx P 48 x0 w).bind fun r1 =>
 (vl (.bool false) r1.2).bind fun r2 =>
 (ld P 48 r1.1 (dw r2.2)).bind fun r4 =>
 ifP (r4.2 = (dw r2.2)) <|
 (EV P 74 #[r4.1] (dw r2.2)).bind fun r5 =>
 ifP (True ∧ True) <|
 (vl r5.1 r5.2).bind fun r6 =>
 ifP (r6.2 = r5.2) <|
 (gif r6.1 true (fa P 48 r1.1 1 r5.2) r5.2).bind fun r7 =>
 ifP (r7.2 = r5.2) <|
 (gif r6.1 true (ld P 46 r7.1 r5.2) r5.2).bind fun r8 =>
 ifP (r8.2 = r5.2) <|
 (gif r6.1 true (EV P 75 #[r8.1] r5.2) r5.2).bind fun r9 =>
 ifP (True ∧ True ∧ True ∧ True) <|
 (pickV r6.1 r9.1 (.bool false) r9.2).bind fun r10 =>
 ifP (r10.2 = r9.2) <|
 (vl r10.1 r9.2).bind fun r11 =>
 ifP (r11.2 = r9.2) <|
 (gif r11.1 true (fa P 48 r1.1 1 r9.2) r9.2).bind fun r12 =>
 ifP (r12.2 = r9.2) <|
 (gif r11.1 true (fa P 46 r12.1 0 r9.2) r9.2).bind fun r13 =>
 ifP (r13.2 = r9.2) <|
 (gif r11.1 true (ld P 3 r13.1 r9.2) r9.2).bind fun r14 =>
 ifP (r14.2 = r9.2) <|
 (gif r11.1 true (fa P 48 r1.1 2 r9.2) r9.2).bind fun r15 =>
 ifP (r15.2 = r9.2) <|
 (gif r11.1 true (ld P 35 r15.1 r9.2) r9.2).bind fun r16 =>
 ifP (r16.2 = r9.2) <|
 (gif r11.1 true (EV P 76 #[r16.1] r9.2) r9.2).bind fun r17 =>
 ifP (True ∧ True ∧ gif r11.1 true (ld P 3 r13.1 r17.2) r17.2 = some (r14.1, r17.2) ∧ gif r11.1 true (fa P 46 r12.1 0 r17.2) r17.2 = some (r13.1, r17.2) ∧ gif r11.1 true (fa P 48 r1.1 1 r17.2) r17.2 = some (r12.1, r17.2) ∧ True ∧ True ∧ True ∧ True) <|
 (gif r11.1 true (bo P .gtr 3 (.tmp 13) (.tmp 16) r14.1 r17.1 r17.2) r17.2).bind fun r18 =>
 ifP (r18.2 = r17.2) <|
 (pickV r11.1 r18.1 (.bool false) r17.2).bind fun r19 =>
 ifP (r19.2 = r17.2) <|
 (vl r19.1 r17.2).bind fun r20 =>
 ifP (r20.2 = r17.2) <|
 some (r20.1, r17.2) := by kernel_rfl
theorem laws_eqPast_fn (x0 x1 : Value) (w : World) : fnC P (EV P) 35 #[x0, x1] w =
 (bx P 35 x0 w).bind fun r1 =>
 (bx P 35 x1 r1.2).bind fun r2 =>
 (vl (.bool false) r2.2).bind fun r3 =>
 (fa P 35 r1.1 0 r3.2).bind fun r4 =>
 (ld P 33 r4.1 r4.2).bind fun r5 =>
 (fa P 35 r2.1 0 r5.2).bind fun r6 =>
 (ld P 33 r6.1 r6.2).bind fun r7 =>
 (EV P 86 #[r5.1, r7.1] r7.2).bind fun r8 =>
 (uo P .not r8.1 r8.2).bind fun r9 =>
 cnd r9.1 (
 (vl (.bool false) r9.2).bind fun r10 =>
 some (r10.1, r10.2)) (
 (vl (.bool true) r9.2).bind fun r11 =>
 some (r11.1, r11.2)) := by kernel_rfl
end Go.Proofs.Ythicfemhpnnaaaa.X
