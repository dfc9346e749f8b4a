/- A part of the proof: an evaluator of the model, its laws, and contracts of functions; no condition. -/
import Derived.Test.YthicfemhpnnaaaaGreatEvT
set_option linter.unusedVariables false
set_option maxRecDepth 100000
namespace Go.Proofs.YthicfemhpnnaaaaGreat.X
open Go Go.Ev
theorem laws_FnExactChainPass_fn (x0 x1 : Value) (w : World) : fnC P (EV P) 5 #[x0, x1] w =
 (bx P 51 x0 w).bind fun r1 =>
 (vl (.bool false) r1.2).bind fun r2 =>
 (vl (.int .i64 1048576) r2.2).bind fun r3 =>
 (ld P 51 r1.1 r3.2).bind fun r4 =>
 (vl r3.1 r4.2).bind fun r5 =>
 (EV P 15 #[r4.1, r5.1] r5.2).bind fun r6 =>
 (vl r6.1 r6.2).bind fun r7 =>
 (vl r7.1 r7.2).bind fun r8 =>
 (bo P .lss 3 (.tmp 19) (.const (.int .i64 0)) r8.1 (.int .i64 0) r8.2).bind fun r9 =>
 cnd r9.1 (
 (vl (.bool true) r9.2).bind fun r10 =>
 some (r10.1, r10.2)) (
 (ld P 51 r1.1 r9.2).bind fun r11 =>
 (EV P 18 #[r11.1] r11.2).bind fun r12 =>
 (vl x1 r12.2).bind fun r13 =>
 (EV P 8 #[r12.1, r13.1] r13.2).bind fun r14 =>
 (vl r14.1 r14.2).bind fun r15 =>
 (xt P r15.1 0 r15.2).bind fun r16 =>
 (xt P r15.1 1 r16.2).bind fun r17 =>
 (al P 25 r17.2).bind fun r18 =>
 (st P 25 r18.1 r16.1 r18.2).bind fun r19 =>
 (vl r17.1 r19.2).bind fun r20 =>
 (ld P 51 r1.1 r20.2).bind fun r21 =>
 (EV P 18 #[r21.1] r21.2).bind fun r22 =>
 (al P 25 r22.2).bind fun r23 =>
 (st P 25 r23.1 r22.1 r23.2).bind fun r24 =>
 (ld P 25 r23.1 r24.2).bind fun r25 =>
 (vl x1 r25.2).bind fun r26 =>
 (EV P 7 #[r25.1, r26.1] r26.2).bind fun r27 =>
 (vl r27.1 r27.2).bind fun r28 =>
 (xt P r28.1 0 r28.2).bind fun r29 =>
 (xt P r28.1 1 r29.2).bind fun r30 =>
 (al P 25 r30.2).bind fun r31 =>
 (st P 25 r31.1 r29.1 r31.2).bind fun r32 =>
 (vl r30.1 r32.2).bind fun r33 =>
 (ld P 25 r31.1 r33.2).bind fun r34 =>
 (ld P 25 r18.1 r34.2).bind fun r35 =>
 (EV P 21 #[r34.1, r35.1] r35.2).bind fun r36 =>
 (uo P .not r36.1 r36.2).bind fun r37 =>
 (vl r37.1 r37.2).bind fun r38 =>
 (gif r38.1 false (vl r33.1 r38.2) r38.2).bind fun r39 =>
 (gif r38.1 false (vl r20.1 r39.2) r39.2).bind fun r40 =>
 (gif r38.1 false (bo P .neq 4 (.tmp 41) (.tmp 42) r39.1 r40.1 r40.2) r40.2).bind fun r41 =>
 (pickV r38.1 (.bool true) r41.1 r41.2).bind fun r42 =>
 cnd r42.1 (
 (vl (.bool false) r42.2).bind fun r43 =>
 some (r43.1, r43.2)) (
 (ld P 25 r23.1 (dw r42.2)).bind fun r45 =>
 ifP (r45.2 = (dw r42.2)) <|
 (ld P 51 r1.1 (dw r42.2)).bind fun r46 =>
 ifP (r46.2 = (dw r42.2)) <|
 (EV P 18 #[r46.1] (dw r42.2)).bind fun r47 =>
 ifP (True ∧ ld P 25 r23.1 r47.2 = some (r45.1, r47.2) ∧ True) <|
 (EV P 21 #[r45.1, r47.1] r47.2).bind fun r48 =>
 ifP (True ∧ True ∧ True) <|
 (uo P .not r48.1 r48.2).bind fun r49 =>
 ifP (r49.2 = r48.2) <|
 cnd r49.1 (
 (vl (.bool false) r48.2).bind fun r50 =>
 some (r50.1, r50.2)) (
 (vl (.int .i64 1) r48.2).bind fun r51 =>
 (ld P 25 r23.1 r51.2).bind fun r52 =>
 (vl r51.1 r52.2).bind fun r53 =>
 (EV P 23 #[r52.1, r53.1] r53.2).bind fun r54 =>
 (vl r54.1 r54.2).bind fun r55 =>
 (vl r55.1 r55.2).bind fun r56 =>
 (bo P .lss 3 (.tmp 53) (.const (.int .i64 0)) r56.1 (.int .i64 0) r56.2).bind fun r57 =>
 (vl r57.1 r57.2).bind fun r58 =>
 (gif r58.1 false (ld P 25 r31.1 r58.2) r58.2).bind fun r59 =>
 (gif r58.1 false (ld P 25 r18.1 r59.2) r59.2).bind fun r60 =>
 (gif r58.1 false (EV P 21 #[r59.1, r60.1] r60.2) r60.2).bind fun r61 =>
 (gif r58.1 false (uo P .not r61.1 r61.2) r61.2).bind fun r62 =>
 (pickV r58.1 (.bool true) r62.1 r62.2).bind fun r63 =>
 (vl r63.1 r63.2).bind fun r64 =>
 (gif r64.1 false (vl r33.1 r64.2) r64.2).bind fun r65 =>
 (gif r64.1 false (vl r20.1 r65.2) r65.2).bind fun r66 =>
 (gif r64.1 false (bo P .neq 4 (.tmp 62) (.tmp 63) r65.1 r66.1 r66.2) r66.2).bind fun r67 =>
 (pickV r64.1 (.bool true) r67.1 r67.2).bind fun r68 =>
 cnd r68.1 (
 (vl (.bool false) r68.2).bind fun r69 =>
 some (r69.1, r69.2)) (
 (vl (.int .i64 1) r68.2).bind fun r70 =>
 (ld P 25 r31.1 r70.2).bind fun r71 =>
 (vl r70.1 r71.2).bind fun r72 =>
 (EV P 23 #[r71.1, r72.1] r72.2).bind fun r73 =>
 (vl r73.1 r73.2).bind fun r74 =>
 (vl (.int .i64 1) r74.2).bind fun r75 =>
 (ld P 25 r31.1 r75.2).bind fun r76 =>
 (vl r75.1 r76.2).bind fun r77 =>
 (EV P 25 #[r76.1, r77.1] r77.2).bind fun r78 =>
 (vl r78.1 r78.2).bind fun r79 =>
 (vl r79.1 r79.2).bind fun r80 =>
 (bo P .lss 3 (.tmp 72) (.const (.int .i64 0)) r80.1 (.int .i64 0) r80.2).bind fun r81 =>
 cnd r81.1 (
 (vl (.bool false) r81.2).bind fun r82 =>
 some (r82.1, r82.2)) (
 (vl r79.1 r81.2).bind fun r83 =>
 (vl r74.1 r83.2).bind fun r84 =>
 (bo P .neq 3 (.tmp 74) (.tmp 75) r83.1 r84.1 r84.2).bind fun r85 =>
 cnd r85.1 (
 (vl (.bool false) r85.2).bind fun r86 =>
 some (r86.1, r86.2)) (
 (ld P 51 r1.1 r85.2).bind fun r87 =>
 (EV P 18 #[r87.1] r87.2).bind fun r88 =>
 (vl x1 r88.2).bind fun r89 =>
 (EV P 7 #[r88.1, r89.1] r89.2).bind fun r90 =>
 (vl r90.1 r90.2).bind fun r91 =>
 (xt P r91.1 0 r91.2).bind fun r92 =>
 (xt P r91.1 1 r92.2).bind fun r93 =>
 (al P 25 r93.2).bind fun r94 =>
 (st P 25 r94.1 r92.1 r94.2).bind fun r95 =>
 (vl r93.1 r95.2).bind fun r96 =>
 (ld P 25 r94.1 r96.2).bind fun r97 =>
 (ld P 25 r18.1 r97.2).bind fun r98 =>
 (EV P 21 #[r97.1, r98.1] r98.2).bind fun r99 =>
 (uo P .not r99.1 r99.2).bind fun r100 =>
 (vl r100.1 r100.2).bind fun r101 =>
 (gif r101.1 false (vl r96.1 r101.2) r101.2).bind fun r102 =>
 (gif r101.1 false (vl r20.1 r102.2) r102.2).bind fun r103 =>
 (gif r101.1 false (bo P .neq 4 (.tmp 89) (.tmp 90) r102.1 r103.1 r103.2) r103.2).bind fun r104 =>
 (pickV r101.1 (.bool true) r104.1 r104.2).bind fun r105 =>
 cnd r105.1 (
 (vl (.bool false) r105.2).bind fun r106 =>
 some (r106.1, r106.2)) (
 (vl (.int .i64 1) r105.2).bind fun r107 =>
 (ld P 25 r31.1 r107.2).bind fun r108 =>
 (vl r107.1 r108.2).bind fun r109 =>
 (EV P 25 #[r108.1, r109.1] r109.2).bind fun r110 =>
 (vl r110.1 r110.2).bind fun r111 =>
 (vl r111.1 r111.2).bind fun r112 =>
 (bo P .lss 3 (.tmp 96) (.const (.int .i64 0)) r112.1 (.int .i64 0) r112.2).bind fun r113 =>
 cnd r113.1 (
 (vl (.bool false) r113.2).bind fun r114 =>
 some (r114.1, r114.2)) (
 (vl r111.1 r113.2).bind fun r115 =>
 (vl r74.1 r115.2).bind fun r116 =>
 (bo P .neq 3 (.tmp 98) (.tmp 99) r115.1 r116.1 r116.2).bind fun r117 =>
 cnd r117.1 (
 (vl (.bool false) r117.2).bind fun r118 =>
 some (r118.1, r118.2)) (
 (vl (.bool true) r117.2).bind fun r119 =>
 some (r119.1, r119.2)))))))))) := by kernel_rfl
theorem impl_ChainPass_fn (x0 x1 : Value) (w : World) : fnC P (EV P) 7 #[x0, x1] w =
 (bx P 25 x0 w).bind fun r1 =>
 (bx P 3 x1 r1.2).bind fun r2 =>
 (al P 25 r2.2).bind fun r3 =>
 (vl (.bool false) r3.2).bind fun r4 =>
 (ld P 25 r1.1 r4.2).bind fun r5 =>
 (EV P 10 #[r5.1] r5.2).bind fun r6 =>
 (uo P .not r6.1 r6.2).bind fun r7 =>
 cnd r7.1 (
 (bd P 25 #[] r7.2).bind fun r8 =>
 (st P 25 r3.1 r8.1 r8.2).bind fun r9 =>
 (vl (.bool false) r9.2).bind fun r10 =>
 ((ld P 25 r3.1 r10.2).bind fun r11 => ifP (r11.2 = r10.2) (some r11.1)).bind fun v12 =>
 some (.tuple #[v12, r10.1], r10.2)) (
 (ld P 25 r1.1 r7.2).bind fun r13 =>
 (vl (.func (Go.Fn.func 30) #[] #[r2.1]) r13.2).bind fun r14 =>
 (EV P 29 #[r13.1, r14.1] r14.2).bind fun r15 =>
 (xt P r15.1 0 r15.2).bind fun r16 =>
 (xt P r15.1 1 r16.2).bind fun r17 =>
 (st P 25 r3.1 r16.1 r17.2).bind fun r18 =>
 (vl r17.1 r18.2).bind fun r19 =>
 ((ld P 25 r3.1 r19.2).bind fun r20 => ifP (r20.2 = r19.2) (some r20.1)).bind fun v21 =>
 some (.tuple #[v21, r19.1], r19.2)) := by kernel_rfl
theorem spec_ChainPass_fn (x0 x1 : Value) (w : World) : fnC P (EV P) 8 #[x0, x1] w =
 (bx P 25 x0 w).bind fun r1 =>
 (al P 25 r1.2).bind fun r2 =>
 (vl (.bool false) r2.2).bind fun r3 =>
 (ld P 25 r1.1 r3.2).bind fun r4 =>
 (EV P 32 #[r4.1] r4.2).bind fun r5 =>
 (uo P .not r5.1 r5.2).bind fun r6 =>
 cnd r6.1 (
 (bd P 25 #[] r6.2).bind fun r7 =>
 (st P 25 r2.1 r7.1 r7.2).bind fun r8 =>
 (vl (.bool false) r8.2).bind fun r9 =>
 ((ld P 25 r2.1 r9.2).bind fun r10 => ifP (r10.2 = r9.2) (some r10.1)).bind fun v11 =>
 some (.tuple #[v11, r9.1], r9.2)) (
 (ld P 25 r1.1 r6.2).bind fun r12 =>
 (vl x1 r12.2).bind fun r13 =>
 (EV P 33 #[r12.1, r13.1] r13.2).bind fun r14 =>
 (uo P .not r14.1 r14.2).bind fun r15 =>
 cnd r15.1 (
 (ld P 25 r1.1 r15.2).bind fun r16 =>
 (EV P 34 #[r16.1] r16.2).bind fun r17 =>
 (st P 25 r2.1 r17.1 r17.2).bind fun r18 =>
 (vl (.bool false) r18.2).bind fun r19 =>
 ((ld P 25 r2.1 r19.2).bind fun r20 => ifP (r20.2 = r19.2) (some r20.1)).bind fun v21 =>
 some (.tuple #[v21, r19.1], r19.2)) (
 (ld P 25 r1.1 r15.2).bind fun r22 =>
 (EV P 34 #[r22.1] r22.2).bind fun r23 =>
 (vl x1 r23.2).bind fun r24 =>
 (EV P 35 #[r23.1, r24.1] r24.2).bind fun r25 =>
 (st P 25 r2.1 r25.1 r25.2).bind fun r26 =>
 (vl (.bool true) r26.2).bind fun r27 =>
 ((ld P 25 r2.1 r27.2).bind fun r28 => ifP (r28.2 = r27.2) (some r28.1)).bind fun v29 =>
 some (.tuple #[v29, r27.1], r27.2))) := by kernel_rfl
noncomputable def impl_ChainOk_l1 (e : Env) (w : World) : Option (Value × World) := exC P (EV P) 10 71 (.loop (cA (cA (cB (cA (cB (cB (bodyOf P 10)))))))) e w (kBlock 0 (kSeq P (EV P) 10 71 (cB (cB (cB (bodyOf P 10)))) (kFn P (fnOf P 10))))
noncomputable def impl_ChainOk_l2 (e : Env) (w : World) : Option (Value × World) := exC P (EV P) 10 71 (.loop (cA (cA (cB (cA (cB (cB (cB (bodyOf P 10))))))))) e w (kBlock 2 (kSeq P (EV P) 10 71 (cB (cB (cB (cB (bodyOf P 10))))) (kFn P (fnOf P 10))))
theorem impl_ChainOk_l1_eq (e : Env) (w : World) : impl_ChainOk_l1 e w =
 (bo P .lss 3 (.tmp 15) (.tmp 14) (e 15) (e 14) w).bind fun r1 =>
 cnd r1.1 (
 (ia P 23 (e 13) (e 15) r1.2).bind fun r2 =>
 (ld P 36 r2.1 r2.2).bind fun r3 =>
 (al P 36 r3.2).bind fun r4 =>
 (st P 36 r4.1 r3.1 r4.2).bind fun r5 =>
 (fa P 36 r4.1 0 r5.2).bind fun r6 =>
 (ld P 34 r6.1 r6.2).bind fun r7 =>
 (EV P 38 #[r7.1] r7.2).bind fun r8 =>
 (uo P .not r8.1 r8.2).bind fun r9 =>
 (vl r9.1 r9.2).bind fun r10 =>
 (gif r10.1 false (fa P 36 r4.1 1 r10.2) r10.2).bind fun r11 =>
 (gif r10.1 false (ld P 32 r11.1 r11.2) r11.2).bind fun r12 =>
 (gif r10.1 false (b_len P #[32] 3 #[r12.1] r12.2) r12.2).bind fun r13 =>
 (gif r10.1 false (bo P .gtr 3 (.tmp 26) (.const (.int .i64 6)) r13.1 (.int .i64 6) r13.2) r13.2).bind fun r14 =>
 (pickV r10.1 (.bool true) r14.1 r14.2).bind fun r15 =>
 (vl r15.1 r15.2).bind fun r16 =>
 (gif r16.1 false (fa P 36 r4.1 1 r16.2) r16.2).bind fun r17 =>
 (gif r16.1 false (ld P 32 r17.1 r17.2) r17.2).bind fun r18 =>
 (gif r16.1 false (EV P 39 #[r18.1, (.func (.func 40) #[] #[])] r18.2) r18.2).bind fun r19 =>
 (pickV r16.1 (.bool true) r19.1 r19.2).bind fun r20 =>
 cnd r20.1 (
 (vl (.bool false) r20.2).bind fun r21 =>
 some (r21.1, r21.2)) (
 (bo P .add 3 (.tmp 15) (.const (.int .i64 1)) (e 15) (.int .i64 1) r20.2).bind fun r22 =>
 (vl r22.1 r22.2).bind fun r23 =>
 impl_ChainOk_l1 (ups e [(16, r1.1), (17, r2.1), (18, r3.1), (4, r4.1), (19, r6.1), (20, r7.1), (21, r8.1), (22, r9.1), (23, r10.1), (24, r11.1), (25, r12.1), (26, r13.1), (27, r14.1), (28, r15.1), (29, r16.1), (30, r17.1), (31, r18.1), (32, r19.1), (33, r20.1), (34, r22.1), (15, r23.1)]) r23.2)) (
 (fa P 25 (e 1) 0 r1.2).bind fun r24 =>
 (ld P 23 r24.1 r24.2).bind fun r25 =>
 (b_len P #[23] 3 #[r25.1] r25.2).bind fun r26 =>
 (vl (.int .i64 0) r26.2).bind fun r27 =>
 impl_ChainOk_l2 (ups e [(16, r1.1), (35, r24.1), (36, r25.1), (37, r26.1), (38, r27.1)]) r27.2) := (exC_loop P (EV P) 10 71 (cA (cA (cB (cA (cB (cB (bodyOf P 10))))))) e w (kBlock 0 (kSeq P (EV P) 10 71 (cB (cB (cB (bodyOf P 10)))) (kFn P (fnOf P 10))))).trans (by kernel_rfl)
theorem impl_ChainOk_l2_eq (e : Env) (w : World) : impl_ChainOk_l2 e w =
 (bo P .lss 3 (.tmp 38) (.tmp 37) (e 38) (e 37) w).bind fun r1 =>
 cnd r1.1 (
 (vl (e 38) r1.2).bind fun r2 =>
 (ia P 23 (e 36) (e 38) r2.2).bind fun r3 =>
 (ld P 36 r3.1 r3.2).bind fun r4 =>
 (al P 36 r4.2).bind fun r5 =>
 (vl r2.1 r5.2).bind fun r6 =>
 (st P 36 r5.1 r4.1 r6.2).bind fun r7 =>
 (ld P 25 (e 1) (dw r7.2)).bind fun r9 =>
 ifP (r9.2 = (dw r7.2)) <|
 (vl r6.1 (dw r7.2)).bind fun r10 =>
 ifP (r10.2 = (dw r7.2)) <|
 (EV P 42 #[r9.1, r10.1] (dw r7.2)).bind fun r11 =>
 ifP (True ∧ True) <|
 (vl r11.1 r11.2).bind fun r12 =>
 ifP (r12.2 = r11.2) <|
 (gif r12.1 true (fa P 36 r5.1 1 r11.2) r11.2).bind fun r13 =>
 ifP (r13.2 = r11.2) <|
 (gif r12.1 true (ld P 32 r13.1 r11.2) r11.2).bind fun r14 =>
 ifP (r14.2 = r11.2) <|
 (gif r12.1 true (b_len P #[32] 3 #[r14.1] r11.2) r11.2).bind fun r15 =>
 ifP (r15.2 = r11.2) <|
 (gif r12.1 true (bo P .gtr 3 (.tmp 49) (.const (.int .i64 0)) r15.1 (.int .i64 0) r11.2) r11.2).bind fun r16 =>
 ifP (r16.2 = r11.2) <|
 (pickV r12.1 r16.1 (.bool false) r11.2).bind fun r17 =>
 ifP (r17.2 = r11.2) <|
 (vl r17.1 r11.2).bind fun r18 =>
 ifP (r18.2 = r11.2) <|
 (gif r18.1 false (ld P 25 (e 1) r11.2) r11.2).bind fun r19 =>
 ifP (r19.2 = r11.2) <|
 (gif r18.1 false (vl r6.1 r11.2) r11.2).bind fun r20 =>
 ifP (r20.2 = r11.2) <|
 (gif r18.1 false (EV P 42 #[r19.1, r20.1] r11.2) r11.2).bind fun r21 =>
 ifP (True ∧ True ∧ True ∧ True ∧ True ∧ True ∧ True) <|
 (gif r18.1 false (uo P .not r21.1 r21.2) r21.2).bind fun r22 =>
 ifP (r22.2 = r21.2) <|
 (gif r18.1 false (vl r22.1 r21.2) r21.2).bind fun r23 =>
 ifP (r23.2 = r21.2) <|
 (gif r23.1 true (ld P 36 r5.1 r21.2) r21.2).bind fun r24 =>
 ifP (r24.2 = r21.2) <|
 (gif r23.1 true (fa P 25 (e 1) 0 r21.2) r21.2).bind fun r25 =>
 ifP (r25.2 = r21.2) <|
 (gif r23.1 true (ld P 23 r25.1 r21.2) r21.2).bind fun r26 =>
 ifP (r26.2 = r21.2) <|
 (gif r23.1 true (vl r6.1 r21.2) r21.2).bind fun r27 =>
 ifP (r27.2 = r21.2) <|
 (gif r23.1 true (bo P .add 3 (.tmp 61) (.const (.int .i64 1)) r27.1 (.int .i64 1) r21.2) r21.2).bind fun r28 =>
 ifP (r28.2 = r21.2) <|
 (gif r23.1 true (ia P 23 r26.1 r28.1 r21.2) r21.2).bind fun r29 =>
 ifP (r29.2 = r21.2) <|
 (gif r23.1 true (fa P 36 r29.1 0 r21.2) r21.2).bind fun r30 =>
 ifP (r30.2 = r21.2) <|
 (gif r23.1 true (ld P 34 r30.1 r21.2) r21.2).bind fun r31 =>
 ifP (r31.2 = r21.2) <|
 (gif r23.1 true (EV P 43 #[r24.1, r31.1] r21.2) r21.2).bind fun r32 =>
 ifP (True ∧ True ∧ True ∧ True ∧ True ∧ True ∧ True ∧ True ∧ True ∧ True ∧ True ∧ True ∧ True ∧ True ∧ True) <|
 (gif r23.1 true (uo P .not r32.1 r32.2) r32.2).bind fun r33 =>
 ifP (r33.2 = r32.2) <|
 (gif r18.1 false (pickV r23.1 r33.1 (.bool false) r32.2) r32.2).bind fun r34 =>
 ifP (r34.2 = r32.2) <|
 (pickV r18.1 (.bool true) r34.1 r32.2).bind fun r35 =>
 ifP (r35.2 = r32.2) <|
 cnd r35.1 (
 (vl (.bool false) r32.2).bind fun r36 =>
 some (r36.1, r36.2)) (
 (bo P .add 3 (.tmp 38) (.const (.int .i64 1)) (e 38) (.int .i64 1) r32.2).bind fun r37 =>
 (vl r37.1 r37.2).bind fun r38 =>
 impl_ChainOk_l2 (ups e [(39, r1.1), (40, r2.1), (41, r3.1), (42, r4.1), (6, r5.1), (5, r6.1), (43, r9.1), (44, r10.1), (45, r11.1), (46, r12.1), (47, r13.1), (48, r14.1), (49, r15.1), (50, r16.1), (51, r17.1), (52, r18.1), (53, r19.1), (54, r20.1), (55, r21.1), (56, r22.1), (57, r23.1), (58, r24.1), (59, r25.1), (60, r26.1), (61, r27.1), (62, r28.1), (63, r29.1), (64, r30.1), (65, r31.1), (66, r32.1), (67, r33.1), (68, r34.1), (69, r35.1), (70, r37.1), (38, r38.1)]) r38.2)) (
 (vl (.bool true) r1.2).bind fun r39 =>
 some (r39.1, r39.2)) := (exC_loop P (EV P) 10 71 (cA (cA (cB (cA (cB (cB (cB (bodyOf P 10)))))))) e w (kBlock 2 (kSeq P (EV P) 10 71 (cB (cB (cB (cB (bodyOf P 10))))) (kFn P (fnOf P 10))))).trans (by kernel_rfl)
theorem impl_ChainOk_fn (x0 : Value) (w : World) : fnC P (EV P) 10 #[x0] w =
 (bx P 25 x0 w).bind fun r1 =>
 (vl (.bool false) r1.2).bind fun r2 =>
 (fa P 25 r1.1 0 r2.2).bind fun r3 =>
 (ld P 23 r3.1 r3.2).bind fun r4 =>
 (b_len P #[23] 3 #[r4.1] r4.2).bind fun r5 =>
 (EV P 37 #[r5.1] r5.2).bind fun r6 =>
 (uo P .not r6.1 r6.2).bind fun r7 =>
 cnd r7.1 (
 (vl (.bool false) r7.2).bind fun r8 =>
 some (r8.1, r8.2)) (
 (fa P 25 r1.1 0 r7.2).bind fun r9 =>
 (ld P 23 r9.1 r9.2).bind fun r10 =>
 (b_len P #[23] 3 #[r10.1] r10.2).bind fun r11 =>
 (vl (.int .i64 0) r11.2).bind fun r12 =>
 impl_ChainOk_l1 (ups (env0 #[x0]) [(1, r1.1), (2, r2.1), (7, r3.1), (8, r4.1), (9, r5.1), (10, r6.1), (11, r7.1), (12, r9.1), (13, r10.1), (14, r11.1), (15, r12.1)]) r12.2) := by kernel_rfl
theorem laws_szChain_fn (x0 x1 : Value) (w : World) : fnC P (EV P) 15 #[x0, x1] w =
 (bx P 51 x0 w).bind fun r1 =>
 (vl (.int .i64 0) r1.2).bind fun r2 =>
 (fa P 51 r1.1 0 r2.2).bind fun r3 =>
 (ld P 49 r3.1 r3.2).bind fun r4 =>
 (vl x1 r4.2).bind fun r5 =>
 (EV P 52 #[r4.1, r5.1] r5.2).bind fun r6 =>
 (vl r6.1 r6.2).bind fun r7 =>
 (vl r7.1 r7.2).bind fun r8 =>
 (bo P .lss 3 (.tmp 9) (.const (.int .i64 0)) r8.1 (.int .i64 0) r8.2).bind fun r9 =>
 cnd r9.1 (
 (vl (.int .i64 (-1)) r9.2).bind fun r10 =>
 some (r10.1, r10.2)) (
 (vl r7.1 r9.2).bind fun r11 =>
 (vl r11.1 r11.2).bind fun r12 =>
 some (r12.1, r12.2)) := by kernel_rfl
theorem laws_szVer_fn (x0 x1 : Value) (w : World) : fnC P (EV P) 16 #[x0, x1] w =
 (bx P 57 x0 w).bind fun r1 =>
 (vl (.int .i64 0) r1.2).bind fun r2 =>
 (fa P 57 r1.1 2 r2.2).bind fun r3 =>
 (ld P 55 r3.1 r3.2).bind fun r4 =>
 (vl x1 r4.2).bind fun r5 =>
 (EV P 53 #[r4.1, r5.1] r5.2).bind fun r6 =>
 (vl r6.1 r6.2).bind fun r7 =>
 (vl r7.1 r7.2).bind fun r8 =>
 (bo P .lss 3 (.tmp 9) (.const (.int .i64 0)) r8.1 (.int .i64 0) r8.2).bind fun r9 =>
 cnd r9.1 (
 (vl (.int .i64 (-1)) r9.2).bind fun r10 =>
 some (r10.1, r10.2)) (
 (vl r7.1 r9.2).bind fun r11 =>
 (fa P 57 r1.1 3 r11.2).bind fun r12 =>
 (ld P 9 r12.1 r12.2).bind fun r13 =>
 (b_len P #[9] 3 #[r13.1] r13.2).bind fun r14 =>
 (bo P .sub 3 (.tmp 11) (.tmp 14) r11.1 r14.1 r14.2).bind fun r15 =>
 (vl r15.1 r15.2).bind fun r16 =>
 (vl r16.1 r16.2).bind fun r17 =>
 (bo P .lss 3 (.tmp 16) (.const (.int .i64 0)) r17.1 (.int .i64 0) r17.2).bind fun r18 =>
 cnd r18.1 (
 (vl (.int .i64 (-1)) r18.2).bind fun r19 =>
 some (r19.1, r19.2)) (
 (vl r16.1 r18.2).bind fun r20 =>
 (vl r20.1 r20.2).bind fun r21 =>
 some (r21.1, r21.2))) := by kernel_rfl
theorem laws_toChain_fn (x0 : Value) (w : World) : fnC P (EV P) 18 #[x0] w =
 (bx P 51 x0 w).bind fun r1 =>
 (al P 25 r1.2).bind fun r2 =>
 (al P 25 r2.2).bind fun r3 =>
 (fa P 51 r1.1 0 r3.2).bind fun r4 =>
 (ld P 49 r4.1 r4.2).bind fun r5 =>
 (EV P 57 #[r5.1] r5.2).bind fun r6 =>
 (fa P 25 r3.1 0 r6.2).bind fun r7 =>
 (st P 23 r7.1 r6.1 r7.2).bind fun r8 =>
 (ld P 25 r3.1 r8.2).bind fun r9 =>
 (st P 25 r2.1 r9.1 r9.2).bind fun r10 =>
 ((ld P 25 r2.1 r10.2).bind fun r11 => ifP (r11.2 = r10.2) (some r11.1)).bind fun v12 =>
 some (v12, r10.2) := by kernel_rfl
theorem laws_toVer_fn (x0 : Value) (w : World) : fnC P (EV P) 19 #[x0] w =
 (bx P 57 x0 w).bind fun r1 =>
 (al P 45 r1.2).bind fun r2 =>
 (al P 45 r2.2).bind fun r3 =>
 (fa P 57 r1.1 0 r3.2).bind fun r4 =>
 (ld P 3 r4.1 r4.2).bind fun r5 =>
 (fa P 45 r3.1 0 r5.2).bind fun r6 =>
 (st P 3 r6.1 r5.1 r6.2).bind fun r7 =>
 (fa P 57 r1.1 1 r7.2).bind fun r8 =>
 (ld P 52 r8.1 r8.2).bind fun r9 =>
 (EV P 58 #[r9.1] r9.2).bind fun r10 =>
 (fa P 45 r3.1 1 r10.2).bind fun r11 =>
 (st P 40 r11.1 r10.1 r11.2).bind fun r12 =>
 (fa P 57 r1.1 2 r12.2).bind fun r13 =>
 (ld P 55 r13.1 r13.2).bind fun r14 =>
 (EV P 59 #[r14.1] r14.2).bind fun r15 =>
 (fa P 45 r3.1 2 r15.2).bind fun r16 =>
 (st P 43 r16.1 r15.1 r16.2).bind fun r17 =>
 (fa P 57 r1.1 3 r17.2).bind fun r18 =>
 (ld P 9 r18.1 r18.2).bind fun r19 =>
 (fa P 45 r3.1 3 r19.2).bind fun r20 =>
 (st P 9 r20.1 r19.1 r20.2).bind fun r21 =>
 (fa P 57 r1.1 4 r21.2).bind fun r22 =>
 (ld P 4 r22.1 r22.2).bind fun r23 =>
 (fa P 45 r3.1 4 r23.2).bind fun r24 =>
 (st P 4 r24.1 r23.1 r24.2).bind fun r25 =>
 (ld P 45 r3.1 r25.2).bind fun r26 =>
 (st P 45 r2.1 r26.1 r26.2).bind fun r27 =>
 ((ld P 45 r2.1 r27.2).bind fun r28 => ifP (r28.2 = r27.2) (some r28.1)).bind fun v29 =>
 some (v29, r27.2) := by kernel_rfl
theorem laws_eqChain_fn (x0 x1 : Value) (w : World) : fnC P (EV P) 21 #[x0, x1] w =
 (bx P 25 x0 w).bind fun r1 =>
 (bx P 25 x1 r1.2).bind fun r2 =>
 (vl (.bool false) r2.2).bind fun r3 =>
 (fa P 25 r1.1 0 r3.2).bind fun r4 =>
 (ld P 23 r4.1 r4.2).bind fun r5 =>
 (fa P 25 r2.1 0 r5.2).bind fun r6 =>
 (ld P 23 r6.1 r6.2).bind fun r7 =>
 (EV P 62 #[r5.1, r7.1] r7.2).bind fun r8 =>
 (uo P .not r8.1 r8.2).bind fun r9 =>
 cnd r9.1 (
 (vl (.bool false) r9.2).bind fun r10 =>
 some (r10.1, r10.2)) (
 (vl (.bool true) r9.2).bind fun r11 =>
 some (r11.1, r11.2)) := by kernel_rfl
theorem laws_eqVer_fn (x0 x1 : Value) (w : World) : fnC P (EV P) 22 #[x0, x1] w =
 (bx P 45 x0 w).bind fun r1 =>
 (bx P 45 x1 r1.2).bind fun r2 =>
 (vl (.bool false) r2.2).bind fun r3 =>
 (fa P 45 r1.1 0 r3.2).bind fun r4 =>
 (ld P 3 r4.1 r4.2).bind fun r5 =>
 (fa P 45 r2.1 0 r5.2).bind fun r6 =>
 (ld P 3 r6.1 r6.2).bind fun r7 =>
 (bo P .neq 3 (.tmp 6) (.tmp 8) r5.1 r7.1 r7.2).bind fun r8 =>
 cnd r8.1 (
 (vl (.bool false) r8.2).bind fun r9 =>
 some (r9.1, r9.2)) (
 (fa P 45 r1.1 1 r8.2).bind fun r10 =>
 (ld P 40 r10.1 r10.2).bind fun r11 =>
 (fa P 45 r2.1 1 r11.2).bind fun r12 =>
 (ld P 40 r12.1 r12.2).bind fun r13 =>
 (EV P 63 #[r11.1, r13.1] r13.2).bind fun r14 =>
 (uo P .not r14.1 r14.2).bind fun r15 =>
 cnd r15.1 (
 (vl (.bool false) r15.2).bind fun r16 =>
 some (r16.1, r16.2)) (
 (fa P 45 r1.1 2 r15.2).bind fun r17 =>
 (ld P 43 r17.1 r17.2).bind fun r18 =>
 (fa P 45 r2.1 2 r18.2).bind fun r19 =>
 (ld P 43 r19.1 r19.2).bind fun r20 =>
 (EV P 64 #[r18.1, r20.1] r20.2).bind fun r21 =>
 (uo P .not r21.1 r21.2).bind fun r22 =>
 cnd r22.1 (
 (vl (.bool false) r22.2).bind fun r23 =>
 some (r23.1, r23.2)) (
 (fa P 45 r1.1 3 r22.2).bind fun r24 =>
 (ld P 9 r24.1 r24.2).bind fun r25 =>
 (fa P 45 r2.1 3 r25.2).bind fun r26 =>
 (ld P 9 r26.1 r26.2).bind fun r27 =>
 (bo P .neq 9 (.tmp 23) (.tmp 25) r25.1 r27.1 r27.2).bind fun r28 =>
 cnd r28.1 (
 (vl (.bool false) r28.2).bind fun r29 =>
 some (r29.1, r29.2)) (
 (fa P 45 r1.1 4 r28.2).bind fun r30 =>
 (ld P 4 r30.1 r30.2).bind fun r31 =>
 (fa P 45 r2.1 4 r31.2).bind fun r32 =>
 (ld P 4 r32.1 r32.2).bind fun r33 =>
 (bo P .neq 4 (.tmp 28) (.tmp 30) r31.1 r33.1 r33.2).bind fun r34 =>
 cnd r34.1 (
 (vl (.bool false) r34.2).bind fun r35 =>
 some (r35.1, r35.2)) (
 (vl (.bool true) r34.2).bind fun r36 =>
 some (r36.1, r36.2)))))) := by kernel_rfl
theorem laws_markChain_fn (x0 x1 : Value) (w : World) : fnC P (EV P) 23 #[x0, x1] w =
 (bx P 25 x0 w).bind fun r1 =>
 (vl (.int .i64 0) r1.2).bind fun r2 =>
 (fa P 25 r1.1 0 r2.2).bind fun r3 =>
 (ld P 23 r3.1 r3.2).bind fun r4 =>
 (vl x1 r4.2).bind fun r5 =>
 (EV P 65 #[r4.1, r5.1] r5.2).bind fun r6 =>
 (vl r6.1 r6.2).bind fun r7 =>
 (vl r7.1 r7.2).bind fun r8 =>
 (vl r8.1 r8.2).bind fun r9 =>
 some (r9.1, r9.2) := by kernel_rfl
theorem laws_heldChain_fn (x0 x1 : Value) (w : World) : fnC P (EV P) 25 #[x0, x1] w =
 (bx P 25 x0 w).bind fun r1 =>
 (vl (.int .i64 0) r1.2).bind fun r2 =>
 (fa P 25 r1.1 0 r2.2).bind fun r3 =>
 (ld P 23 r3.1 r3.2).bind fun r4 =>
 (vl x1 r4.2).bind fun r5 =>
 (EV P 67 #[r4.1, r5.1] r5.2).bind fun r6 =>
 (vl r6.1 r6.2).bind fun r7 =>
 (vl r7.1 r7.2).bind fun r8 =>
 (bo P .lss 3 (.tmp 9) (.const (.int .i64 0)) r8.1 (.int .i64 0) r8.2).bind fun r9 =>
 cnd r9.1 (
 (vl (.int .i64 (-1)) r9.2).bind fun r10 =>
 some (r10.1, r10.2)) (
 (vl r7.1 r9.2).bind fun r11 =>
 (vl r11.1 r11.2).bind fun r12 =>
 some (r12.1, r12.2)) := by kernel_rfl
theorem impl_tried_fn (x0 x1 : Value) (w : World) : fnC P (EV P) 29 #[x0, x1] w =
 (bx P 25 x0 w).bind fun r1 =>
 (al P 25 r1.2).bind fun r2 =>
 (vl (.bool false) r2.2).bind fun r3 =>
 (ld P 25 r1.1 r3.2).bind fun r4 =>
 (EV P 72 #[r4.1] r4.2).bind fun r5 =>
 (al P 25 r5.2).bind fun r6 =>
 (st P 25 r6.1 r5.1 r6.2).bind fun r7 =>
 (vl x1 r7.2).bind fun r8 =>
 (clo P r8.1 #[r6.1] r8.2).bind fun r9 =>
 (vl r9.1 r9.2).bind fun r10 =>
 (ld P 25 r6.1 r10.2).bind fun r11 =>
 (vl r10.1 r11.2).bind fun r12 =>
 (st P 25 r2.1 r11.1 r12.2).bind fun r13 =>
 (vl r12.1 r13.2).bind fun r14 =>
 ((ld P 25 r2.1 r14.2).bind fun r15 => ifP (r15.2 = r14.2) (some r15.1)).bind fun v16 =>
 some (.tuple #[v16, r14.1], r14.2) := by kernel_rfl
theorem impl_ChainPass_1_fn (x0 x1 : Value) (w : World) : fnC P (EV P) 30 #[x0, x1] w =
 (vl (.bool false) w).bind fun r1 =>
 (vl x0 r1.2).bind fun r2 =>
 (ld P 3 x1 r2.2).bind fun r3 =>
 (EV P 31 #[r2.1, r3.1] r3.2).bind fun r4 =>
 (vl r4.1 r4.2).bind fun r5 =>
 some (r5.1, r5.2) := by kernel_rfl
theorem impl_Chain_pass_fn (x0 x1 : Value) (w : World) : fnC P (EV P) 31 #[x0, x1] w =
 (vl (.bool false) w).bind fun r1 =>
 (vl x1 r1.2).bind fun r2 =>
 (vl x0 r2.2).bind fun r3 =>
 (nk P r3.1 r3.2).bind fun r4 =>
 (fa P 25 r4.1 0 r4.2).bind fun r5 =>
 (ld P 23 r5.1 r5.2).bind fun r6 =>
 (b_len P #[23] 3 #[r6.1] r6.2).bind fun r7 =>
 (bo P .sub 3 (.tmp 11) (.const (.int .i64 2)) r7.1 (.int .i64 2) r7.2).bind fun r8 =>
 (EV P 73 #[r2.1, (.int .i64 0), r8.1] r8.2).bind fun r9 =>
 (uo P .not r9.1 r9.2).bind fun r10 =>
 (vl r10.1 r10.2).bind fun r11 =>
 (gif r11.1 false (vl x0 r11.2) r11.2).bind fun r12 =>
 (gif r11.1 false (nk P r12.1 r12.2) r12.2).bind fun r13 =>
 (gif r11.1 false (fa P 25 r13.1 0 r13.2) r13.2).bind fun r14 =>
 (gif r11.1 false (ld P 23 r14.1 r14.2) r14.2).bind fun r15 =>
 (gif r11.1 false (vl x1 r15.2) r15.2).bind fun r16 =>
 (gif r11.1 false (ia P 23 r15.1 r16.1 r16.2) r16.2).bind fun r17 =>
 (gif r11.1 false (fa P 36 r17.1 1 r17.2) r17.2).bind fun r18 =>
 (gif r11.1 false (ld P 32 r18.1 r18.2) r18.2).bind fun r19 =>
 (gif r11.1 false (b_len P #[32] 3 #[r19.1] r19.2) r19.2).bind fun r20 =>
 (gif r11.1 false (bo P .eql 3 (.tmp 24) (.const (.int .i64 0)) r20.1 (.int .i64 0) r20.2) r20.2).bind fun r21 =>
 (pickV r11.1 (.bool true) r21.1 r21.2).bind fun r22 =>
 (vl r22.1 r22.2).bind fun r23 =>
 (gif r23.1 false (vl x0 r23.2) r23.2).bind fun r24 =>
 (gif r23.1 false (vl x1 r24.2) r24.2).bind fun r25 =>
 (gif r23.1 false (bo P .add 3 (.tmp 29) (.const (.int .i64 1)) r25.1 (.int .i64 1) r25.2) r25.2).bind fun r26 =>
 (gif r23.1 false (EV P 74 #[r24.1, r26.1] r26.2) r26.2).bind fun r27 =>
 (pickV r23.1 (.bool true) r27.1 r27.2).bind fun r28 =>
 cnd r28.1 (
 (vl (.bool false) r28.2).bind fun r29 =>
 some (r29.1, r29.2)) (
 (vl x0 r28.2).bind fun r30 =>
 (nk P r30.1 r30.2).bind fun r31 =>
 (fa P 25 r31.1 0 r31.2).bind fun r32 =>
 (ld P 23 r32.1 r32.2).bind fun r33 =>
 (vl x1 r33.2).bind fun r34 =>
 (ia P 23 r33.1 r34.1 r34.2).bind fun r35 =>
 (fa P 36 r35.1 1 r35.2).bind fun r36 =>
 (ld P 32 r36.1 r36.2).bind fun r37 =>
 (ia P 32 r37.1 (.int .i64 0) r37.2).bind fun r38 =>
 (ld P 45 r38.1 r38.2).bind fun r39 =>
 (al P 45 r39.2).bind fun r40 =>
 (st P 45 r40.1 r39.1 r40.2).bind fun r41 =>
 (vl x0 (dw r41.2)).bind fun r43 =>
 ifP (r43.2 = (dw r41.2)) <|
 (nk P r43.1 (dw r41.2)).bind fun r44 =>
 ifP (r44.2 = (dw r41.2)) <|
 (fa P 25 r44.1 0 (dw r41.2)).bind fun r45 =>
 ifP (r45.2 = (dw r41.2)) <|
 (ld P 23 r45.1 (dw r41.2)).bind fun r46 =>
 ifP (r46.2 = (dw r41.2)) <|
 (vl x1 (dw r41.2)).bind fun r47 =>
 ifP (r47.2 = (dw r41.2)) <|
 (vl x0 (dw r41.2)).bind fun r48 =>
 ifP (r48.2 = (dw r41.2)) <|
 (nk P r48.1 (dw r41.2)).bind fun r49 =>
 ifP (r49.2 = (dw r41.2)) <|
 (fa P 25 r49.1 0 (dw r41.2)).bind fun r50 =>
 ifP (r50.2 = (dw r41.2)) <|
 (ld P 23 r50.1 (dw r41.2)).bind fun r51 =>
 ifP (r51.2 = (dw r41.2)) <|
 (vl x1 (dw r41.2)).bind fun r52 =>
 ifP (r52.2 = (dw r41.2)) <|
 (ia P 23 r51.1 r52.1 (dw r41.2)).bind fun r53 =>
 ifP (r53.2 = (dw r41.2)) <|
 (fa P 36 r53.1 1 (dw r41.2)).bind fun r54 =>
 ifP (r54.2 = (dw r41.2)) <|
 (ld P 32 r54.1 (dw r41.2)).bind fun r55 =>
 ifP (r55.2 = (dw r41.2)) <|
 (EV P 76 #[r55.1, (.int .i64 0), (.int .i64 1)] (dw r41.2)).bind fun r56 =>
 ifP (True ∧ True ∧ True ∧ True ∧ True ∧ True ∧ ld P 23 r45.1 r56.2 = some (r46.1, r56.2) ∧ fa P 25 r44.1 0 r56.2 = some (r45.1, r56.2) ∧ nk P r43.1 r56.2 = some (r44.1, r56.2) ∧ True) <|
 (EV P 75 #[r56.1] r56.2).bind fun r57 =>
 ifP (True ∧ True ∧ True ∧ True ∧ True ∧ True ∧ ld P 23 r45.1 r57.2 = some (r46.1, r57.2) ∧ fa P 25 r44.1 0 r57.2 = some (r45.1, r57.2) ∧ nk P r43.1 r57.2 = some (r44.1, r57.2) ∧ True) <|
 (ia P 23 r46.1 r47.1 r57.2).bind fun r58 =>
 ifP (r58.2 = r57.2) <|
 (fa P 36 r58.1 1 r57.2).bind fun r59 =>
 ifP (r59.2 = r57.2) <|
 (st P 32 r59.1 r57.1 r57.2).bind fun r60 =>
 ifP (True ∧ True ∧ True ∧ True ∧ True ∧ True ∧ True ∧ True ∧ True ∧ True ∧ True ∧ True) <|
 (vl x0 r60.2).bind fun r61 =>
 (vl x1 r61.2).bind fun r62 =>
 (bo P .add 3 (.tmp 61) (.const (.int .i64 1)) r62.1 (.int .i64 1) r62.2).bind fun r63 =>
 (ld P 45 r40.1 r63.2).bind fun r64 =>
 (EV P 77 #[r61.1, r63.1, r64.1] r64.2).bind fun r65 =>
 (vl (.bool true) r65.2).bind fun r66 =>
 some (r66.1, r66.2)) := by kernel_rfl
noncomputable def spec_l3Ok_l1 (e : Env) (w : World) : Option (Value × World) := exC P (EV P) 32 90 (.loop (cA (cA (cB (cA (cB (bodyOf P 32))))))) e w (kBlock 0 (kSeq P (EV P) 32 90 (cB (cB (bodyOf P 32))) (kFn P (fnOf P 32))))
noncomputable def spec_l3Ok_l2 (e : Env) (w : World) : Option (Value × World) := exC P (EV P) 32 90 (.loop (cA (cA (cB (cA (cB (cA (cA (cB (cA (cA (cB (cA (cB (bodyOf P 32))))))))))))))) e w (kBlock 2 (kSeq P (EV P) 32 90 (cB (cB (cA (cA (cB (cA (cA (cB (cA (cB (bodyOf P 32))))))))))) (kBlock 1 (kSeq P (EV P) 32 90 (cB (cB (cA (cA (cB (cA (cB (bodyOf P 32)))))))) (kLoop P (EV P) 32 90 (cA (cA (cB (cA (cB (bodyOf P 32)))))) (kBlock 0 (kSeq P (EV P) 32 90 (cB (cB (bodyOf P 32))) (kFn P (fnOf P 32)))))))))
theorem spec_l3Ok_l1_eq (e : Env) (w : World) : spec_l3Ok_l1 e w =
 (vl (e 3) w).bind fun r1 =>
 (fa P 25 (e 1) 0 r1.2).bind fun r2 =>
 (ld P 23 r2.1 r2.2).bind fun r3 =>
 (b_len P #[23] 3 #[r3.1] r3.2).bind fun r4 =>
 (bo P .lss 3 (.tmp 6) (.tmp 9) r1.1 r4.1 r4.2).bind fun r5 =>
 cnd r5.1 (
 (fa P 25 (e 1) 0 r5.2).bind fun r6 =>
 (ld P 23 r6.1 r6.2).bind fun r7 =>
 (vl (e 3) r7.2).bind fun r8 =>
 (ia P 23 r7.1 r8.1 r8.2).bind fun r9 =>
 (fa P 36 r9.1 0 r9.2).bind fun r10 =>
 (ld P 34 r10.1 r10.2).bind fun r11 =>
 (EV P 78 #[r11.1] r11.2).bind fun r12 =>
 (uo P .not r12.1 r12.2).bind fun r13 =>
 (vl r13.1 r13.2).bind fun r14 =>
 (gif r14.1 false (fa P 25 (e 1) 0 r14.2) r14.2).bind fun r15 =>
 (gif r14.1 false (ld P 23 r15.1 r15.2) r15.2).bind fun r16 =>
 (gif r14.1 false (vl (e 3) r16.2) r16.2).bind fun r17 =>
 (gif r14.1 false (ia P 23 r16.1 r17.1 r17.2) r17.2).bind fun r18 =>
 (gif r14.1 false (fa P 36 r18.1 1 r18.2) r18.2).bind fun r19 =>
 (gif r14.1 false (ld P 32 r19.1 r19.2) r19.2).bind fun r20 =>
 (gif r14.1 false (b_len P #[32] 3 #[r20.1] r20.2) r20.2).bind fun r21 =>
 (gif r14.1 false (bo P .gtr 3 (.tmp 28) (.const (.int .i64 6)) r21.1 (.int .i64 6) r21.2) r21.2).bind fun r22 =>
 (pickV r14.1 (.bool true) r22.1 r22.2).bind fun r23 =>
 cnd r23.1 (
 (vl (.bool false) r23.2).bind fun r24 =>
 some (r24.1, r24.2)) (
 (vl (.int .i64 0) r23.2).bind fun r25 =>
 spec_l3Ok_l2 (ups e [(6, r1.1), (7, r2.1), (8, r3.1), (9, r4.1), (10, r5.1), (13, r6.1), (14, r7.1), (15, r8.1), (16, r9.1), (17, r10.1), (18, r11.1), (19, r12.1), (20, r13.1), (21, r14.1), (22, r15.1), (23, r16.1), (24, r17.1), (25, r18.1), (26, r19.1), (27, r20.1), (28, r21.1), (29, r22.1), (30, r23.1), (4, r25.1)]) r25.2)) (
 (fa P 25 (e 1) 0 r5.2).bind fun r26 =>
 (ld P 23 r26.1 r26.2).bind fun r27 =>
 (b_len P #[23] 3 #[r27.1] r27.2).bind fun r28 =>
 (vl r28.1 r28.2).bind fun r29 =>
 (vl r29.1 r29.2).bind fun r30 =>
 (EV P 80 #[r30.1, (.int .i64 1), (.int .i64 4)] r30.2).bind fun r31 =>
 (vl r31.1 r31.2).bind fun r32 =>
 (gif r32.1 true (fa P 25 (e 1) 0 r32.2) r32.2).bind fun r33 =>
 (gif r32.1 true (ld P 23 r33.1 r33.2) r33.2).bind fun r34 =>
 (gif r32.1 true (vl r29.1 r34.2) r34.2).bind fun r35 =>
 (gif r32.1 true (bo P .sub 3 (.tmp 82) (.const (.int .i64 1)) r35.1 (.int .i64 1) r35.2) r35.2).bind fun r36 =>
 (gif r32.1 true (ia P 23 r34.1 r36.1 r36.2) r36.2).bind fun r37 =>
 (gif r32.1 true (fa P 36 r37.1 1 r37.2) r37.2).bind fun r38 =>
 (gif r32.1 true (ld P 32 r38.1 r38.2) r38.2).bind fun r39 =>
 (gif r32.1 true (b_len P #[32] 3 #[r39.1] r39.2) r39.2).bind fun r40 =>
 (gif r32.1 true (bo P .eql 3 (.tmp 87) (.const (.int .i64 0)) r40.1 (.int .i64 0) r40.2) r40.2).bind fun r41 =>
 (pickV r32.1 r41.1 (.bool false) r41.2).bind fun r42 =>
 (vl r42.1 r42.2).bind fun r43 =>
 some (r43.1, r43.2)) := (exC_loop P (EV P) 32 90 (cA (cA (cB (cA (cB (bodyOf P 32)))))) e w (kBlock 0 (kSeq P (EV P) 32 90 (cB (cB (bodyOf P 32))) (kFn P (fnOf P 32))))).trans (by kernel_rfl)
theorem spec_l3Ok_l2_eq (e : Env) (w : World) : spec_l3Ok_l2 e w =
 (vl (e 4) w).bind fun r1 =>
 (fa P 25 (e 1) 0 r1.2).bind fun r2 =>
 (ld P 23 r2.1 r2.2).bind fun r3 =>
 (vl (e 3) r3.2).bind fun r4 =>
 (ia P 23 r3.1 r4.1 r4.2).bind fun r5 =>
 (fa P 36 r5.1 1 r5.2).bind fun r6 =>
 (ld P 32 r6.1 r6.2).bind fun r7 =>
 (b_len P #[32] 3 #[r7.1] r7.2).bind fun r8 =>
 (bo P .lss 3 (.tmp 31) (.tmp 38) r1.1 r8.1 r8.2).bind fun r9 =>
 cnd r9.1 (
 (fa P 25 (e 1) 0 r9.2).bind fun r10 =>
 (ld P 23 r10.1 r10.2).bind fun r11 =>
 (vl (e 3) r11.2).bind fun r12 =>
 (ia P 23 r11.1 r12.1 r12.2).bind fun r13 =>
 (fa P 36 r13.1 1 r13.2).bind fun r14 =>
 (ld P 32 r14.1 r14.2).bind fun r15 =>
 (vl (e 4) r15.2).bind fun r16 =>
 (ia P 32 r15.1 r16.1 r16.2).bind fun r17 =>
 (ld P 45 r17.1 r17.2).bind fun r18 =>
 (EV P 54 #[r18.1] r18.2).bind fun r19 =>
 (uo P .not r19.1 r19.2).bind fun r20 =>
 cnd r20.1 (
 (vl (.bool false) r20.2).bind fun r21 =>
 some (r21.1, r21.2)) (
 (vl (e 4) r20.2).bind fun r22 =>
 (bo P .add 3 (.tmp 40) (.const (.int .i64 1)) r22.1 (.int .i64 1) r22.2).bind fun r23 =>
 (vl r23.1 r23.2).bind fun r24 =>
 spec_l3Ok_l2 (ups e [(31, r1.1), (32, r2.1), (33, r3.1), (34, r4.1), (35, r5.1), (36, r6.1), (37, r7.1), (38, r8.1), (39, r9.1), (42, r10.1), (43, r11.1), (44, r12.1), (45, r13.1), (46, r14.1), (47, r15.1), (48, r16.1), (49, r17.1), (50, r18.1), (51, r19.1), (52, r20.1), (40, r22.1), (41, r23.1), (4, r24.1)]) r24.2)) (
 (vl (e 3) (dw r9.2)).bind fun r26 =>
 ifP (r26.2 = (dw r9.2)) <|
 (bo P .add 3 (.tmp 53) (.const (.int .i64 1)) r26.1 (.int .i64 1) (dw r9.2)).bind fun r27 =>
 ifP (r27.2 = (dw r9.2)) <|
 (fa P 25 (e 1) 0 (dw r9.2)).bind fun r28 =>
 ifP (r28.2 = (dw r9.2)) <|
 (ld P 23 r28.1 (dw r9.2)).bind fun r29 =>
 ifP (r29.2 = (dw r9.2)) <|
 (b_len P #[23] 3 #[r29.1] (dw r9.2)).bind fun r30 =>
 ifP (r30.2 = (dw r9.2)) <|
 (bo P .lss 3 (.tmp 54) (.tmp 57) r27.1 r30.1 (dw r9.2)).bind fun r31 =>
 ifP (r31.2 = (dw r9.2)) <|
 (vl r31.1 (dw r9.2)).bind fun r32 =>
 ifP (r32.2 = (dw r9.2)) <|
 (gif r32.1 true (fa P 25 (e 1) 0 (dw r9.2)) (dw r9.2)).bind fun r33 =>
 ifP (r33.2 = (dw r9.2)) <|
 (gif r32.1 true (ld P 23 r33.1 (dw r9.2)) (dw r9.2)).bind fun r34 =>
 ifP (r34.2 = (dw r9.2)) <|
 (gif r32.1 true (vl (e 3) (dw r9.2)) (dw r9.2)).bind fun r35 =>
 ifP (r35.2 = (dw r9.2)) <|
 (gif r32.1 true (ia P 23 r34.1 r35.1 (dw r9.2)) (dw r9.2)).bind fun r36 =>
 ifP (r36.2 = (dw r9.2)) <|
 (gif r32.1 true (ld P 36 r36.1 (dw r9.2)) (dw r9.2)).bind fun r37 =>
 ifP (r37.2 = (dw r9.2)) <|
 (gif r32.1 true (fa P 25 (e 1) 0 (dw r9.2)) (dw r9.2)).bind fun r38 =>
 ifP (r38.2 = (dw r9.2)) <|
 (gif r32.1 true (ld P 23 r38.1 (dw r9.2)) (dw r9.2)).bind fun r39 =>
 ifP (r39.2 = (dw r9.2)) <|
 (gif r32.1 true (vl (e 3) (dw r9.2)) (dw r9.2)).bind fun r40 =>
 ifP (r40.2 = (dw r9.2)) <|
 (gif r32.1 true (bo P .add 3 (.tmp 67) (.const (.int .i64 1)) r40.1 (.int .i64 1) (dw r9.2)) (dw r9.2)).bind fun r41 =>
 ifP (r41.2 = (dw r9.2)) <|
 (gif r32.1 true (ia P 23 r39.1 r41.1 (dw r9.2)) (dw r9.2)).bind fun r42 =>
 ifP (r42.2 = (dw r9.2)) <|
 (gif r32.1 true (ld P 36 r42.1 (dw r9.2)) (dw r9.2)).bind fun r43 =>
 ifP (r43.2 = (dw r9.2)) <|
 (gif r32.1 true (EV P 79 #[r37.1, r43.1] (dw r9.2)) (dw r9.2)).bind fun r44 =>
 ifP (True ∧ True ∧ True ∧ True ∧ True ∧ True ∧ True ∧ True ∧ True ∧ True ∧ True ∧ True ∧ True ∧ True ∧ True) <|
 (gif r32.1 true (uo P .not r44.1 r44.2) r44.2).bind fun r45 =>
 ifP (r45.2 = r44.2) <|
 (pickV r32.1 r45.1 (.bool false) r44.2).bind fun r46 =>
 ifP (r46.2 = r44.2) <|
 cnd r46.1 (
 (vl (.bool false) r44.2).bind fun r47 =>
 some (r47.1, r47.2)) (
 (vl (e 3) r44.2).bind fun r48 =>
 (bo P .add 3 (.tmp 11) (.const (.int .i64 1)) r48.1 (.int .i64 1) r48.2).bind fun r49 =>
 (vl r49.1 r49.2).bind fun r50 =>
 spec_l3Ok_l1 (ups e [(31, r1.1), (32, r2.1), (33, r3.1), (34, r4.1), (35, r5.1), (36, r6.1), (37, r7.1), (38, r8.1), (39, r9.1), (53, r26.1), (54, r27.1), (55, r28.1), (56, r29.1), (57, r30.1), (58, r31.1), (59, r32.1), (60, r33.1), (61, r34.1), (62, r35.1), (63, r36.1), (64, r37.1), (65, r38.1), (66, r39.1), (67, r40.1), (68, r41.1), (69, r42.1), (70, r43.1), (71, r44.1), (72, r45.1), (73, r46.1), (11, r48.1), (12, r49.1), (3, r50.1)]) r50.2)) := (exC_loop P (EV P) 32 90 (cA (cA (cB (cA (cB (cA (cA (cB (cA (cA (cB (cA (cB (bodyOf P 32)))))))))))))) e w (kBlock 2 (kSeq P (EV P) 32 90 (cB (cB (cA (cA (cB (cA (cA (cB (cA (cB (bodyOf P 32))))))))))) (kBlock 1 (kSeq P (EV P) 32 90 (cB (cB (cA (cA (cB (cA (cB (bodyOf P 32)))))))) (kLoop P (EV P) 32 90 (cA (cA (cB (cA (cB (bodyOf P 32)))))) (kBlock 0 (kSeq P (EV P) 32 90 (cB (cB (bodyOf P 32))) (kFn P (fnOf P 32)))))))))).trans (by kernel_rfl)
theorem spec_l3Ok_fn (x0 : Value) (w : World) : fnC P (EV P) 32 #[x0] w =
 (bx P 25 x0 w).bind fun r1 =>
 (vl (.bool false) r1.2).bind fun r2 =>
 (vl (.int .i64 0) r2.2).bind fun r3 =>
 spec_l3Ok_l1 (ups (env0 #[x0]) [(1, r1.1), (2, r2.1), (3, r3.1)]) r3.2 := by kernel_rfl
end Go.Proofs.YthicfemhpnnaaaaGreat.X
