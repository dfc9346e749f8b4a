/- A part of the proof: an evaluator of the model, its laws, and contracts of functions; no condition. -/
import Derived.Test.YtcafhepclddcaaaEvT
set_option linter.unusedVariables false
set_option maxRecDepth 100000
namespace Go.Proofs.Ytcafhepclddcaaa.X
open Go Go.Ev
theorem laws_FnExactRingAdd_fn (x0 x1 : Value) (w : World) : fnC P (EV P) 10 #[x0, x1] w =
 (bx P 53 x0 w).bind fun r1 =>
 (vl (.bool false) r1.2).bind fun r2 =>
 (vl x1 r2.2).bind fun r3 =>
 (b_len P #[9] 3 #[r3.1] r3.2).bind fun r4 =>
 (bo P .gtr 3 (.tmp 17) (.const (.int .i64 1048576)) r4.1 (.int .i64 1048576) r4.2).bind fun r5 =>
 cnd r5.1 (
 (vl (.bool true) r5.2).bind fun r6 =>
 some (r6.1, r6.2)) (
 (vl (.int .i64 1048576) r5.2).bind fun r7 =>
 (ld P 53 r1.1 r7.2).bind fun r8 =>
 (vl r7.1 r8.2).bind fun r9 =>
 (EV P 37 #[r8.1, r9.1] r9.2).bind fun r10 =>
 (vl r10.1 r10.2).bind fun r11 =>
 (vl r11.1 r11.2).bind fun r12 =>
 (bo P .lss 3 (.tmp 22) (.const (.int .i64 0)) r12.1 (.int .i64 0) r12.2).bind fun r13 =>
 cnd r13.1 (
 (vl (.bool true) r13.2).bind fun r14 =>
 some (r14.1, r14.2)) (
 (ld P 53 r1.1 r13.2).bind fun r15 =>
 (EV P 39 #[r15.1] r15.2).bind fun r16 =>
 (vl x1 r16.2).bind fun r17 =>
 (EV P 38 #[r16.1, r17.1] r17.2).bind fun r18 =>
 (vl r18.1 r18.2).bind fun r19 =>
 (xt P r19.1 0 r19.2).bind fun r20 =>
 (xt P r19.1 1 r20.2).bind fun r21 =>
 (al P 55 r21.2).bind fun r22 =>
 (st P 55 r22.1 r20.1 r22.2).bind fun r23 =>
 (vl r21.1 r23.2).bind fun r24 =>
 (ld P 53 r1.1 r24.2).bind fun r25 =>
 (EV P 39 #[r25.1] r25.2).bind fun r26 =>
 (al P 55 r26.2).bind fun r27 =>
 (st P 55 r27.1 r26.1 r27.2).bind fun r28 =>
 (ld P 55 r27.1 r28.2).bind fun r29 =>
 (vl x1 r29.2).bind fun r30 =>
 (EV P 40 #[r29.1, r30.1] r30.2).bind fun r31 =>
 (vl r31.1 r31.2).bind fun r32 =>
 (xt P r32.1 0 r32.2).bind fun r33 =>
 (xt P r32.1 1 r33.2).bind fun r34 =>
 (al P 55 r34.2).bind fun r35 =>
 (st P 55 r35.1 r33.1 r35.2).bind fun r36 =>
 (vl r34.1 r36.2).bind fun r37 =>
 (ld P 55 r35.1 r37.2).bind fun r38 =>
 (ld P 55 r22.1 r38.2).bind fun r39 =>
 (EV P 41 #[r38.1, r39.1] r39.2).bind fun r40 =>
 (uo P .not r40.1 r40.2).bind fun r41 =>
 (vl r41.1 r41.2).bind fun r42 =>
 (gif r42.1 false (vl r37.1 r42.2) r42.2).bind fun r43 =>
 (gif r42.1 false (vl r24.1 r43.2) r43.2).bind fun r44 =>
 (gif r42.1 false (bo P .neq 4 (.tmp 44) (.tmp 45) r43.1 r44.1 r44.2) r44.2).bind fun r45 =>
 (pickV r42.1 (.bool true) r45.1 r45.2).bind fun r46 =>
 cnd r46.1 (
 (vl (.bool false) r46.2).bind fun r47 =>
 some (r47.1, r47.2)) (
 (ld P 55 r27.1 (dw r46.2)).bind fun r49 =>
 ifP (r49.2 = (dw r46.2)) <|
 (ld P 53 r1.1 (dw r46.2)).bind fun r50 =>
 ifP (r50.2 = (dw r46.2)) <|
 (EV P 39 #[r50.1] (dw r46.2)).bind fun r51 =>
 ifP (True ∧ ld P 55 r27.1 r51.2 = some (r49.1, r51.2) ∧ True) <|
 (EV P 41 #[r49.1, r51.1] r51.2).bind fun r52 =>
 ifP (True ∧ True ∧ True) <|
 (uo P .not r52.1 r52.2).bind fun r53 =>
 ifP (r53.2 = r52.2) <|
 cnd r53.1 (
 (vl (.bool false) r52.2).bind fun r54 =>
 some (r54.1, r54.2)) (
 (vl (.int .i64 1) r52.2).bind fun r55 =>
 (ld P 55 r27.1 r55.2).bind fun r56 =>
 (vl r55.1 r56.2).bind fun r57 =>
 (EV P 42 #[r56.1, r57.1] r57.2).bind fun r58 =>
 (vl r58.1 r58.2).bind fun r59 =>
 (vl r59.1 r59.2).bind fun r60 =>
 (bo P .lss 3 (.tmp 56) (.const (.int .i64 0)) r60.1 (.int .i64 0) r60.2).bind fun r61 =>
 (vl r61.1 r61.2).bind fun r62 =>
 (gif r62.1 false (ld P 55 r35.1 r62.2) r62.2).bind fun r63 =>
 (gif r62.1 false (ld P 55 r22.1 r63.2) r63.2).bind fun r64 =>
 (gif r62.1 false (EV P 41 #[r63.1, r64.1] r64.2) r64.2).bind fun r65 =>
 (gif r62.1 false (uo P .not r65.1 r65.2) r65.2).bind fun r66 =>
 (pickV r62.1 (.bool true) r66.1 r66.2).bind fun r67 =>
 (vl r67.1 r67.2).bind fun r68 =>
 (gif r68.1 false (vl r37.1 r68.2) r68.2).bind fun r69 =>
 (gif r68.1 false (vl r24.1 r69.2) r69.2).bind fun r70 =>
 (gif r68.1 false (bo P .neq 4 (.tmp 65) (.tmp 66) r69.1 r70.1 r70.2) r70.2).bind fun r71 =>
 (pickV r68.1 (.bool true) r71.1 r71.2).bind fun r72 =>
 cnd r72.1 (
 (vl (.bool false) r72.2).bind fun r73 =>
 some (r73.1, r73.2)) (
 (vl (.int .i64 1) r72.2).bind fun r74 =>
 (ld P 55 r35.1 r74.2).bind fun r75 =>
 (vl r74.1 r75.2).bind fun r76 =>
 (EV P 42 #[r75.1, r76.1] r76.2).bind fun r77 =>
 (vl r77.1 r77.2).bind fun r78 =>
 (vl (.int .i64 1) r78.2).bind fun r79 =>
 (ld P 55 r35.1 r79.2).bind fun r80 =>
 (vl r79.1 r80.2).bind fun r81 =>
 (EV P 43 #[r80.1, r81.1] r81.2).bind fun r82 =>
 (vl r82.1 r82.2).bind fun r83 =>
 (vl r83.1 r83.2).bind fun r84 =>
 (bo P .lss 3 (.tmp 75) (.const (.int .i64 0)) r84.1 (.int .i64 0) r84.2).bind fun r85 =>
 cnd r85.1 (
 (vl (.bool false) r85.2).bind fun r86 =>
 some (r86.1, r86.2)) (
 (vl r83.1 r85.2).bind fun r87 =>
 (vl r78.1 r87.2).bind fun r88 =>
 (bo P .neq 3 (.tmp 77) (.tmp 78) r87.1 r88.1 r88.2).bind fun r89 =>
 cnd r89.1 (
 (vl (.bool false) r89.2).bind fun r90 =>
 some (r90.1, r90.2)) (
 (ld P 53 r1.1 r89.2).bind fun r91 =>
 (EV P 39 #[r91.1] r91.2).bind fun r92 =>
 (vl x1 r92.2).bind fun r93 =>
 (EV P 40 #[r92.1, r93.1] r93.2).bind fun r94 =>
 (vl r94.1 r94.2).bind fun r95 =>
 (xt P r95.1 0 r95.2).bind fun r96 =>
 (xt P r95.1 1 r96.2).bind fun r97 =>
 (al P 55 r97.2).bind fun r98 =>
 (st P 55 r98.1 r96.1 r98.2).bind fun r99 =>
 (vl r97.1 r99.2).bind fun r100 =>
 (ld P 55 r98.1 r100.2).bind fun r101 =>
 (ld P 55 r22.1 r101.2).bind fun r102 =>
 (EV P 41 #[r101.1, r102.1] r102.2).bind fun r103 =>
 (uo P .not r103.1 r103.2).bind fun r104 =>
 (vl r104.1 r104.2).bind fun r105 =>
 (gif r105.1 false (vl r100.1 r105.2) r105.2).bind fun r106 =>
 (gif r105.1 false (vl r24.1 r106.2) r106.2).bind fun r107 =>
 (gif r105.1 false (bo P .neq 4 (.tmp 92) (.tmp 93) r106.1 r107.1 r107.2) r107.2).bind fun r108 =>
 (pickV r105.1 (.bool true) r108.1 r108.2).bind fun r109 =>
 cnd r109.1 (
 (vl (.bool false) r109.2).bind fun r110 =>
 some (r110.1, r110.2)) (
 (vl (.int .i64 1) r109.2).bind fun r111 =>
 (ld P 55 r35.1 r111.2).bind fun r112 =>
 (vl r111.1 r112.2).bind fun r113 =>
 (EV P 43 #[r112.1, r113.1] r113.2).bind fun r114 =>
 (vl r114.1 r114.2).bind fun r115 =>
 (vl r115.1 r115.2).bind fun r116 =>
 (bo P .lss 3 (.tmp 99) (.const (.int .i64 0)) r116.1 (.int .i64 0) r116.2).bind fun r117 =>
 cnd r117.1 (
 (vl (.bool false) r117.2).bind fun r118 =>
 some (r118.1, r118.2)) (
 (vl r115.1 r117.2).bind fun r119 =>
 (vl r78.1 r119.2).bind fun r120 =>
 (bo P .neq 3 (.tmp 101) (.tmp 102) r119.1 r120.1 r120.2).bind fun r121 =>
 cnd r121.1 (
 (vl (.bool false) r121.2).bind fun r122 =>
 some (r122.1, r122.2)) (
 (vl (.bool true) r121.2).bind fun r123 =>
 some (r123.1, r123.2))))))))))) := by kernel_rfl
end Go.Proofs.Ytcafhepclddcaaa.X
