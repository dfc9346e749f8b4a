/- A part of the proof: an evaluator of the model, its laws, and contracts of functions; no condition. -/
import Derived.Test.YtgdacclgooaodaaGreatDoorEvT
set_option linter.unusedVariables false
set_option maxRecDepth 100000
namespace Go.Proofs.YtgdacclgooaodaaGreatDoor.X
open Go Go.Ev
theorem spec_l20Rd_pick_fn (x0 x1 : Value) (w : World) : fnC P (EV P) 44 #[x0, x1] w =
 (vl (.int .i64 0) w).bind fun r1 =>
 (vl x0 r1.2).bind fun r2 =>
 (vl x0 r2.2).bind fun r3 =>
 (nk P r3.1 r3.2).bind fun r4 =>
 (fa P 86 r4.1 1 r4.2).bind fun r5 =>
 (ld P 3 r5.1 r5.2).bind fun r6 =>
 (bo P .add 3 (.tmp 11) (.const (.int .i64 1)) r6.1 (.int .i64 1) r6.2).bind fun r7 =>
 (nk P r2.1 r7.2).bind fun r8 =>
 (fa P 86 r8.1 1 r8.2).bind fun r9 =>
 (st P 3 r9.1 r7.1 r9.2).bind fun r10 =>
 (vl x1 r10.2).bind fun r11 =>
 (bo P .lss 3 (.tmp 15) (.const (.int .i64 1)) r11.1 (.int .i64 1) r11.2).bind fun r12 =>
 (vl r12.1 r12.2).bind fun r13 =>
 (gif r13.1 false (vl x0 r13.2) r13.2).bind fun r14 =>
 (gif r13.1 false (nk P r14.1 r14.2) r14.2).bind fun r15 =>
 (gif r13.1 false (fa P 86 r15.1 0 r15.2) r15.2).bind fun r16 =>
 (gif r13.1 false (ld P 34 r16.1 r16.2) r16.2).bind fun r17 =>
 (gif r13.1 false (b_len P #[34] 3 #[r17.1] r17.2) r17.2).bind fun r18 =>
 (gif r13.1 false (bo P .eql 3 (.tmp 22) (.const (.int .i64 0)) r18.1 (.int .i64 0) r18.2) r18.2).bind fun r19 =>
 (pickV r13.1 (.bool true) r19.1 r19.2).bind fun r20 =>
 cnd r20.1 (
 (vl (.int .i64 0) r20.2).bind fun r21 =>
 some (r21.1, r21.2)) (
 (vl x0 r20.2).bind fun r22 =>
 (nk P r22.1 r22.2).bind fun r23 =>
 (fa P 86 r23.1 1 r23.2).bind fun r24 =>
 (ld P 3 r24.1 r24.2).bind fun r25 =>
 (bo P .sub 3 (.tmp 28) (.const (.int .i64 1)) r25.1 (.int .i64 1) r25.2).bind fun r26 =>
 (vl r26.1 r26.2).bind fun r27 =>
 (vl r27.1 r27.2).bind fun r28 =>
 (vl x0 r28.2).bind fun r29 =>
 (nk P r29.1 r29.2).bind fun r30 =>
 (fa P 86 r30.1 0 r30.2).bind fun r31 =>
 (ld P 34 r31.1 r31.2).bind fun r32 =>
 (b_len P #[34] 3 #[r32.1] r32.2).bind fun r33 =>
 (bo P .lss 3 (.tmp 30) (.tmp 35) r28.1 r33.1 r33.2).bind fun r34 =>
 cnd r34.1 (
 (vl x0 r34.2).bind fun r35 =>
 (nk P r35.1 r35.2).bind fun r36 =>
 (fa P 86 r36.1 0 r36.2).bind fun r37 =>
 (ld P 34 r37.1 r37.2).bind fun r38 =>
 (vl r27.1 r38.2).bind fun r39 =>
 (ia P 34 r38.1 r39.1 r39.2).bind fun r40 =>
 (ld P 5 r40.1 r40.2).bind fun r41 =>
 (cv P 5 3 r41.1 r41.2).bind fun r42 =>
 (vl x1 r42.2).bind fun r43 =>
 (bo P .rem 3 (.tmp 44) (.tmp 45) r42.1 r43.1 r43.2).bind fun r44 =>
 (vl r44.1 r44.2).bind fun r45 =>
 some (r45.1, r45.2)) (
 (vl x0 (dw r34.2)).bind fun r47 =>
 ifP (r47.2 = (dw r34.2)) <|
 (nk P r47.1 (dw r34.2)).bind fun r48 =>
 ifP (r48.2 = (dw r34.2)) <|
 (fa P 86 r48.1 0 (dw r34.2)).bind fun r49 =>
 ifP (r49.2 = (dw r34.2)) <|
 (ld P 34 r49.1 (dw r34.2)).bind fun r50 =>
 ifP (r50.2 = (dw r34.2)) <|
 (vl r27.1 (dw r34.2)).bind fun r51 =>
 ifP (r51.2 = (dw r34.2)) <|
 (vl x0 (dw r34.2)).bind fun r52 =>
 ifP (r52.2 = (dw r34.2)) <|
 (nk P r52.1 (dw r34.2)).bind fun r53 =>
 ifP (r53.2 = (dw r34.2)) <|
 (fa P 86 r53.1 0 (dw r34.2)).bind fun r54 =>
 ifP (r54.2 = (dw r34.2)) <|
 (ld P 34 r54.1 (dw r34.2)).bind fun r55 =>
 ifP (r55.2 = (dw r34.2)) <|
 (b_len P #[34] 3 #[r55.1] (dw r34.2)).bind fun r56 =>
 ifP (r56.2 = (dw r34.2)) <|
 (bo P .rem 3 (.tmp 51) (.tmp 56) r51.1 r56.1 (dw r34.2)).bind fun r57 =>
 ifP (r57.2 = (dw r34.2)) <|
 (ia P 34 r50.1 r57.1 (dw r34.2)).bind fun r58 =>
 ifP (r58.2 = (dw r34.2)) <|
 (ld P 5 r58.1 (dw r34.2)).bind fun r59 =>
 ifP (r59.2 = (dw r34.2)) <|
 (cv P 5 3 r59.1 (dw r34.2)).bind fun r60 =>
 ifP (r60.2 = (dw r34.2)) <|
 (bo P .mul 3 (.tmp 60) (.const (.int .i64 131)) r60.1 (.int .i64 131) (dw r34.2)).bind fun r61 =>
 ifP (r61.2 = (dw r34.2)) <|
 (vl x0 (dw r34.2)).bind fun r62 =>
 ifP (r62.2 = (dw r34.2)) <|
 (nk P r62.1 (dw r34.2)).bind fun r63 =>
 ifP (r63.2 = (dw r34.2)) <|
 (fa P 86 r63.1 0 (dw r34.2)).bind fun r64 =>
 ifP (r64.2 = (dw r34.2)) <|
 (ld P 34 r64.1 (dw r34.2)).bind fun r65 =>
 ifP (r65.2 = (dw r34.2)) <|
 (vl r27.1 (dw r34.2)).bind fun r66 =>
 ifP (r66.2 = (dw r34.2)) <|
 (bo P .mul 3 (.tmp 66) (.const (.int .i64 7)) r66.1 (.int .i64 7) (dw r34.2)).bind fun r67 =>
 ifP (r67.2 = (dw r34.2)) <|
 (bo P .add 3 (.tmp 67) (.const (.int .i64 3)) r67.1 (.int .i64 3) (dw r34.2)).bind fun r68 =>
 ifP (r68.2 = (dw r34.2)) <|
 (vl x0 (dw r34.2)).bind fun r69 =>
 ifP (r69.2 = (dw r34.2)) <|
 (nk P r69.1 (dw r34.2)).bind fun r70 =>
 ifP (r70.2 = (dw r34.2)) <|
 (fa P 86 r70.1 0 (dw r34.2)).bind fun r71 =>
 ifP (r71.2 = (dw r34.2)) <|
 (ld P 34 r71.1 (dw r34.2)).bind fun r72 =>
 ifP (r72.2 = (dw r34.2)) <|
 (b_len P #[34] 3 #[r72.1] (dw r34.2)).bind fun r73 =>
 ifP (r73.2 = (dw r34.2)) <|
 (bo P .rem 3 (.tmp 68) (.tmp 73) r68.1 r73.1 (dw r34.2)).bind fun r74 =>
 ifP (r74.2 = (dw r34.2)) <|
 (ia P 34 r65.1 r74.1 (dw r34.2)).bind fun r75 =>
 ifP (r75.2 = (dw r34.2)) <|
 (ld P 5 r75.1 (dw r34.2)).bind fun r76 =>
 ifP (r76.2 = (dw r34.2)) <|
 (cv P 5 3 r76.1 (dw r34.2)).bind fun r77 =>
 ifP (r77.2 = (dw r34.2)) <|
 (bo P .mul 3 (.tmp 77) (.const (.int .i64 1117)) r77.1 (.int .i64 1117) (dw r34.2)).bind fun r78 =>
 ifP (r78.2 = (dw r34.2)) <|
 (bo P .add 3 (.tmp 61) (.tmp 78) r61.1 r78.1 (dw r34.2)).bind fun r79 =>
 ifP (r79.2 = (dw r34.2)) <|
 (vl r27.1 (dw r34.2)).bind fun r80 =>
 ifP (r80.2 = (dw r34.2)) <|
 (bo P .mul 3 (.tmp 80) (.const (.int .i64 29)) r80.1 (.int .i64 29) (dw r34.2)).bind fun r81 =>
 ifP (r81.2 = (dw r34.2)) <|
 (bo P .add 3 (.tmp 79) (.tmp 81) r79.1 r81.1 (dw r34.2)).bind fun r82 =>
 ifP (r82.2 = (dw r34.2)) <|
 (vl r27.1 (dw r34.2)).bind fun r83 =>
 ifP (r83.2 = (dw r34.2)) <|
 (vl x0 (dw r34.2)).bind fun r84 =>
 ifP (r84.2 = (dw r34.2)) <|
 (nk P r84.1 (dw r34.2)).bind fun r85 =>
 ifP (r85.2 = (dw r34.2)) <|
 (fa P 86 r85.1 0 (dw r34.2)).bind fun r86 =>
 ifP (r86.2 = (dw r34.2)) <|
 (ld P 34 r86.1 (dw r34.2)).bind fun r87 =>
 ifP (r87.2 = (dw r34.2)) <|
 (b_len P #[34] 3 #[r87.1] (dw r34.2)).bind fun r88 =>
 ifP (r88.2 = (dw r34.2)) <|
 (bo P .quo 3 (.tmp 83) (.tmp 88) r83.1 r88.1 (dw r34.2)).bind fun r89 =>
 ifP (r89.2 = (dw r34.2)) <|
 (bo P .mul 3 (.tmp 89) (.const (.int .i64 53)) r89.1 (.int .i64 53) (dw r34.2)).bind fun r90 =>
 ifP (r90.2 = (dw r34.2)) <|
 (bo P .add 3 (.tmp 82) (.tmp 90) r82.1 r90.1 (dw r34.2)).bind fun r91 =>
 ifP (r91.2 = (dw r34.2)) <|
 (vl r91.1 (dw r34.2)).bind fun r92 =>
 ifP (r92.2 = (dw r34.2)) <|
 (vl r92.1 (dw r34.2)).bind fun r93 =>
 (vl r92.1 r93.2).bind fun r94 =>
 (bo P .quo 3 (.tmp 93) (.const (.int .i64 64)) r94.1 (.int .i64 64) r94.2).bind fun r95 =>
 (bo P .xor 3 (.tmp 92) (.tmp 94) r93.1 r95.1 r95.2).bind fun r96 =>
 (vl r96.1 r96.2).bind fun r97 =>
 (vl r97.1 r97.2).bind fun r98 =>
 (vl x1 r98.2).bind fun r99 =>
 (bo P .rem 3 (.tmp 96) (.tmp 97) r98.1 r99.1 r99.2).bind fun r100 =>
 (vl r100.1 r100.2).bind fun r101 =>
 some (r101.1, r101.2))) := by kernel_rfl
theorem spec_l1In_fn (x0 x1 x2 : Value) (w : World) : fnC P (EV P) 48 #[x0, x1, x2] w =
 (vl (.bool false) w).bind fun r1 =>
 (vl x0 r1.2).bind fun r2 =>
 (vl x1 r2.2).bind fun r3 =>
 (bo P .geq 3 (.tmp 7) (.tmp 8) r2.1 r3.1 r3.2).bind fun r4 =>
 (vl r4.1 r4.2).bind fun r5 =>
 (gif r5.1 true (vl x0 r5.2) r5.2).bind fun r6 =>
 (gif r5.1 true (vl x2 r6.2) r6.2).bind fun r7 =>
 (gif r5.1 true (bo P .leq 3 (.tmp 11) (.tmp 12) r6.1 r7.1 r7.2) r7.2).bind fun r8 =>
 (pickV r5.1 r8.1 (.bool false) r8.2).bind fun r9 =>
 (vl r9.1 r9.2).bind fun r10 =>
 some (r10.1, r10.2) := by kernel_rfl
noncomputable def spec_l2TextOk_l1 (e : Env) (w : World) : Option (Value × World) := exC P (EV P) 49 23 (.loop (cA (cA (cB (cA (cB (bodyOf P 49))))))) e w (kBlock 0 (kSeq P (EV P) 49 23 (cB (cB (bodyOf P 49))) (kFn P (fnOf P 49))))
theorem spec_l2TextOk_l1_eq (e : Env) (w : World) : spec_l2TextOk_l1 e w =
 (vl (e 3) w).bind fun r1 =>
 (vl (e 0) r1.2).bind fun r2 =>
 (b_len P #[9] 3 #[r2.1] r2.2).bind fun r3 =>
 (bo P .lss 3 (.tmp 4) (.tmp 6) r1.1 r3.1 r3.2).bind fun r4 =>
 cnd r4.1 (
 (vl (e 0) r4.2).bind fun r5 =>
 (vl (e 3) r5.2).bind fun r6 =>
 (ix P 9 r5.1 r6.1 r6.2).bind fun r7 =>
 (bo P .lss 5 (.tmp 12) (.const (.int .u8 33)) r7.1 (.int .u8 33) r7.2).bind fun r8 =>
 (vl r8.1 r8.2).bind fun r9 =>
 (gif r9.1 false (vl (e 0) r9.2) r9.2).bind fun r10 =>
 (gif r9.1 false (vl (e 3) r10.2) r10.2).bind fun r11 =>
 (gif r9.1 false (ix P 9 r10.1 r11.1 r11.2) r11.2).bind fun r12 =>
 (gif r9.1 false (bo P .gtr 5 (.tmp 17) (.const (.int .u8 126)) r12.1 (.int .u8 126) r12.2) r12.2).bind fun r13 =>
 (pickV r9.1 (.bool true) r13.1 r13.2).bind fun r14 =>
 cnd r14.1 (
 (vl (.bool false) r14.2).bind fun r15 =>
 some (r15.1, r15.2)) (
 (vl (e 3) r14.2).bind fun r16 =>
 (bo P .add 3 (.tmp 8) (.const (.int .i64 1)) r16.1 (.int .i64 1) r16.2).bind fun r17 =>
 (vl r17.1 r17.2).bind fun r18 =>
 spec_l2TextOk_l1 (ups e [(4, r1.1), (5, r2.1), (6, r3.1), (7, r4.1), (10, r5.1), (11, r6.1), (12, r7.1), (13, r8.1), (14, r9.1), (15, r10.1), (16, r11.1), (17, r12.1), (18, r13.1), (19, r14.1), (8, r16.1), (9, r17.1), (3, r18.1)]) r18.2)) (
 (vl (e 0) r4.2).bind fun r19 =>
 (b_len P #[9] 3 #[r19.1] r19.2).bind fun r20 =>
 (bo P .leq 3 (.tmp 21) (.const (.int .i64 8)) r20.1 (.int .i64 8) r20.2).bind fun r21 =>
 (vl r21.1 r21.2).bind fun r22 =>
 some (r22.1, r22.2)) := (exC_loop P (EV P) 49 23 (cA (cA (cB (cA (cB (bodyOf P 49)))))) e w (kBlock 0 (kSeq P (EV P) 49 23 (cB (cB (bodyOf P 49))) (kFn P (fnOf P 49))))).trans (by kernel_rfl)
theorem spec_l2TextOk_fn (x0 : Value) (w : World) : fnC P (EV P) 49 #[x0] w =
 (vl (.bool false) w).bind fun r1 =>
 (vl (.int .i64 0) r1.2).bind fun r2 =>
 spec_l2TextOk_l1 (ups (env0 #[x0]) [(2, r1.1), (3, r2.1)]) r2.2 := by kernel_rfl
theorem spec_l1TagOk_fn (x0 : Value) (w : World) : fnC P (EV P) 50 #[x0] w =
 (bx P 23 x0 w).bind fun r1 =>
 (vl (.bool false) r1.2).bind fun r2 =>
 (ld P 23 r1.1 r2.2).bind fun r3 =>
 (bd P 23 #[] r3.2).bind fun r4 =>
 (bo P .eql 23 (.tmp 3) (.tmp 4) r3.1 r4.1 r4.2).bind fun r5 =>
 (vl r5.1 r5.2).bind fun r6 =>
 (gif r6.1 false (fa P 23 r1.1 0 r6.2) r6.2).bind fun r7 =>
 (gif r6.1 false (ld P 3 r7.1 r7.2) r7.2).bind fun r8 =>
 (gif r6.1 false (EV P 48 #[r8.1, (.int .i64 1), (.int .i64 999)] r8.2) r8.2).bind fun r9 =>
 (gif r6.1 false (vl r9.1 r9.2) r9.2).bind fun r10 =>
 (gif r10.1 true (fa P 23 r1.1 1 r10.2) r10.2).bind fun r11 =>
 (gif r10.1 true (ld P 3 r11.1 r11.2) r11.2).bind fun r12 =>
 (gif r10.1 true (EV P 48 #[r12.1, (.int .i64 0), (.int .i64 2)] r12.2) r12.2).bind fun r13 =>
 (gif r6.1 false (pickV r10.1 r13.1 (.bool false) r13.2) r13.2).bind fun r14 =>
 (pickV r6.1 (.bool true) r14.1 r14.2).bind fun r15 =>
 (vl r15.1 r15.2).bind fun r16 =>
 some (r16.1, r16.2) := by kernel_rfl
noncomputable def spec_l1PastOk_l1 (e : Env) (w : World) : Option (Value × World) := exC P (EV P) 51 22 (.loop (cA (cA (cB (cA (cB (bodyOf P 51))))))) e w (kBlock 0 (kSeq P (EV P) 51 22 (cB (cB (bodyOf P 51))) (kFn P (fnOf P 51))))
theorem spec_l1PastOk_l1_eq (e : Env) (w : World) : spec_l1PastOk_l1 e w =
 (vl (e 3) w).bind fun r1 =>
 (fa P 26 (e 1) 0 r1.2).bind fun r2 =>
 (ld P 24 r2.1 r2.2).bind fun r3 =>
 (b_len P #[24] 3 #[r3.1] r3.2).bind fun r4 =>
 (bo P .lss 3 (.tmp 4) (.tmp 7) r1.1 r4.1 r4.2).bind fun r5 =>
 cnd r5.1 (
 (fa P 26 (e 1) 0 r5.2).bind fun r6 =>
 (ld P 24 r6.1 r6.2).bind fun r7 =>
 (vl (e 3) r7.2).bind fun r8 =>
 (ia P 24 r7.1 r8.1 r8.2).bind fun r9 =>
 (ld P 23 r9.1 r9.2).bind fun r10 =>
 (EV P 50 #[r10.1] r10.2).bind fun r11 =>
 (uo P .not r11.1 r11.2).bind fun r12 =>
 cnd r12.1 (
 (vl (.bool false) r12.2).bind fun r13 =>
 some (r13.1, r13.2)) (
 (vl (e 3) r12.2).bind fun r14 =>
 (bo P .add 3 (.tmp 9) (.const (.int .i64 1)) r14.1 (.int .i64 1) r14.2).bind fun r15 =>
 (vl r15.1 r15.2).bind fun r16 =>
 spec_l1PastOk_l1 (ups e [(4, r1.1), (5, r2.1), (6, r3.1), (7, r4.1), (8, r5.1), (11, r6.1), (12, r7.1), (13, r8.1), (14, r9.1), (15, r10.1), (16, r11.1), (17, r12.1), (9, r14.1), (10, r15.1), (3, r16.1)]) r16.2)) (
 (fa P 26 (e 1) 0 r5.2).bind fun r17 =>
 (ld P 24 r17.1 r17.2).bind fun r18 =>
 (b_len P #[24] 3 #[r18.1] r18.2).bind fun r19 =>
 (bo P .eql 3 (.tmp 20) (.const (.int .i64 4)) r19.1 (.int .i64 4) r19.2).bind fun r20 =>
 (vl r20.1 r20.2).bind fun r21 =>
 some (r21.1, r21.2)) := (exC_loop P (EV P) 51 22 (cA (cA (cB (cA (cB (bodyOf P 51)))))) e w (kBlock 0 (kSeq P (EV P) 51 22 (cB (cB (bodyOf P 51))) (kFn P (fnOf P 51))))).trans (by kernel_rfl)
theorem spec_l1PastOk_fn (x0 : Value) (w : World) : fnC P (EV P) 51 #[x0] w =
 (bx P 26 x0 w).bind fun r1 =>
 (vl (.bool false) r1.2).bind fun r2 =>
 (vl (.int .i64 0) r2.2).bind fun r3 =>
 spec_l1PastOk_l1 (ups (env0 #[x0]) [(1, r1.1), (2, r2.1), (3, r3.1)]) r3.2 := by kernel_rfl
noncomputable def spec_l1Dec_a1 (e : Env) (w : World) : Option (Value × World) := exC P (EV P) 52 28 (cA (cB (cB (cB (cB (bodyOf P 52)))))) e w (kSeq P (EV P) 52 28 (cB (cB (cB (cB (cB (bodyOf P 52)))))) (kFn P (fnOf P 52)))
noncomputable def spec_l1Dec_j1 (e : Env) (w : World) : Option (Value × World) := exC P (EV P) 52 28 (cB (cB (cB (cB (cB (bodyOf P 52)))))) e w (kFn P (fnOf P 52))
theorem spec_l1Dec_a1_any (e : Env) (w : World) {Q : Value × World → Prop} (h :
 (Ret (vl (e 0) (dw w)) fun r1 => r1.2 = (dw w) ∧
 (Ret (bo P .quo 3 (.tmp 18) (.const (.int .i64 10)) r1.1 (.int .i64 10) (dw w)) fun r2 => r2.2 = (dw w) ∧
 (Ret (vl (e 0) (dw w)) fun r3 => r3.2 = (dw w) ∧
 (Ret (bo P .rem 3 (.tmp 21) (.const (.int .i64 10)) r3.1 (.int .i64 10) (dw w)) fun r4 => r4.2 = (dw w) ∧
 (Ret (bo P .add 3 (.const (.int .i64 48)) (.tmp 22) (.int .i64 48) r4.1 (dw w)) fun r5 => r5.2 = (dw w) ∧
 (Ret (cv P 3 5 r5.1 (dw w)) fun r6 => r6.2 = (dw w) ∧
 ((Ret (EV P 52 #[r2.1] (dw w)) fun r7 => (cv P 3 5 r5.1 r7.2 = some (r6.1, r7.2) ∧ bo P .add 3 (.const (.int .i64 48)) (.tmp 22) (.int .i64 48) r4.1 r7.2 = some (r5.1, r7.2) ∧ bo P .rem 3 (.tmp 21) (.const (.int .i64 10)) r3.1 (.int .i64 10) r7.2 = some (r4.1, r7.2) ∧ True ∧ True) ∧
 ((Ret (bs P 34 1 #[(0, r6.1)] r7.2) fun r8 => (True ∧ True ∧ True ∧ bo P .quo 3 (.tmp 18) (.const (.int .i64 10)) r1.1 (.int .i64 10) r8.2 = some (r2.1, r8.2) ∧ True) ∧
 (Ret (cv P 34 9 r8.1 r8.2) fun r9 => r9.2 = r8.2 ∧
 (Ret (bo P .add 9 (.tmp 20) (.tmp 26) r7.1 r9.1 r8.2) fun r10 => r10.2 = r8.2 ∧
 (Ret (vl r10.1 r8.2) fun r11 => r11.2 = r8.2 ∧
 Ret (spec_l1Dec_j1 (ups e [(18, r1.1), (19, r2.1), (21, r3.1), (22, r4.1), (23, r5.1), (24, r6.1), (20, r7.1), (25, r8.1), (26, r9.1), (27, r10.1), (2, r11.1)]) r8.2) Q)))))) ∧
 (Ret (bs P 34 1 #[(0, r6.1)] (dw w)) fun r12 => (True ∧ True ∧ True ∧ bo P .quo 3 (.tmp 18) (.const (.int .i64 10)) r1.1 (.int .i64 10) r12.2 = some (r2.1, r12.2) ∧ True) ∧
 (Ret (cv P 34 9 r12.1 r12.2) fun r13 => r13.2 = r12.2 ∧
 ((Ret (EV P 52 #[r2.1] r12.2) fun r14 => (cv P 34 9 r12.1 r14.2 = some (r13.1, r14.2) ∧ cv P 3 5 r5.1 r14.2 = some (r6.1, r14.2) ∧ bo P .add 3 (.const (.int .i64 48)) (.tmp 22) (.int .i64 48) r4.1 r14.2 = some (r5.1, r14.2) ∧ bo P .rem 3 (.tmp 21) (.const (.int .i64 10)) r3.1 (.int .i64 10) r14.2 = some (r4.1, r14.2) ∧ True ∧ True) ∧
 (Ret (bo P .add 9 (.tmp 20) (.tmp 26) r14.1 r13.1 r14.2) fun r15 => r15.2 = r14.2 ∧
 (Ret (vl r15.1 r14.2) fun r16 => r16.2 = r14.2 ∧
 Ret (spec_l1Dec_j1 (ups e [(18, r1.1), (19, r2.1), (21, r3.1), (22, r4.1), (23, r5.1), (24, r6.1), (25, r12.1), (26, r13.1), (20, r14.1), (27, r15.1), (2, r16.1)]) r14.2) Q)))))))))))))) : Ret (spec_l1Dec_a1 e w) Q := exC_any (id := 7) (ops := opsOf (cA (cB (cB (cB (cB (bodyOf P 52))))))) (by kernel_rfl) (by kernel_rfl) (Eq.mpr (by kernel_rfl) h)
theorem spec_l1Dec_j1_eq (e : Env) (w : World) : spec_l1Dec_j1 e w =
 some ((e 2), w) := by kernel_rfl
theorem spec_l1Dec_fn (x0 : Value) (w : World) : fnC P (EV P) 52 #[x0] w =
 (vl (Go.Value.string { data := #[] }) w).bind fun r1 =>
 (vl x0 r1.2).bind fun r2 =>
 (bo P .lss 3 (.tmp 3) (.const (.int .i64 (-9223372036854775807))) r2.1 (.int .i64 (-9223372036854775807)) r2.2).bind fun r3 =>
 cnd r3.1 (
 (vl (Go.Value.string { data := #[45, 57, 50, 50, 51, 51, 55, 50, 48, 51, 54, 56, 53, 52, 55, 55, 53, 56, 48, 56] }) r3.2).bind fun r4 =>
 some (r4.1, r4.2)) (
 (vl x0 r3.2).bind fun r5 =>
 (bo P .lss 3 (.tmp 5) (.const (.int .i64 0)) r5.1 (.int .i64 0) r5.2).bind fun r6 =>
 cnd r6.1 (
 (vl x0 r6.2).bind fun r7 =>
 (uo P .neg r7.1 r7.2).bind fun r8 =>
 (EV P 52 #[r8.1] r8.2).bind fun r9 =>
 (bo P .add 9 (.const (Go.Value.string { data := #[45] })) (.tmp 9) (Go.Value.string { data := #[45] }) r9.1 r9.2).bind fun r10 =>
 (vl r10.1 r10.2).bind fun r11 =>
 some (r11.1, r11.2)) (
 (vl x0 r6.2).bind fun r12 =>
 (bo P .lss 3 (.tmp 11) (.const (.int .i64 10)) r12.1 (.int .i64 10) r12.2).bind fun r13 =>
 cnd r13.1 (
 (vl x0 r13.2).bind fun r14 =>
 (bo P .add 3 (.const (.int .i64 48)) (.tmp 13) (.int .i64 48) r14.1 r14.2).bind fun r15 =>
 (cv P 3 5 r15.1 r15.2).bind fun r16 =>
 (bs P 34 1 #[(0, r16.1)] r16.2).bind fun r17 =>
 (cv P 34 9 r17.1 r17.2).bind fun r18 =>
 (vl r18.1 r18.2).bind fun r19 =>
 some (r19.1, r19.2)) (
 spec_l1Dec_a1 (ups (env0 #[x0]) [(2, r1.1), (3, r2.1), (4, r3.1), (5, r5.1), (6, r6.1), (11, r12.1), (12, r13.1)]) r13.2))) := by kernel_rfl
theorem spec_l1Put_fn (x0 : Value) (w : World) : fnC P (EV P) 53 #[x0] w =
 (bx P 23 x0 w).bind fun r1 =>
 (vl (Go.Value.string { data := #[] }) r1.2).bind fun r2 =>
 (fa P 23 r1.1 0 (dw r2.2)).bind fun r4 =>
 ifP (r4.2 = (dw r2.2)) <|
 (ld P 3 r4.1 (dw r2.2)).bind fun r5 =>
 ifP (r5.2 = (dw r2.2)) <|
 (fa P 23 r1.1 1 (dw r2.2)).bind fun r6 =>
 ifP (r6.2 = (dw r2.2)) <|
 (ld P 3 r6.1 (dw r2.2)).bind fun r7 =>
 ifP (r7.2 = (dw r2.2)) <|
 (EV P 52 #[r5.1] (dw r2.2)).bind fun r8 =>
 ifP (ld P 3 r6.1 r8.2 = some (r7.1, r8.2) ∧ fa P 23 r1.1 1 r8.2 = some (r6.1, r8.2) ∧ True ∧ True ∧ True) <|
 (bo P .add 9 (.tmp 5) (.const (Go.Value.string { data := #[46] })) r8.1 (Go.Value.string { data := #[46] }) r8.2).bind fun r9 =>
 ifP (r9.2 = r8.2) <|
 (EV P 52 #[r7.1] r8.2).bind fun r10 =>
 ifP (bo P .add 9 (.tmp 5) (.const (Go.Value.string { data := #[46] })) r8.1 (Go.Value.string { data := #[46] }) r10.2 = some (r9.1, r10.2) ∧ True ∧ True ∧ True ∧ True ∧ True) <|
 (bo P .add 9 (.tmp 6) (.tmp 9) r9.1 r10.1 r10.2).bind fun r11 =>
 ifP (r11.2 = r10.2) <|
 (vl r11.1 r10.2).bind fun r12 =>
 ifP (r12.2 = r10.2) <|
 some (r12.1, r10.2) := by kernel_rfl
noncomputable def spec_l2Past_l1 (e : Env) (w : World) : Option (Value × World) := exC P (EV P) 54 22 (.loop (cA (cA (cB (cA (cB (cB (bodyOf P 54)))))))) e w (kBlock 0 (kSeq P (EV P) 54 22 (cB (cB (cB (bodyOf P 54)))) (kFn P (fnOf P 54))))
theorem spec_l2Past_l1_eq (e : Env) (w : World) : spec_l2Past_l1 e w =
 (vl (e 4) w).bind fun r1 =>
 (fa P 26 (e 1) 0 r1.2).bind fun r2 =>
 (ld P 24 r2.1 r2.2).bind fun r3 =>
 (b_len P #[24] 3 #[r3.1] r3.2).bind fun r4 =>
 (bo P .lss 3 (.tmp 5) (.tmp 8) r1.1 r4.1 r4.2).bind fun r5 =>
 cnd r5.1 (
 (vl (e 3) r5.2).bind fun r6 =>
 (bo P .add 9 (.tmp 12) (.const (Go.Value.string { data := #[32] })) r6.1 (Go.Value.string { data := #[32] }) r6.2).bind fun r7 =>
 (fa P 26 (e 1) 0 r7.2).bind fun r8 =>
 (ld P 24 r8.1 r8.2).bind fun r9 =>
 (vl (e 4) r9.2).bind fun r10 =>
 (ia P 24 r9.1 r10.1 r10.2).bind fun r11 =>
 (ld P 23 r11.1 r11.2).bind fun r12 =>
 (EV P 53 #[r12.1] r12.2).bind fun r13 =>
 (bo P .add 9 (.tmp 13) (.tmp 19) r7.1 r13.1 r13.2).bind fun r14 =>
 (vl r14.1 r14.2).bind fun r15 =>
 (vl (e 4) r15.2).bind fun r16 =>
 (bo P .add 3 (.tmp 10) (.const (.int .i64 1)) r16.1 (.int .i64 1) r16.2).bind fun r17 =>
 (vl r17.1 r17.2).bind fun r18 =>
 spec_l2Past_l1 (ups e [(5, r1.1), (6, r2.1), (7, r3.1), (8, r4.1), (9, r5.1), (12, r6.1), (13, r7.1), (14, r8.1), (15, r9.1), (16, r10.1), (17, r11.1), (18, r12.1), (19, r13.1), (20, r14.1), (3, r15.1), (10, r16.1), (11, r17.1), (4, r18.1)]) r18.2) (
 (vl (e 3) r5.2).bind fun r19 =>
 (vl r19.1 r19.2).bind fun r20 =>
 some (r20.1, r20.2)) := (exC_loop P (EV P) 54 22 (cA (cA (cB (cA (cB (cB (bodyOf P 54))))))) e w (kBlock 0 (kSeq P (EV P) 54 22 (cB (cB (cB (bodyOf P 54)))) (kFn P (fnOf P 54))))).trans (by kernel_rfl)
theorem spec_l2Past_fn (x0 : Value) (w : World) : fnC P (EV P) 54 #[x0] w =
 (bx P 26 x0 w).bind fun r1 =>
 (vl (Go.Value.string { data := #[] }) r1.2).bind fun r2 =>
 (vl (Go.Value.string { data := #[] }) r2.2).bind fun r3 =>
 (vl (.int .i64 0) r3.2).bind fun r4 =>
 spec_l2Past_l1 (ups (env0 #[x0]) [(1, r1.1), (2, r2.1), (3, r3.1), (4, r4.1)]) r4.2 := by kernel_rfl
noncomputable def strings_genSplit_j1 (e : Env) (w : World) : Option (Value × World) := exC P (EV P) 55 66 (cB (cB (cB (cB (bodyOf P 55))))) e w (kFn P (fnOf P 55))
noncomputable def strings_genSplit_l1 (e : Env) (w : World) : Option (Value × World) := exC P (EV P) 55 66 (.loop (cA (cA (cA (cB (cB (cB (cB (cB (cB (cB (cB (bodyOf P 55))))))))))))) e w (kBlock 0 (kSeq P (EV P) 55 66 (cB (cB (cB (cB (cB (cB (cB (cB (cB (bodyOf P 55)))))))))) (kFn P (fnOf P 55))))
noncomputable def strings_genSplit_j2 (e : Env) (w : World) : Option (Value × World) := exC P (EV P) 55 66 (cB (cB (cB (cB (cB (cB (cB (cB (cB (bodyOf P 55)))))))))) e w (kFn P (fnOf P 55))
theorem strings_genSplit_j1_eq (e : Env) (w : World) : strings_genSplit_j1 e w =
 (vl (e 3) w).bind fun r1 =>
 (vl (e 0) r1.2).bind fun r2 =>
 (b_len P #[9] 3 #[r2.1] r2.2).bind fun r3 =>
 (bo P .add 3 (.tmp 27) (.const (.int .i64 1)) r3.1 (.int .i64 1) r3.2).bind fun r4 =>
 (b_min P #[3, 3] 3 #[r1.1, r4.1] r4.2).bind fun r5 =>
 (vl r5.1 r5.2).bind fun r6 =>
 (vl r6.1 r6.2).bind fun r7 =>
 (ms P 41 r7.1 r7.1 r7.2).bind fun r8 =>
 (vl r8.1 r8.2).bind fun r9 =>
 (vl r6.1 r9.2).bind fun r10 =>
 (bo P .sub 3 (.tmp 32) (.const (.int .i64 1)) r10.1 (.int .i64 1) r10.2).bind fun r11 =>
 (vl r11.1 r11.2).bind fun r12 =>
 (vl (.int .i64 0) r12.2).bind fun r13 =>
 strings_genSplit_l1 (ups e [(25, r1.1), (26, r2.1), (27, r3.1), (28, r4.1), (29, r5.1), (3, r6.1), (30, r7.1), (31, r8.1), (9, r9.1), (32, r10.1), (33, r11.1), (3, r12.1), (10, r13.1)]) r13.2 := by kernel_rfl
theorem strings_genSplit_l1_eq (e : Env) (w : World) : strings_genSplit_l1 e w =
 (vl (e 10) w).bind fun r1 =>
 (vl (e 3) r1.2).bind fun r2 =>
 (bo P .lss 3 (.tmp 34) (.tmp 35) r1.1 r2.1 r2.2).bind fun r3 =>
 cnd r3.1 (
 (vl (e 0) r3.2).bind fun r4 =>
 (vl (e 1) r4.2).bind fun r5 =>
 (EV P 81 #[r4.1, r5.1] r5.2).bind fun r6 =>
 (vl r6.1 r6.2).bind fun r7 =>
 (vl r7.1 r7.2).bind fun r8 =>
 (bo P .lss 3 (.tmp 40) (.const (.int .i64 0)) r8.1 (.int .i64 0) r8.2).bind fun r9 =>
 cnd r9.1 (
 strings_genSplit_j2 (ups e [(34, r1.1), (35, r2.1), (36, r3.1), (37, r4.1), (38, r5.1), (39, r6.1), (11, r7.1), (40, r8.1), (41, r9.1)]) r9.2) (
 (vl (e 9) r9.2).bind fun r10 =>
 (vl (e 10) r10.2).bind fun r11 =>
 (vl (e 0) r11.2).bind fun r12 =>
 (vl r7.1 r12.2).bind fun r13 =>
 (vl (e 2) r13.2).bind fun r14 =>
 (bo P .add 3 (.tmp 45) (.tmp 46) r13.1 r14.1 r14.2).bind fun r15 =>
 (sl P 9 r12.1 none (some r15.1) none r15.2).bind fun r16 =>
 (ia P 41 r10.1 r11.1 r16.2).bind fun r17 =>
 (st P 9 r17.1 r16.1 r17.2).bind fun r18 =>
 (vl (e 0) r18.2).bind fun r19 =>
 (vl r7.1 r19.2).bind fun r20 =>
 (vl (e 1) r20.2).bind fun r21 =>
 (b_len P #[9] 3 #[r21.1] r21.2).bind fun r22 =>
 (bo P .add 3 (.tmp 51) (.tmp 53) r20.1 r22.1 r22.2).bind fun r23 =>
 (sl P 9 r19.1 (some r23.1) none none r23.2).bind fun r24 =>
 (vl r24.1 r24.2).bind fun r25 =>
 (vl (e 10) r25.2).bind fun r26 =>
 (bo P .add 3 (.tmp 56) (.const (.int .i64 1)) r26.1 (.int .i64 1) r26.2).bind fun r27 =>
 (vl r27.1 r27.2).bind fun r28 =>
 strings_genSplit_l1 (ups e [(34, r1.1), (35, r2.1), (36, r3.1), (37, r4.1), (38, r5.1), (39, r6.1), (11, r7.1), (40, r8.1), (41, r9.1), (42, r10.1), (43, r11.1), (44, r12.1), (45, r13.1), (46, r14.1), (47, r15.1), (48, r16.1), (49, r17.1), (50, r19.1), (51, r20.1), (52, r21.1), (53, r22.1), (54, r23.1), (55, r24.1), (0, r25.1), (56, r26.1), (57, r27.1), (10, r28.1)]) r28.2)) (
 strings_genSplit_j2 (ups e [(34, r1.1), (35, r2.1), (36, r3.1)]) r3.2) := (exC_loop P (EV P) 55 66 (cA (cA (cA (cB (cB (cB (cB (cB (cB (cB (cB (bodyOf P 55)))))))))))) e w (kBlock 0 (kSeq P (EV P) 55 66 (cB (cB (cB (cB (cB (cB (cB (cB (cB (bodyOf P 55)))))))))) (kFn P (fnOf P 55))))).trans (by kernel_rfl)
theorem strings_genSplit_j2_eq (e : Env) (w : World) : strings_genSplit_j2 e w =
 (vl (e 9) w).bind fun r1 =>
 (vl (e 10) r1.2).bind fun r2 =>
 (vl (e 0) r2.2).bind fun r3 =>
 (ia P 41 r1.1 r2.1 r3.2).bind fun r4 =>
 (st P 9 r4.1 r3.1 r4.2).bind fun r5 =>
 (vl (e 9) r5.2).bind fun r6 =>
 (vl (e 10) r6.2).bind fun r7 =>
 (bo P .add 3 (.tmp 63) (.const (.int .i64 1)) r7.1 (.int .i64 1) r7.2).bind fun r8 =>
 (sl P 41 r6.1 none (some r8.1) none r8.2).bind fun r9 =>
 (vl r9.1 r9.2).bind fun r10 =>
 some (r10.1, r10.2) := by kernel_rfl
theorem strings_genSplit_fn (x0 x1 x2 x3 : Value) (w : World) : fnC P (EV P) 55 #[x0, x1, x2, x3] w =
 (vl (Go.Value.slice none 0 0) w).bind fun r1 =>
 (vl x3 r1.2).bind fun r2 =>
 (bo P .eql 3 (.tmp 12) (.const (.int .i64 0)) r2.1 (.int .i64 0) r2.2).bind fun r3 =>
 cnd r3.1 (
 (vl (Go.Value.slice none 0 0) r3.2).bind fun r4 =>
 some (r4.1, r4.2)) (
 (vl x1 r3.2).bind fun r5 =>
 (bo P .eql 9 (.tmp 14) (.const (Go.Value.string { data := #[] })) r5.1 (Go.Value.string { data := #[] }) r5.2).bind fun r6 =>
 cnd r6.1 (
 (vl x0 r6.2).bind fun r7 =>
 (vl x3 r7.2).bind fun r8 =>
 (EV P 79 #[r7.1, r8.1] r8.2).bind fun r9 =>
 (vl r9.1 r9.2).bind fun r10 =>
 some (r10.1, r10.2)) (
 (vl x3 r6.2).bind fun r11 =>
 (bo P .lss 3 (.tmp 19) (.const (.int .i64 0)) r11.1 (.int .i64 0) r11.2).bind fun r12 =>
 cnd r12.1 (
 (vl x0 r12.2).bind fun r13 =>
 (vl x1 r13.2).bind fun r14 =>
 (EV P 80 #[r13.1, r14.1] r14.2).bind fun r15 =>
 (bo P .add 3 (.tmp 23) (.const (.int .i64 1)) r15.1 (.int .i64 1) r15.2).bind fun r16 =>
 (vl r16.1 r16.2).bind fun r17 =>
 strings_genSplit_j1 (ups (env0 #[x0, x1, x2, x3]) [(8, r1.1), (12, r2.1), (13, r3.1), (14, r5.1), (15, r6.1), (19, r11.1), (20, r12.1), (21, r13.1), (22, r14.1), (23, r15.1), (24, r16.1), (3, r17.1)]) r17.2) (
 strings_genSplit_j1 (ups (env0 #[x0, x1, x2, x3]) [(8, r1.1), (12, r2.1), (13, r3.1), (14, r5.1), (15, r6.1), (19, r11.1), (20, r12.1)]) r12.2))) := by kernel_rfl
noncomputable def internal_strconv_Atoi_j1 (e : Env) (w : World) : Option (Value × World) := exC P (EV P) 56 77 (cB (cB (cA (cB (cA (cB (cB (bodyOf P 56)))))))) e w (kSeq P (EV P) 56 77 (cB (cB (cB (bodyOf P 56)))) (kFn P (fnOf P 56)))
noncomputable def internal_strconv_Atoi_l1 (e : Env) (w : World) : Option (Value × World) := exC P (EV P) 56 77 (.loop (cA (cA (cB (cA (cB (cB (cB (cA (cB (cA (cB (cB (bodyOf P 56)))))))))))))) e w (kBlock 0 (kSeq P (EV P) 56 77 (cB (cB (cB (cB (cA (cB (cA (cB (cB (bodyOf P 56)))))))))) (kSeq P (EV P) 56 77 (cB (cB (cB (bodyOf P 56)))) (kFn P (fnOf P 56)))))
noncomputable def internal_strconv_Atoi_j2 (e : Env) (w : World) : Option (Value × World) := exC P (EV P) 56 77 (cB (cB (cB (cB (cB (cA (cB (cA (cB (cB (bodyOf P 56))))))))))) e w (kSeq P (EV P) 56 77 (cB (cB (cB (bodyOf P 56)))) (kFn P (fnOf P 56)))
theorem internal_strconv_Atoi_j1_eq (e : Env) (w : World) : internal_strconv_Atoi_j1 e w =
 (vl (.int .i64 0) w).bind fun r1 =>
 (vl (e 0) r1.2).bind fun r2 =>
 (cv P 9 34 r2.1 r2.2).bind fun r3 =>
 (b_len P #[34] 3 #[r3.1] r3.2).bind fun r4 =>
 (vl (.int .i64 0) r4.2).bind fun r5 =>
 internal_strconv_Atoi_l1 (ups e [(6, r1.1), (46, r2.1), (47, r3.1), (48, r4.1), (49, r5.1)]) r5.2 := by kernel_rfl
theorem internal_strconv_Atoi_l1_eq (e : Env) (w : World) : internal_strconv_Atoi_l1 e w =
 (bo P .lss 3 (.tmp 49) (.tmp 48) (e 49) (e 48) w).bind fun r1 =>
 cnd r1.1 (
 (ia P 34 (e 47) (e 49) r1.2).bind fun r2 =>
 (ld P 5 r2.1 r2.2).bind fun r3 =>
 (vl r3.1 r3.2).bind fun r4 =>
 (vl r4.1 r4.2).bind fun r5 =>
 (bo P .sub 5 (.tmp 53) (.const (.int .u8 48)) r5.1 (.int .u8 48) r5.2).bind fun r6 =>
 (vl r6.1 r6.2).bind fun r7 =>
 (vl r7.1 r7.2).bind fun r8 =>
 (bo P .gtr 5 (.tmp 55) (.const (.int .u8 9)) r8.1 (.int .u8 9) r8.2).bind fun r9 =>
 cnd r9.1 (
 (mi P 95 (.int .i64 2) r9.2).bind fun r10 =>
 (vl (.int .i64 0) r10.2).bind fun r11 =>
 (vl r10.1 r11.2).bind fun r12 =>
 some (.tuple #[r11.1, r12.1], r12.2)) (
 (vl (e 6) r9.2).bind fun r13 =>
 (bo P .mul 3 (.tmp 58) (.const (.int .i64 10)) r13.1 (.int .i64 10) r13.2).bind fun r14 =>
 (vl r7.1 r14.2).bind fun r15 =>
 (cv P 5 3 r15.1 r15.2).bind fun r16 =>
 (bo P .add 3 (.tmp 59) (.tmp 61) r14.1 r16.1 r16.2).bind fun r17 =>
 (vl r17.1 r17.2).bind fun r18 =>
 (bo P .add 3 (.tmp 49) (.const (.int .i64 1)) (e 49) (.int .i64 1) r18.2).bind fun r19 =>
 (vl r19.1 r19.2).bind fun r20 =>
 internal_strconv_Atoi_l1 (ups e [(50, r1.1), (51, r2.1), (52, r3.1), (8, r4.1), (53, r5.1), (54, r6.1), (8, r7.1), (55, r8.1), (56, r9.1), (58, r13.1), (59, r14.1), (60, r15.1), (61, r16.1), (62, r17.1), (6, r18.1), (63, r19.1), (49, r20.1)]) r20.2)) (
 (vl (e 5) r1.2).bind fun r21 =>
 (ix P 9 r21.1 (.int .i64 0) r21.2).bind fun r22 =>
 (bo P .eql 5 (.tmp 65) (.const (.int .u8 45)) r22.1 (.int .u8 45) r22.2).bind fun r23 =>
 cnd r23.1 (
 (vl (e 6) r23.2).bind fun r24 =>
 (uo P .neg r24.1 r24.2).bind fun r25 =>
 (vl r25.1 r25.2).bind fun r26 =>
 internal_strconv_Atoi_j2 (ups e [(50, r1.1), (64, r21.1), (65, r22.1), (66, r23.1), (67, r24.1), (68, r25.1), (6, r26.1)]) r26.2) (
 internal_strconv_Atoi_j2 (ups e [(50, r1.1), (64, r21.1), (65, r22.1), (66, r23.1)]) r23.2)) := (exC_loop P (EV P) 56 77 (cA (cA (cB (cA (cB (cB (cB (cA (cB (cA (cB (cB (bodyOf P 56))))))))))))) e w (kBlock 0 (kSeq P (EV P) 56 77 (cB (cB (cB (cB (cA (cB (cA (cB (cB (bodyOf P 56)))))))))) (kSeq P (EV P) 56 77 (cB (cB (cB (bodyOf P 56)))) (kFn P (fnOf P 56)))))).trans (by kernel_rfl)
theorem internal_strconv_Atoi_j2_eq (e : Env) (w : World) : internal_strconv_Atoi_j2 e w =
 (vl (e 6) w).bind fun r1 =>
 (vl r1.1 r1.2).bind fun r2 =>
 (vl Go.Value.nilIface r2.2).bind fun r3 =>
 some (.tuple #[r2.1, r3.1], r3.2) := by kernel_rfl
theorem internal_strconv_Atoi_fn (x0 : Value) (w : World) : fnC P (EV P) 56 #[x0] w =
 (vl (.int .i64 0) w).bind fun r1 =>
 (vl Go.Value.nilIface r1.2).bind fun r2 =>
 (vl x0 r2.2).bind fun r3 =>
 (b_len P #[9] 3 #[r3.1] r3.2).bind fun r4 =>
 (vl r4.1 r4.2).bind fun r5 =>
 (vl (.bool false) r5.2).bind fun r6 =>
 (gif r6.1 true (vl r5.1 r6.2) r6.2).bind fun r7 =>
 (gif r6.1 true (bo P .lss 3 (.const (.int .i64 0)) (.tmp 14) (.int .i64 0) r7.1 r7.2) r7.2).bind fun r8 =>
 (gif r6.1 true (vl r8.1 r8.2) r8.2).bind fun r9 =>
 (gif r9.1 true (vl r5.1 r9.2) r9.2).bind fun r10 =>
 (gif r9.1 true (bo P .lss 3 (.tmp 17) (.const (.int .i64 10)) r10.1 (.int .i64 10) r10.2) r10.2).bind fun r11 =>
 (gif r6.1 true (pickV r9.1 r11.1 (.bool false) r11.2) r11.2).bind fun r12 =>
 (pickV r6.1 r12.1 (.bool false) r12.2).bind fun r13 =>
 (vl r13.1 r13.2).bind fun r14 =>
 (gif r14.1 false (vl (.bool true) r14.2) r14.2).bind fun r15 =>
 (gif r15.1 true (vl r5.1 r15.2) r15.2).bind fun r16 =>
 (gif r15.1 true (bo P .lss 3 (.const (.int .i64 0)) (.tmp 23) (.int .i64 0) r16.1 r16.2) r16.2).bind fun r17 =>
 (gif r15.1 true (vl r17.1 r17.2) r17.2).bind fun r18 =>
 (gif r18.1 true (vl r5.1 r18.2) r18.2).bind fun r19 =>
 (gif r18.1 true (bo P .lss 3 (.tmp 26) (.const (.int .i64 19)) r19.1 (.int .i64 19) r19.2) r19.2).bind fun r20 =>
 (gif r15.1 true (pickV r18.1 r20.1 (.bool false) r20.2) r20.2).bind fun r21 =>
 (gif r14.1 false (pickV r15.1 r21.1 (.bool false) r21.2) r21.2).bind fun r22 =>
 (pickV r14.1 (.bool true) r22.1 r22.2).bind fun r23 =>
 cnd r23.1 (
 (vl x0 r23.2).bind fun r24 =>
 (vl r24.1 r24.2).bind fun r25 =>
 (vl x0 r25.2).bind fun r26 =>
 (ix P 9 r26.1 (.int .i64 0) r26.2).bind fun r27 =>
 (bo P .eql 5 (.tmp 33) (.const (.int .u8 45)) r27.1 (.int .u8 45) r27.2).bind fun r28 =>
 (vl r28.1 r28.2).bind fun r29 =>
 (gif r29.1 false (vl x0 r29.2) r29.2).bind fun r30 =>
 (gif r29.1 false (ix P 9 r30.1 (.int .i64 0) r30.2) r30.2).bind fun r31 =>
 (gif r29.1 false (bo P .eql 5 (.tmp 37) (.const (.int .u8 43)) r31.1 (.int .u8 43) r31.2) r31.2).bind fun r32 =>
 (pickV r29.1 (.bool true) r32.1 r32.2).bind fun r33 =>
 cnd r33.1 (
 (vl x0 r33.2).bind fun r34 =>
 (sl P 9 r34.1 (some (.int .i64 1)) none none r34.2).bind fun r35 =>
 (vl r35.1 r35.2).bind fun r36 =>
 (vl r36.1 r36.2).bind fun r37 =>
 (b_len P #[9] 3 #[r37.1] r37.2).bind fun r38 =>
 (bo P .lss 3 (.tmp 43) (.const (.int .i64 1)) r38.1 (.int .i64 1) r38.2).bind fun r39 =>
 cnd r39.1 (
 (mi P 95 (.int .i64 2) r39.2).bind fun r40 =>
 (vl (.int .i64 0) r40.2).bind fun r41 =>
 (vl r40.1 r41.2).bind fun r42 =>
 some (.tuple #[r41.1, r42.1], r42.2)) (
 internal_strconv_Atoi_j1 (ups (env0 #[x0]) [(2, r1.1), (3, r2.1), (11, r3.1), (12, r4.1), (4, r5.1), (13, r6.1), (14, r7.1), (15, r8.1), (16, r9.1), (17, r10.1), (18, r11.1), (19, r12.1), (20, r13.1), (21, r14.1), (22, r15.1), (23, r16.1), (24, r17.1), (25, r18.1), (26, r19.1), (27, r20.1), (28, r21.1), (29, r22.1), (30, r23.1), (31, r24.1), (5, r25.1), (32, r26.1), (33, r27.1), (34, r28.1), (35, r29.1), (36, r30.1), (37, r31.1), (38, r32.1), (39, r33.1), (40, r34.1), (41, r35.1), (0, r36.1), (42, r37.1), (43, r38.1), (44, r39.1)]) r39.2)) (
 internal_strconv_Atoi_j1 (ups (env0 #[x0]) [(2, r1.1), (3, r2.1), (11, r3.1), (12, r4.1), (4, r5.1), (13, r6.1), (14, r7.1), (15, r8.1), (16, r9.1), (17, r10.1), (18, r11.1), (19, r12.1), (20, r13.1), (21, r14.1), (22, r15.1), (23, r16.1), (24, r17.1), (25, r18.1), (26, r19.1), (27, r20.1), (28, r21.1), (29, r22.1), (30, r23.1), (31, r24.1), (5, r25.1), (32, r26.1), (33, r27.1), (34, r28.1), (35, r29.1), (36, r30.1), (37, r31.1), (38, r32.1), (39, r33.1)]) r33.2)) (
 (vl x0 r23.2).bind fun r43 =>
 (EV P 82 #[r43.1, (.int .i64 10), (.int .i64 0)] r43.2).bind fun r44 =>
 (vl r44.1 r44.2).bind fun r45 =>
 (xt P r45.1 0 r45.2).bind fun r46 =>
 (xt P r45.1 1 r46.2).bind fun r47 =>
 (vl r46.1 r47.2).bind fun r48 =>
 (vl r47.1 r48.2).bind fun r49 =>
 (vl r48.1 r49.2).bind fun r50 =>
 (vl r49.1 r50.2).bind fun r51 =>
 (vl r50.1 r51.2).bind fun r52 =>
 (vl r51.1 r52.2).bind fun r53 =>
 some (.tuple #[r52.1, r53.1], r53.2)) := by kernel_rfl
theorem strconv_toError_fn (x0 x1 x2 x3 x4 : Value) (w : World) : fnC P (EV P) 57 #[x0, x1, x2, x3, x4] w =
 (vl Go.Value.nilIface w).bind fun r1 =>
 (vl x4 r1.2).bind fun r2 =>
 (mi P 95 (.int .i64 2) r2.2).bind fun r3 =>
 (bo P .eql 46 (.tmp 11) (.tmp 13) r2.1 r3.1 r3.2).bind fun r4 =>
 (vl r4.1 r4.2).bind fun r5 =>
 cnd r5.1 (
 (vl x0 r5.2).bind fun r6 =>
 (vl x1 r6.2).bind fun r7 =>
 (EV P 83 #[r6.1, r7.1] r7.2).bind fun r8 =>
 (mi P 98 r8.1 r8.2).bind fun r9 =>
 (vl r9.1 r9.2).bind fun r10 =>
 some (r10.1, r10.2)) (
 (mi P 95 (.int .i64 1) r5.2).bind fun r11 =>
 (bo P .eql 46 (.tmp 11) (.tmp 20) r2.1 r11.1 r11.2).bind fun r12 =>
 (vl r12.1 r12.2).bind fun r13 =>
 cnd r13.1 (
 (vl x0 r13.2).bind fun r14 =>
 (vl x1 r14.2).bind fun r15 =>
 (EV P 84 #[r14.1, r15.1] r15.2).bind fun r16 =>
 (mi P 98 r16.1 r16.2).bind fun r17 =>
 (vl r17.1 r17.2).bind fun r18 =>
 some (r18.1, r18.2)) (
 (mi P 95 (.int .i64 3) r13.2).bind fun r19 =>
 (bo P .eql 46 (.tmp 11) (.tmp 27) r2.1 r19.1 r19.2).bind fun r20 =>
 (vl r20.1 r20.2).bind fun r21 =>
 cnd r21.1 (
 (vl x0 r21.2).bind fun r22 =>
 (vl x1 r22.2).bind fun r23 =>
 (vl x2 r23.2).bind fun r24 =>
 (EV P 85 #[r22.1, r23.1, r24.1] r24.2).bind fun r25 =>
 (mi P 98 r25.1 r25.2).bind fun r26 =>
 (vl r26.1 r26.2).bind fun r27 =>
 some (r27.1, r27.2)) (
 (mi P 95 (.int .i64 4) r21.2).bind fun r28 =>
 (bo P .eql 46 (.tmp 11) (.tmp 35) r2.1 r28.1 r28.2).bind fun r29 =>
 (vl r29.1 r29.2).bind fun r30 =>
 cnd r30.1 (
 (vl x0 r30.2).bind fun r31 =>
 (vl x1 r31.2).bind fun r32 =>
 (vl x3 r32.2).bind fun r33 =>
 (EV P 86 #[r31.1, r32.1, r33.1] r33.2).bind fun r34 =>
 (mi P 98 r34.1 r34.2).bind fun r35 =>
 (vl r35.1 r35.2).bind fun r36 =>
 some (r36.1, r36.2)) (
 (vl x4 r30.2).bind fun r37 =>
 (vl r37.1 r37.2).bind fun r38 =>
 some (r38.1, r38.2))))) := by kernel_rfl
theorem strings_Cut_fn (x0 x1 : Value) (w : World) : fnC P (EV P) 58 #[x0, x1] w =
 (vl (Go.Value.string { data := #[] }) w).bind fun r1 =>
 (vl (Go.Value.string { data := #[] }) r1.2).bind fun r2 =>
 (vl (.bool false) r2.2).bind fun r3 =>
 (vl x0 r3.2).bind fun r4 =>
 (vl x1 r4.2).bind fun r5 =>
 (EV P 87 #[r4.1, r5.1] r5.2).bind fun r6 =>
 (xt P r6.1 0 r6.2).bind fun r7 =>
 (xt P r6.1 1 r7.2).bind fun r8 =>
 (xt P r6.1 2 r8.2).bind fun r9 =>
 (vl r7.1 r9.2).bind fun r10 =>
 (vl r8.1 r10.2).bind fun r11 =>
 (vl r9.1 r11.2).bind fun r12 =>
 some (.tuple #[r10.1, r11.1, r12.1], r12.2) := by kernel_rfl
theorem strings_CutPrefix_fn (x0 x1 : Value) (w : World) : fnC P (EV P) 59 #[x0, x1] w =
 (vl (Go.Value.string { data := #[] }) w).bind fun r1 =>
 (vl (.bool false) r1.2).bind fun r2 =>
 (vl x0 r2.2).bind fun r3 =>
 (vl x1 r3.2).bind fun r4 =>
 (EV P 88 #[r3.1, r4.1] r4.2).bind fun r5 =>
 (xt P r5.1 0 r5.2).bind fun r6 =>
 (xt P r5.1 1 r6.2).bind fun r7 =>
 (vl r6.1 r7.2).bind fun r8 =>
 (vl r7.1 r8.2).bind fun r9 =>
 some (.tuple #[r8.1, r9.1], r9.2) := by kernel_rfl
theorem strings_Clone_fn (x0 : Value) (w : World) : fnC P (EV P) 60 #[x0] w =
 (vl (Go.Value.string { data := #[] }) w).bind fun r1 =>
 (vl x0 r1.2).bind fun r2 =>
 (EV P 89 #[r2.1] r2.2).bind fun r3 =>
 (vl r3.1 r3.2).bind fun r4 =>
 some (r4.1, r4.2) := by kernel_rfl
theorem spec_l20Rd_one_fn (x0 x1 : Value) (w : World) : fnC P (EV P) 64 #[x0, x1] w =
 (vl (.int .i64 0) w).bind fun r1 =>
 (vl x1 r1.2).bind fun r2 =>
 (vl x0 r2.2).bind fun r3 =>
 (vl x1 r3.2).bind fun r4 =>
 (b_len P #[82] 3 #[r4.1] r4.2).bind fun r5 =>
 (EV P 44 #[r3.1, r5.1] r5.2).bind fun r6 =>
 (ia P 82 r2.1 r6.1 r6.2).bind fun r7 =>
 (ld P 3 r7.1 r7.2).bind fun r8 =>
 (vl r8.1 r8.2).bind fun r9 =>
 some (r9.1, r9.2) := by kernel_rfl
theorem spec_l20Rd_of_fn (x0 x1 : Value) (w : World) : fnC P (EV P) 65 #[x0, x1] w =
 (vl (Go.Value.string { data := #[] }) w).bind fun r1 =>
 (vl x1 r1.2).bind fun r2 =>
 (vl x0 r2.2).bind fun r3 =>
 (vl x1 r3.2).bind fun r4 =>
 (b_len P #[41] 3 #[r4.1] r4.2).bind fun r5 =>
 (EV P 44 #[r3.1, r5.1] r5.2).bind fun r6 =>
 (ia P 41 r2.1 r6.1 r6.2).bind fun r7 =>
 (ld P 9 r7.1 r7.2).bind fun r8 =>
 (vl r8.1 r8.2).bind fun r9 =>
 some (r9.1, r9.2) := by kernel_rfl
theorem spec_l20AnyTag_fn (x0 : Value) (w : World) : fnC P (EV P) 66 #[x0] w =
 (al P 23 w).bind fun r1 =>
 (vl x0 r1.2).bind fun r2 =>
 (EV P 44 #[r2.1, (.int .i64 8)] r2.2).bind fun r3 =>
 (bo P .eql 3 (.tmp 4) (.const (.int .i64 0)) r3.1 (.int .i64 0) r3.2).bind fun r4 =>
 cnd r4.1 (
 (vl x0 r4.2).bind fun r5 =>
 (bs P 82 4 #[(0, (.int .i64 0)), (1, (.int .i64 (-1))), (2, (.int .i64 1000)), (3, (.int .i64 999))] r5.2).bind fun r6 =>
 (EV P 64 #[r5.1, r6.1] r6.2).bind fun r7 =>
 (vl x0 r7.2).bind fun r8 =>
 (bs P 82 4 #[(0, (.int .i64 0)), (1, (.int .i64 1)), (2, (.int .i64 3)), (3, (.int .i64 (-1)))] r8.2).bind fun r9 =>
 (EV P 64 #[r8.1, r9.1] r9.2).bind fun r10 =>
 (bd P 23 #[(0, r7.1), (1, r10.1)] r10.2).bind fun r11 =>
 (st P 23 r1.1 r11.1 r11.2).bind fun r12 =>
 ((ld P 23 r1.1 r12.2).bind fun r13 => ifP (r13.2 = r12.2) (some r13.1)).bind fun v14 =>
 some (v14, r12.2)) (
 (vl x0 r4.2).bind fun r15 =>
 (EV P 78 #[r15.1] r15.2).bind fun r16 =>
 (st P 23 r1.1 r16.1 r16.2).bind fun r17 =>
 ((ld P 23 r1.1 r17.2).bind fun r18 => ifP (r18.2 = r17.2) (some r18.1)).bind fun v19 =>
 some (v19, r17.2)) := by kernel_rfl
theorem internal_strconv_Itoa_fn (x0 : Value) (w : World) : fnC P (EV P) 67 #[x0] w =
 (vl (Go.Value.string { data := #[] }) w).bind fun r1 =>
 (vl x0 r1.2).bind fun r2 =>
 (EV P 90 #[r2.1, (.int .i64 10)] r2.2).bind fun r3 =>
 (vl r3.1 r3.2).bind fun r4 =>
 some (r4.1, r4.2) := by kernel_rfl
noncomputable def strings_Join_j1 (e : Env) (w : World) : Option (Value × World) := exC P (EV P) 68 75 (cB (cA (cB (cA (cB (cB (cB (bodyOf P 68)))))))) e w (kSeq P (EV P) 68 75 (cB (cB (cB (cB (bodyOf P 68))))) (kFn P (fnOf P 68)))
noncomputable def strings_Join_j2 (e : Env) (w : World) : Option (Value × World) := exC P (EV P) 68 75 (cB (cB (cB (cB (bodyOf P 68))))) e w (kFn P (fnOf P 68))
noncomputable def strings_Join_l1 (e : Env) (w : World) : Option (Value × World) := exC P (EV P) 68 75 (.loop (cA (cA (cB (cA (cB (cB (cB (cB (bodyOf P 68)))))))))) e w (kBlock 1 (kSeq P (EV P) 68 75 (cB (cB (cB (cB (cB (bodyOf P 68)))))) (kFn P (fnOf P 68))))
noncomputable def strings_Join_j3 (e : Env) (w : World) : Option (Value × World) := exC P (EV P) 68 75 (cB (cB (cA (cA (cB (cB (cA (cA (cB (cA (cB (cB (cB (cB (bodyOf P 68))))))))))))))) e w (kBlock 2 (kSeq P (EV P) 68 75 (cB (cB (cB (cA (cA (cB (cA (cB (cB (cB (cB (bodyOf P 68)))))))))))) (kLoop P (EV P) 68 75 (cA (cA (cB (cA (cB (cB (cB (cB (bodyOf P 68))))))))) (kBlock 1 (kSeq P (EV P) 68 75 (cB (cB (cB (cB (cB (bodyOf P 68)))))) (kFn P (fnOf P 68)))))))
noncomputable def strings_Join_l2 (e : Env) (w : World) : Option (Value × World) := exC P (EV P) 68 75 (.loop (cA (cA (cB (cA (cB (cB (cB (cB (cB (cB (cB (cB (bodyOf P 68)))))))))))))) e w (kBlock 3 (kSeq P (EV P) 68 75 (cB (cB (cB (cB (cB (cB (cB (cB (cB (bodyOf P 68)))))))))) (kFn P (fnOf P 68))))
theorem strings_Join_j1_eq (e : Env) (w : World) : strings_Join_j1 e w =
 (vl (e 5) w).bind fun r1 =>
 (vl (e 1) r1.2).bind fun r2 =>
 (b_len P #[9] 3 #[r2.1] r2.2).bind fun r3 =>
 (vl (e 0) r3.2).bind fun r4 =>
 (b_len P #[41] 3 #[r4.1] r4.2).bind fun r5 =>
 (bo P .sub 3 (.tmp 35) (.const (.int .i64 1)) r5.1 (.int .i64 1) r5.2).bind fun r6 =>
 (bo P .mul 3 (.tmp 33) (.tmp 36) r3.1 r6.1 r6.2).bind fun r7 =>
 (bo P .add 3 (.tmp 31) (.tmp 37) r1.1 r7.1 r7.2).bind fun r8 =>
 (vl r8.1 r8.2).bind fun r9 =>
 strings_Join_j2 (ups e [(31, r1.1), (32, r2.1), (33, r3.1), (34, r4.1), (35, r5.1), (36, r6.1), (37, r7.1), (38, r8.1), (5, r9.1)]) r9.2 := by kernel_rfl
theorem strings_Join_j2_eq (e : Env) (w : World) : strings_Join_j2 e w =
 (vl (e 0) w).bind fun r1 =>
 (b_len P #[41] 3 #[r1.1] r1.2).bind fun r2 =>
 (vl (.int .i64 0) r2.2).bind fun r3 =>
 strings_Join_l1 (ups e [(39, r1.1), (40, r2.1), (41, r3.1)]) r3.2 := by kernel_rfl
theorem strings_Join_l1_eq (e : Env) (w : World) : strings_Join_l1 e w =
 (bo P .lss 3 (.tmp 41) (.tmp 40) (e 41) (e 40) w).bind fun r1 =>
 cnd r1.1 (
 (ia P 41 (e 39) (e 41) r1.2).bind fun r2 =>
 (ld P 9 r2.1 r2.2).bind fun r3 =>
 (vl r3.1 r3.2).bind fun r4 =>
 (vl r4.1 r4.2).bind fun r5 =>
 (b_len P #[9] 3 #[r5.1] r5.2).bind fun r6 =>
 (vl (e 5) r6.2).bind fun r7 =>
 (bo P .sub 3 (.const (.int .i64 9223372036854775807)) (.tmp 47) (.int .i64 9223372036854775807) r7.1 r7.2).bind fun r8 =>
 (bo P .gtr 3 (.tmp 46) (.tmp 48) r6.1 r8.1 r8.2).bind fun r9 =>
 cnd r9.1 (
 (mi P 9 (Go.Value.string { data := #[115, 116, 114, 105, 110, 103, 115, 58, 32, 74, 111, 105, 110, 32, 111, 117, 116, 112, 117, 116, 32, 108, 101, 110, 103, 116, 104, 32, 111, 118, 101, 114, 102, 108, 111, 119] }) r9.2).bind fun r10 =>
 ((none : Option (Value × World))).bind fun r11 =>
 strings_Join_j3 (ups e [(42, r1.1), (43, r2.1), (44, r3.1), (7, r4.1), (45, r5.1), (46, r6.1), (47, r7.1), (48, r8.1), (49, r9.1), (50, r10.1)]) r11.2) (
 strings_Join_j3 (ups e [(42, r1.1), (43, r2.1), (44, r3.1), (7, r4.1), (45, r5.1), (46, r6.1), (47, r7.1), (48, r8.1), (49, r9.1)]) r9.2)) (
 (al P 104 r1.2).bind fun r12 =>
 (vl (e 5) r12.2).bind fun r13 =>
 (EV P 91 #[r12.1, r13.1] r13.2).bind fun r14 =>
 (vl (e 0) r14.2).bind fun r15 =>
 (ia P 41 r15.1 (.int .i64 0) r15.2).bind fun r16 =>
 (ld P 9 r16.1 r16.2).bind fun r17 =>
 (EV P 92 #[r12.1, r17.1] r17.2).bind fun r18 =>
 (vl (e 0) r18.2).bind fun r19 =>
 (sl P 41 r19.1 (some (.int .i64 1)) none none r19.2).bind fun r20 =>
 (b_len P #[41] 3 #[r20.1] r20.2).bind fun r21 =>
 (vl (.int .i64 0) r21.2).bind fun r22 =>
 strings_Join_l2 (ups e [(42, r1.1), (8, r12.1), (56, r13.1), (57, r14.1), (58, r15.1), (59, r16.1), (60, r17.1), (61, r18.1), (62, r19.1), (63, r20.1), (64, r21.1), (65, r22.1)]) r22.2) := (exC_loop P (EV P) 68 75 (cA (cA (cB (cA (cB (cB (cB (cB (bodyOf P 68))))))))) e w (kBlock 1 (kSeq P (EV P) 68 75 (cB (cB (cB (cB (cB (bodyOf P 68)))))) (kFn P (fnOf P 68))))).trans (by kernel_rfl)
theorem strings_Join_j3_eq (e : Env) (w : World) : strings_Join_j3 e w =
 (vl (e 5) w).bind fun r1 =>
 (vl (e 7) r1.2).bind fun r2 =>
 (b_len P #[9] 3 #[r2.1] r2.2).bind fun r3 =>
 (bo P .add 3 (.tmp 51) (.tmp 53) r1.1 r3.1 r3.2).bind fun r4 =>
 (vl r4.1 r4.2).bind fun r5 =>
 (bo P .add 3 (.tmp 41) (.const (.int .i64 1)) (e 41) (.int .i64 1) r5.2).bind fun r6 =>
 (vl r6.1 r6.2).bind fun r7 =>
 strings_Join_l1 (ups e [(51, r1.1), (52, r2.1), (53, r3.1), (54, r4.1), (5, r5.1), (55, r6.1), (41, r7.1)]) r7.2 := by kernel_rfl
theorem strings_Join_l2_eq (e : Env) (w : World) : strings_Join_l2 e w =
 (bo P .lss 3 (.tmp 65) (.tmp 64) (e 65) (e 64) w).bind fun r1 =>
 cnd r1.1 (
 (ia P 41 (e 63) (e 65) r1.2).bind fun r2 =>
 (ld P 9 r2.1 r2.2).bind fun r3 =>
 (vl r3.1 r3.2).bind fun r4 =>
 (vl (e 1) r4.2).bind fun r5 =>
 (EV P 92 #[(e 8), r5.1] r5.2).bind fun r6 =>
 (vl r4.1 r6.2).bind fun r7 =>
 (EV P 92 #[(e 8), r7.1] r7.2).bind fun r8 =>
 (bo P .add 3 (.tmp 65) (.const (.int .i64 1)) (e 65) (.int .i64 1) r8.2).bind fun r9 =>
 (vl r9.1 r9.2).bind fun r10 =>
 strings_Join_l2 (ups e [(66, r1.1), (67, r2.1), (68, r3.1), (10, r4.1), (69, r5.1), (70, r6.1), (71, r7.1), (72, r8.1), (73, r9.1), (65, r10.1)]) r10.2) (
 (EV P 93 #[(e 8)] r1.2).bind fun r11 =>
 (vl r11.1 r11.2).bind fun r12 =>
 some (r12.1, r12.2)) := (exC_loop P (EV P) 68 75 (cA (cA (cB (cA (cB (cB (cB (cB (cB (cB (cB (cB (bodyOf P 68))))))))))))) e w (kBlock 3 (kSeq P (EV P) 68 75 (cB (cB (cB (cB (cB (cB (cB (cB (cB (bodyOf P 68)))))))))) (kFn P (fnOf P 68))))).trans (by kernel_rfl)
theorem strings_Join_fn (x0 x1 : Value) (w : World) : fnC P (EV P) 68 #[x0, x1] w =
 (vl (Go.Value.string { data := #[] }) w).bind fun r1 =>
 (vl x0 r1.2).bind fun r2 =>
 (b_len P #[41] 3 #[r2.1] r2.2).bind fun r3 =>
 (bo P .eql 3 (.tmp 12) (.const (.int .i64 0)) r3.1 (.int .i64 0) r3.2).bind fun r4 =>
 (vl r4.1 r4.2).bind fun r5 =>
 cnd r5.1 (
 (vl (Go.Value.string { data := #[] }) r5.2).bind fun r6 =>
 some (r6.1, r6.2)) (
 (bo P .eql 3 (.tmp 12) (.const (.int .i64 1)) r3.1 (.int .i64 1) r5.2).bind fun r7 =>
 (vl r7.1 r7.2).bind fun r8 =>
 cnd r8.1 (
 (vl x0 r8.2).bind fun r9 =>
 (ia P 41 r9.1 (.int .i64 0) r9.2).bind fun r10 =>
 (ld P 9 r10.1 r10.2).bind fun r11 =>
 (vl r11.1 r11.2).bind fun r12 =>
 some (r12.1, r12.2)) (
 (vl (.int .i64 0) r8.2).bind fun r13 =>
 (vl x1 r13.2).bind fun r14 =>
 (b_len P #[9] 3 #[r14.1] r14.2).bind fun r15 =>
 (bo P .gtr 3 (.tmp 21) (.const (.int .i64 0)) r15.1 (.int .i64 0) r15.2).bind fun r16 =>
 cnd r16.1 (
 (vl x1 r16.2).bind fun r17 =>
 (b_len P #[9] 3 #[r17.1] r17.2).bind fun r18 =>
 (vl x0 r18.2).bind fun r19 =>
 (b_len P #[41] 3 #[r19.1] r19.2).bind fun r20 =>
 (bo P .sub 3 (.tmp 26) (.const (.int .i64 1)) r20.1 (.int .i64 1) r20.2).bind fun r21 =>
 (bo P .quo 3 (.const (.int .i64 9223372036854775807)) (.tmp 27) (.int .i64 9223372036854775807) r21.1 r21.2).bind fun r22 =>
 (bo P .geq 3 (.tmp 24) (.tmp 28) r18.1 r22.1 r22.2).bind fun r23 =>
 cnd r23.1 (
 (mi P 9 (Go.Value.string { data := #[115, 116, 114, 105, 110, 103, 115, 58, 32, 74, 111, 105, 110, 32, 111, 117, 116, 112, 117, 116, 32, 108, 101, 110, 103, 116, 104, 32, 111, 118, 101, 114, 102, 108, 111, 119] }) r23.2).bind fun r24 =>
 ((none : Option (Value × World))).bind fun r25 =>
 strings_Join_j1 (ups (env0 #[x0, x1]) [(4, r1.1), (11, r2.1), (12, r3.1), (14, r4.1), (13, r5.1), (16, r7.1), (15, r8.1), (5, r13.1), (20, r14.1), (21, r15.1), (22, r16.1), (23, r17.1), (24, r18.1), (25, r19.1), (26, r20.1), (27, r21.1), (28, r22.1), (29, r23.1), (30, r24.1)]) r25.2) (
 strings_Join_j1 (ups (env0 #[x0, x1]) [(4, r1.1), (11, r2.1), (12, r3.1), (14, r4.1), (13, r5.1), (16, r7.1), (15, r8.1), (5, r13.1), (20, r14.1), (21, r15.1), (22, r16.1), (23, r17.1), (24, r18.1), (25, r19.1), (26, r20.1), (27, r21.1), (28, r22.1), (29, r23.1)]) r23.2)) (
 strings_Join_j2 (ups (env0 #[x0, x1]) [(4, r1.1), (11, r2.1), (12, r3.1), (14, r4.1), (13, r5.1), (16, r7.1), (15, r8.1), (5, r13.1), (20, r14.1), (21, r15.1), (22, r16.1)]) r16.2))) := by kernel_rfl
theorem impl_keyOk_fn (x0 : Value) (w : World) : fnC P (EV P) 69 #[x0] w =
 (vl (.bool false) w).bind fun r1 =>
 (vl x0 r1.2).bind fun r2 =>
 (EV P 72 #[r2.1, (.int .i64 0), (.int .i64 3)] r2.2).bind fun r3 =>
 (vl r3.1 r3.2).bind fun r4 =>
 some (r4.1, r4.2) := by kernel_rfl
noncomputable def impl_textOk_l1 (e : Env) (w : World) : Option (Value × World) := exC P (EV P) 70 19 (.loop (cA (cA (cB (cA (cB (bodyOf P 70))))))) e w (kBlock 0 (kSeq P (EV P) 70 19 (cB (cB (bodyOf P 70))) (kFn P (fnOf P 70))))
theorem impl_textOk_l1_eq (e : Env) (w : World) : impl_textOk_l1 e w =
 (bo P .lss 3 (.tmp 6) (.tmp 5) (e 6) (e 5) w).bind fun r1 =>
 cnd r1.1 (
 (vl (e 6) r1.2).bind fun r2 =>
 (vl r2.1 r2.2).bind fun r3 =>
 (vl (e 0) r3.2).bind fun r4 =>
 (vl r3.1 r4.2).bind fun r5 =>
 (ix P 9 r4.1 r5.1 r5.2).bind fun r6 =>
 (cv P 5 3 r6.1 r6.2).bind fun r7 =>
 (EV P 72 #[r7.1, (.int .i64 33), (.int .i64 126)] r7.2).bind fun r8 =>
 (uo P .not r8.1 r8.2).bind fun r9 =>
 cnd r9.1 (
 (vl (.bool false) r9.2).bind fun r10 =>
 some (r10.1, r10.2)) (
 (bo P .add 3 (.tmp 6) (.const (.int .i64 1)) (e 6) (.int .i64 1) r9.2).bind fun r11 =>
 (vl r11.1 r11.2).bind fun r12 =>
 impl_textOk_l1 (ups e [(7, r1.1), (8, r2.1), (3, r3.1), (9, r4.1), (10, r5.1), (11, r6.1), (12, r7.1), (13, r8.1), (14, r9.1), (15, r11.1), (6, r12.1)]) r12.2)) (
 (vl (e 0) r1.2).bind fun r13 =>
 (b_len P #[9] 3 #[r13.1] r13.2).bind fun r14 =>
 (bo P .leq 3 (.tmp 17) (.const (.int .i64 8)) r14.1 (.int .i64 8) r14.2).bind fun r15 =>
 (vl r15.1 r15.2).bind fun r16 =>
 some (r16.1, r16.2)) := (exC_loop P (EV P) 70 19 (cA (cA (cB (cA (cB (bodyOf P 70)))))) e w (kBlock 0 (kSeq P (EV P) 70 19 (cB (cB (bodyOf P 70))) (kFn P (fnOf P 70))))).trans (by kernel_rfl)
theorem impl_textOk_fn (x0 : Value) (w : World) : fnC P (EV P) 70 #[x0] w =
 (vl (.bool false) w).bind fun r1 =>
 (vl x0 r1.2).bind fun r2 =>
 (b_len P #[9] 3 #[r2.1] r2.2).bind fun r3 =>
 (vl (.int .i64 0) r3.2).bind fun r4 =>
 impl_textOk_l1 (ups (env0 #[x0]) [(2, r1.1), (4, r2.1), (5, r3.1), (6, r4.1)]) r4.2 := by kernel_rfl
theorem impl_PastOk_fn (x0 : Value) (w : World) : fnC P (EV P) 71 #[x0] w =
 (bx P 26 x0 w).bind fun r1 =>
 (vl (.bool false) r1.2).bind fun r2 =>
 (fa P 26 r1.1 0 r2.2).bind fun r3 =>
 (ld P 24 r3.1 r3.2).bind fun r4 =>
 (b_len P #[24] 3 #[r4.1] r4.2).bind fun r5 =>
 (bo P .eql 3 (.tmp 5) (.const (.int .i64 4)) r5.1 (.int .i64 4) r5.2).bind fun r6 =>
 (vl r6.1 r6.2).bind fun r7 =>
 (gif r7.1 true (fa P 26 r1.1 0 r7.2) r7.2).bind fun r8 =>
 (gif r7.1 true (ld P 24 r8.1 r8.2) r8.2).bind fun r9 =>
 (gif r7.1 true (EV P 94 #[r9.1, (.func (.func 95) #[] #[])] r9.2) r9.2).bind fun r10 =>
 (gif r7.1 true (uo P .not r10.1 r10.2) r10.2).bind fun r11 =>
 (pickV r7.1 r11.1 (.bool false) r11.2).bind fun r12 =>
 (vl r12.1 r12.2).bind fun r13 =>
 some (r13.1, r13.2) := by kernel_rfl
theorem impl_within_fn (x0 x1 x2 : Value) (w : World) : fnC P (EV P) 72 #[x0, x1, x2] w =
 (vl (.bool false) w).bind fun r1 =>
 (vl x0 r1.2).bind fun r2 =>
 (vl x1 r2.2).bind fun r3 =>
 (bo P .geq 3 (.tmp 7) (.tmp 8) r2.1 r3.1 r3.2).bind fun r4 =>
 (vl r4.1 r4.2).bind fun r5 =>
 (gif r5.1 true (vl x0 r5.2) r5.2).bind fun r6 =>
 (gif r5.1 true (vl x2 r6.2) r6.2).bind fun r7 =>
 (gif r5.1 true (bo P .leq 3 (.tmp 11) (.tmp 12) r6.1 r7.1 r7.2) r7.2).bind fun r8 =>
 (pickV r5.1 r8.1 (.bool false) r8.2).bind fun r9 =>
 (vl r9.1 r9.2).bind fun r10 =>
 some (r10.1, r10.2) := by kernel_rfl
theorem impl_placeOk_fn (x0 : Value) (w : World) : fnC P (EV P) 73 #[x0] w =
 (vl (.bool false) w).bind fun r1 =>
 (vl x0 r1.2).bind fun r2 =>
 (EV P 72 #[r2.1, (.int .i64 0), (.int .i64 2)] r2.2).bind fun r3 =>
 (vl r3.1 r3.2).bind fun r4 =>
 some (r4.1, r4.2) := by kernel_rfl
noncomputable def cmp_Or_int_l1 (e : Env) (w : World) : Option (Value × World) := exC P (EV P) 74 18 (.loop (cA (cA (cB (cA (cB (cB (bodyOf P 74)))))))) e w (kBlock 0 (kSeq P (EV P) 74 18 (cB (cB (cB (bodyOf P 74)))) (kFn P (fnOf P 74))))
theorem cmp_Or_int_l1_eq (e : Env) (w : World) : cmp_Or_int_l1 e w =
 (bo P .lss 3 (.tmp 8) (.tmp 7) (e 8) (e 7) w).bind fun r1 =>
 cnd r1.1 (
 (ia P 82 (e 6) (e 8) r1.2).bind fun r2 =>
 (ld P 3 r2.1 r2.2).bind fun r3 =>
 (vl r3.1 r3.2).bind fun r4 =>
 (vl r4.1 r4.2).bind fun r5 =>
 (vl (e 3) r5.2).bind fun r6 =>
 (bo P .neq 3 (.tmp 12) (.tmp 13) r5.1 r6.1 r6.2).bind fun r7 =>
 cnd r7.1 (
 (vl r4.1 r7.2).bind fun r8 =>
 (vl r8.1 r8.2).bind fun r9 =>
 some (r9.1, r9.2)) (
 (bo P .add 3 (.tmp 8) (.const (.int .i64 1)) (e 8) (.int .i64 1) r7.2).bind fun r10 =>
 (vl r10.1 r10.2).bind fun r11 =>
 cmp_Or_int_l1 (ups e [(9, r1.1), (10, r2.1), (11, r3.1), (5, r4.1), (12, r5.1), (13, r6.1), (14, r7.1), (16, r10.1), (8, r11.1)]) r11.2)) (
 (vl (e 3) r1.2).bind fun r12 =>
 (vl r12.1 r12.2).bind fun r13 =>
 some (r13.1, r13.2)) := (exC_loop P (EV P) 74 18 (cA (cA (cB (cA (cB (cB (bodyOf P 74))))))) e w (kBlock 0 (kSeq P (EV P) 74 18 (cB (cB (cB (bodyOf P 74)))) (kFn P (fnOf P 74))))).trans (by kernel_rfl)
theorem cmp_Or_int_fn (x0 : Value) (w : World) : fnC P (EV P) 74 #[x0] w =
 (vl (.int .i64 0) w).bind fun r1 =>
 (vl (.int .i64 0) r1.2).bind fun r2 =>
 (vl x0 r2.2).bind fun r3 =>
 (b_len P #[82] 3 #[r3.1] r3.2).bind fun r4 =>
 (vl (.int .i64 0) r4.2).bind fun r5 =>
 cmp_Or_int_l1 (ups (env0 #[x0]) [(2, r1.1), (3, r2.1), (6, r3.1), (7, r4.1), (8, r5.1)]) r5.2 := by kernel_rfl
theorem cmp_Compare_int_fn (x0 x1 : Value) (w : World) : fnC P (EV P) 75 #[x0, x1] w =
 (vl (.int .i64 0) w).bind fun r1 =>
 (vl x0 r1.2).bind fun r2 =>
 (EV P 96 #[r2.1] r2.2).bind fun r3 =>
 (vl r3.1 r3.2).bind fun r4 =>
 (vl x1 r4.2).bind fun r5 =>
 (EV P 96 #[r5.1] r5.2).bind fun r6 =>
 (vl r6.1 r6.2).bind fun r7 =>
 (vl r4.1 r7.2).bind fun r8 =>
 cnd r8.1 (
 (vl r7.1 r8.2).bind fun r9 =>
 cnd r9.1 (
 (vl (.int .i64 0) r9.2).bind fun r10 =>
 some (r10.1, r10.2)) (
 (vl (.int .i64 (-1)) r9.2).bind fun r11 =>
 some (r11.1, r11.2))) (
 (vl r7.1 r8.2).bind fun r12 =>
 cnd r12.1 (
 (vl (.int .i64 1) r12.2).bind fun r13 =>
 some (r13.1, r13.2)) (
 (vl x0 r12.2).bind fun r14 =>
 (vl x1 r14.2).bind fun r15 =>
 (bo P .lss 3 (.tmp 14) (.tmp 15) r14.1 r15.1 r15.2).bind fun r16 =>
 cnd r16.1 (
 (vl (.int .i64 (-1)) r16.2).bind fun r17 =>
 some (r17.1, r17.2)) (
 (vl x0 r16.2).bind fun r18 =>
 (vl x1 r18.2).bind fun r19 =>
 (bo P .gtr 3 (.tmp 17) (.tmp 18) r18.1 r19.1 r19.2).bind fun r20 =>
 cnd r20.1 (
 (vl (.int .i64 1) r20.2).bind fun r21 =>
 some (r21.1, r21.2)) (
 (vl (.int .i64 0) r20.2).bind fun r22 =>
 some (r22.1, r22.2))))) := by kernel_rfl
theorem spec_l1None_fn (w : World) : fnC P (EV P) 76 #[] w =
 (al P 26 w).bind fun r1 =>
 (ms P 24 (.int .i64 4) (.int .i64 4) r1.2).bind fun r2 =>
 (bd P 26 #[(0, r2.1)] r2.2).bind fun r3 =>
 (st P 26 r1.1 r3.1 r3.2).bind fun r4 =>
 ((ld P 26 r1.1 r4.2).bind fun r5 => ifP (r5.2 = r4.2) (some r5.1)).bind fun v6 =>
 some (v6, r4.2) := by kernel_rfl
theorem spec_l20Text_fn (x0 : Value) (w : World) : fnC P (EV P) 77 #[x0] w =
 (vl (Go.Value.string { data := #[] }) w).bind fun r1 =>
 (vl x0 r1.2).bind fun r2 =>
 (bs P 41 8 #[(0, (Go.Value.string { data := #[] })), (1, (Go.Value.string { data := #[97] })), (2, (Go.Value.string { data := #[98] })), (3, (Go.Value.string { data := #[120, 35, 49] })), (4, (Go.Value.string { data := #[61] })), (5, (Go.Value.string { data := #[45] })), (6, (Go.Value.string { data := #[108, 111, 110, 103, 116, 101, 120, 116] })), (7, (Go.Value.string { data := #[122, 122] }))] r2.2).bind fun r3 =>
 (EV P 65 #[r2.1, r3.1] r3.2).bind fun r4 =>
 (vl r4.1 r4.2).bind fun r5 =>
 some (r5.1, r5.2) := by kernel_rfl
theorem spec_l20Tag_fn (x0 : Value) (w : World) : fnC P (EV P) 78 #[x0] w =
 (al P 23 w).bind fun r1 =>
 (vl x0 r1.2).bind fun r2 =>
 (EV P 44 #[r2.1, (.int .i64 3)] r2.2).bind fun r3 =>
 (bo P .eql 3 (.tmp 4) (.const (.int .i64 0)) r3.1 (.int .i64 0) r3.2).bind fun r4 =>
 cnd r4.1 (
 (bd P 23 #[] r4.2).bind fun r5 =>
 (st P 23 r1.1 r5.1 r5.2).bind fun r6 =>
 ((ld P 23 r1.1 r6.2).bind fun r7 => ifP (r7.2 = r6.2) (some r7.1)).bind fun v8 =>
 some (v8, r6.2)) (
 (vl x0 r4.2).bind fun r9 =>
 (EV P 44 #[r9.1, (.int .i64 9)] r9.2).bind fun r10 =>
 (bo P .add 3 (.const (.int .i64 1)) (.tmp 8) (.int .i64 1) r10.1 r10.2).bind fun r11 =>
 (vl x0 r11.2).bind fun r12 =>
 (EV P 44 #[r12.1, (.int .i64 3)] r12.2).bind fun r13 =>
 (bd P 23 #[(0, r11.1), (1, r13.1)] r13.2).bind fun r14 =>
 (st P 23 r1.1 r14.1 r14.2).bind fun r15 =>
 ((ld P 23 r1.1 r15.2).bind fun r16 => ifP (r16.2 = r15.2) (some r16.1)).bind fun v17 =>
 some (v17, r15.2)) := by kernel_rfl
noncomputable def strings_Count_l1 (e : Env) (w : World) : Option (Value × World) := exC P (EV P) 80 34 (.loop (cA (cA (cB (cB (cB (cB (bodyOf P 80)))))))) e w (kBlock 0 (kFn P (fnOf P 80)))
theorem strings_Count_fn (x0 x1 : Value) (w : World) : fnC P (EV P) 80 #[x0, x1] w =
 (vl (.int .i64 0) w).bind fun r1 =>
 (vl x1 r1.2).bind fun r2 =>
 (b_len P #[9] 3 #[r2.1] r2.2).bind fun r3 =>
 (bo P .eql 3 (.tmp 8) (.const (.int .i64 0)) r3.1 (.int .i64 0) r3.2).bind fun r4 =>
 cnd r4.1 (
 (vl x0 r4.2).bind fun r5 =>
 (EV P 97 #[r5.1] r5.2).bind fun r6 =>
 (bo P .add 3 (.tmp 11) (.const (.int .i64 1)) r6.1 (.int .i64 1) r6.2).bind fun r7 =>
 (vl r7.1 r7.2).bind fun r8 =>
 some (r8.1, r8.2)) (
 (vl x1 r4.2).bind fun r9 =>
 (b_len P #[9] 3 #[r9.1] r9.2).bind fun r10 =>
 (bo P .eql 3 (.tmp 14) (.const (.int .i64 1)) r10.1 (.int .i64 1) r10.2).bind fun r11 =>
 cnd r11.1 (
 (vl x0 r11.2).bind fun r12 =>
 (vl x1 r12.2).bind fun r13 =>
 (ix P 9 r13.1 (.int .i64 0) r13.2).bind fun r14 =>
 (xf P 99 #[r12.1, r14.1] r14.2).bind fun r15 =>
 (vl r15.1 r15.2).bind fun r16 =>
 some (r16.1, r16.2)) (
 (vl (.int .i64 0) r11.2).bind fun r17 =>
 strings_Count_l1 (ups (env0 #[x0, x1]) [(4, r1.1), (7, r2.1), (8, r3.1), (9, r4.1), (13, r9.1), (14, r10.1), (15, r11.1), (5, r17.1)]) r17.2)) := by kernel_rfl
theorem strings_Index_fn (x0 x1 : Value) (w : World) : fnC P (EV P) 81 #[x0, x1] w =
 (vl (.int .i64 0) w).bind fun r1 =>
 (vl x0 r1.2).bind fun r2 =>
 (vl x1 r2.2).bind fun r3 =>
 (EV P 100 #[r2.1, r3.1] r3.2).bind fun r4 =>
 (vl r4.1 r4.2).bind fun r5 =>
 some (r5.1, r5.2) := by kernel_rfl
end Go.Proofs.YtgdacclgooaodaaGreatDoor.X
