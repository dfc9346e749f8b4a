/- A part of the proof: an evaluator of the model, its laws, and contracts of functions; no condition. -/
import Derived.Test.YtcafhepclddcaaaEvT
set_option linter.unusedVariables false
set_option maxRecDepth 100000
namespace Go.Proofs.Ytcafhepclddcaaa.X
open Go Go.Ev
theorem slices_Clip_string_fn (x0 : Value) (w : World) : fnC P (EV P) 76 #[x0] w =
 (vl (Go.Value.slice none 0 0) w).bind fun r1 =>
 (vl x0 r1.2).bind fun r2 =>
 (vl x0 r2.2).bind fun r3 =>
 (b_len P #[51] 3 #[r3.1] r3.2).bind fun r4 =>
 (vl x0 r4.2).bind fun r5 =>
 (b_len P #[51] 3 #[r5.1] r5.2).bind fun r6 =>
 (sl P 51 r2.1 none (some r4.1) (some r6.1) r6.2).bind fun r7 =>
 (vl r7.1 r7.2).bind fun r8 =>
 some (r8.1, r8.2) := by kernel_rfl
theorem slices_Insert_string_fn (x0 x1 x2 : Value) (w : World) : fnC P (EV P) 77 #[x0, x1, x2] w =
 (vl (Go.Value.slice none 0 0) w).bind fun r1 =>
 (vl x0 r1.2).bind fun r2 =>
 (vl x1 r2.2).bind fun r3 =>
 (sl P 51 r2.1 (some r3.1) none none r3.2).bind fun r4 =>
 (vl x2 r4.2).bind fun r5 =>
 (b_len P #[51] 3 #[r5.1] r5.2).bind fun r6 =>
 (vl r6.1 r6.2).bind fun r7 =>
 (vl r7.1 r7.2).bind fun r8 =>
 (bo P .eql 3 (.tmp 15) (.const (.int .i64 0)) r8.1 (.int .i64 0) r8.2).bind fun r9 =>
 cnd r9.1 (
 (vl x0 r9.2).bind fun r10 =>
 (vl r10.1 r10.2).bind fun r11 =>
 some (r11.1, r11.2)) (
 (vl x0 r9.2).bind fun r12 =>
 (b_len P #[51] 3 #[r12.1] r12.2).bind fun r13 =>
 (vl r13.1 r13.2).bind fun r14 =>
 (vl x1 r14.2).bind fun r15 =>
 (vl r14.1 r15.2).bind fun r16 =>
 (bo P .eql 3 (.tmp 20) (.tmp 21) r15.1 r16.1 r16.2).bind fun r17 =>
 cnd r17.1 (
 (vl x0 r17.2).bind fun r18 =>
 (vl x2 r18.2).bind fun r19 =>
 (b_append P #[51, 51] 51 #[r18.1, r19.1] r19.2).bind fun r20 =>
 (vl r20.1 r20.2).bind fun r21 =>
 some (r21.1, r21.2)) (
 (vl r14.1 r17.2).bind fun r22 =>
 (vl r7.1 r22.2).bind fun r23 =>
 (bo P .add 3 (.tmp 26) (.tmp 27) r22.1 r23.1 r23.2).bind fun r24 =>
 (vl x0 r24.2).bind fun r25 =>
 (b_cap P #[51] 3 #[r25.1] r25.2).bind fun r26 =>
 (bo P .gtr 3 (.tmp 28) (.tmp 30) r24.1 r26.1 r26.2).bind fun r27 =>
 cnd r27.1 (
 (vl x0 r27.2).bind fun r28 =>
 (vl x1 r28.2).bind fun r29 =>
 (sl P 51 r28.1 none (some r29.1) none r29.2).bind fun r30 =>
 (vl r14.1 r30.2).bind fun r31 =>
 (vl r7.1 r31.2).bind fun r32 =>
 (bo P .add 3 (.tmp 35) (.tmp 36) r31.1 r32.1 r32.2).bind fun r33 =>
 (vl x1 r33.2).bind fun r34 =>
 (bo P .sub 3 (.tmp 37) (.tmp 38) r33.1 r34.1 r34.2).bind fun r35 =>
 (b_append P #[51, 3] 51 #[r30.1, r35.1] r35.2).bind fun r36 =>
 (vl r36.1 r36.2).bind fun r37 =>
 (vl r37.1 r37.2).bind fun r38 =>
 (vl x1 r38.2).bind fun r39 =>
 (sl P 51 r38.1 (some r39.1) none none r39.2).bind fun r40 =>
 (vl x2 r40.2).bind fun r41 =>
 (b_copy P #[51, 51] 3 #[r40.1, r41.1] r41.2).bind fun r42 =>
 (vl r37.1 (dw r42.2)).bind fun r44 =>
 ifP (r44.2 = (dw r42.2)) <|
 (vl x1 (dw r42.2)).bind fun r45 =>
 ifP (r45.2 = (dw r42.2)) <|
 (vl r7.1 (dw r42.2)).bind fun r46 =>
 ifP (r46.2 = (dw r42.2)) <|
 (bo P .add 3 (.tmp 47) (.tmp 48) r45.1 r46.1 (dw r42.2)).bind fun r47 =>
 ifP (r47.2 = (dw r42.2)) <|
 (sl P 51 r44.1 (some r47.1) none none (dw r42.2)).bind fun r48 =>
 ifP (r48.2 = (dw r42.2)) <|
 (vl x0 (dw r42.2)).bind fun r49 =>
 ifP (r49.2 = (dw r42.2)) <|
 (vl x1 (dw r42.2)).bind fun r50 =>
 ifP (r50.2 = (dw r42.2)) <|
 (sl P 51 r49.1 (some r50.1) none none (dw r42.2)).bind fun r51 =>
 ifP (r51.2 = (dw r42.2)) <|
 (b_copy P #[51, 51] 3 #[r48.1, r51.1] (dw r42.2)).bind fun r52 =>
 ifP (True ∧ True ∧ True ∧ True) <|
 (vl r37.1 r52.2).bind fun r53 =>
 (vl r53.1 r53.2).bind fun r54 =>
 some (r54.1, r54.2)) (
 (vl x0 r27.2).bind fun r55 =>
 (vl r14.1 r55.2).bind fun r56 =>
 (vl r7.1 r56.2).bind fun r57 =>
 (bo P .add 3 (.tmp 57) (.tmp 58) r56.1 r57.1 r57.2).bind fun r58 =>
 (sl P 51 r55.1 none (some r58.1) none r58.2).bind fun r59 =>
 (vl r59.1 r59.2).bind fun r60 =>
 (vl x2 r60.2).bind fun r61 =>
 (vl r60.1 r61.2).bind fun r62 =>
 (vl x1 r62.2).bind fun r63 =>
 (vl r7.1 r63.2).bind fun r64 =>
 (bo P .add 3 (.tmp 63) (.tmp 64) r63.1 r64.1 r64.2).bind fun r65 =>
 (sl P 51 r62.1 (some r65.1) none none r65.2).bind fun r66 =>
 (xf P 105 #[r61.1, r66.1] r66.2).bind fun r67 =>
 (uo P .not r67.1 r67.2).bind fun r68 =>
 cnd r68.1 (
 (vl r60.1 (dw r68.2)).bind fun r70 =>
 ifP (r70.2 = (dw r68.2)) <|
 (vl x1 (dw r68.2)).bind fun r71 =>
 ifP (r71.2 = (dw r68.2)) <|
 (vl r7.1 (dw r68.2)).bind fun r72 =>
 ifP (r72.2 = (dw r68.2)) <|
 (bo P .add 3 (.tmp 70) (.tmp 71) r71.1 r72.1 (dw r68.2)).bind fun r73 =>
 ifP (r73.2 = (dw r68.2)) <|
 (sl P 51 r70.1 (some r73.1) none none (dw r68.2)).bind fun r74 =>
 ifP (r74.2 = (dw r68.2)) <|
 (vl r60.1 (dw r68.2)).bind fun r75 =>
 ifP (r75.2 = (dw r68.2)) <|
 (vl x1 (dw r68.2)).bind fun r76 =>
 ifP (r76.2 = (dw r68.2)) <|
 (sl P 51 r75.1 (some r76.1) none none (dw r68.2)).bind fun r77 =>
 ifP (r77.2 = (dw r68.2)) <|
 (b_copy P #[51, 51] 3 #[r74.1, r77.1] (dw r68.2)).bind fun r78 =>
 ifP (True ∧ True ∧ True ∧ True) <|
 (vl r60.1 r78.2).bind fun r79 =>
 (vl x1 r79.2).bind fun r80 =>
 (sl P 51 r79.1 (some r80.1) none none r80.2).bind fun r81 =>
 (vl x2 r81.2).bind fun r82 =>
 (b_copy P #[51, 51] 3 #[r81.1, r82.1] r82.2).bind fun r83 =>
 (vl r60.1 r83.2).bind fun r84 =>
 (vl r84.1 r84.2).bind fun r85 =>
 some (r85.1, r85.2)) (
 (vl r60.1 r68.2).bind fun r86 =>
 (vl r14.1 r86.2).bind fun r87 =>
 (sl P 51 r86.1 (some r87.1) none none r87.2).bind fun r88 =>
 (vl x2 r88.2).bind fun r89 =>
 (b_copy P #[51, 51] 3 #[r88.1, r89.1] r89.2).bind fun r90 =>
 (vl r60.1 r90.2).bind fun r91 =>
 (vl x1 r91.2).bind fun r92 =>
 (sl P 51 r91.1 (some r92.1) none none r92.2).bind fun r93 =>
 (vl r7.1 r93.2).bind fun r94 =>
 (EV P 106 #[r93.1, r94.1] r94.2).bind fun r95 =>
 (vl r60.1 r95.2).bind fun r96 =>
 (vl r96.1 r96.2).bind fun r97 =>
 some (r97.1, r97.2))))) := by kernel_rfl
theorem slices_Clone_string_fn (x0 : Value) (w : World) : fnC P (EV P) 78 #[x0] w =
 (vl (Go.Value.slice none 0 0) w).bind fun r1 =>
 (vl x0 r1.2).bind fun r2 =>
 (bo P .eql 51 (.tmp 3) (.const (Go.Value.slice none 0 0)) r2.1 (Go.Value.slice none 0 0) r2.2).bind fun r3 =>
 cnd r3.1 (
 (vl (Go.Value.slice none 0 0) r3.2).bind fun r4 =>
 some (r4.1, r4.2)) (
 (bs P 51 0 #[] r3.2).bind fun r5 =>
 (vl x0 r5.2).bind fun r6 =>
 (b_append P #[51, 51] 51 #[r5.1, r6.1] r6.2).bind fun r7 =>
 (vl r7.1 r7.2).bind fun r8 =>
 some (r8.1, r8.2)) := by kernel_rfl
noncomputable def laws_eqStringS_l1 (e : Env) (w : World) : Option (Value × World) := exC P (EV P) 79 26 (.loop (cA (cA (cB (cA (cB (cB (bodyOf P 79)))))))) e w (kBlock 0 (kSeq P (EV P) 79 26 (cB (cB (cB (bodyOf P 79)))) (kFn P (fnOf P 79))))
theorem laws_eqStringS_l1_eq (e : Env) (w : World) : laws_eqStringS_l1 e w =
 (vl (e 5) w).bind fun r1 =>
 (vl (e 0) r1.2).bind fun r2 =>
 (b_len P #[51] 3 #[r2.1] r2.2).bind fun r3 =>
 (bo P .lss 3 (.tmp 11) (.tmp 13) r1.1 r3.1 r3.2).bind fun r4 =>
 cnd r4.1 (
 (vl (e 0) (dw r4.2)).bind fun r6 =>
 ifP (r6.2 = (dw r4.2)) <|
 (vl (e 5) (dw r4.2)).bind fun r7 =>
 ifP (r7.2 = (dw r4.2)) <|
 (ia P 51 r6.1 r7.1 (dw r4.2)).bind fun r8 =>
 ifP (r8.2 = (dw r4.2)) <|
 (ld P 9 r8.1 (dw r4.2)).bind fun r9 =>
 ifP (r9.2 = (dw r4.2)) <|
 (vl (e 1) (dw r4.2)).bind fun r10 =>
 ifP (r10.2 = (dw r4.2)) <|
 (vl (e 5) (dw r4.2)).bind fun r11 =>
 ifP (r11.2 = (dw r4.2)) <|
 (ia P 51 r10.1 r11.1 (dw r4.2)).bind fun r12 =>
 ifP (r12.2 = (dw r4.2)) <|
 (ld P 9 r12.1 (dw r4.2)).bind fun r13 =>
 ifP (r13.2 = (dw r4.2)) <|
 (bo P .neq 9 (.tmp 20) (.tmp 24) r9.1 r13.1 (dw r4.2)).bind fun r14 =>
 ifP (r14.2 = (dw r4.2)) <|
 cnd r14.1 (
 (vl (.bool false) (dw r4.2)).bind fun r15 =>
 some (r15.1, r15.2)) (
 (vl (e 5) (dw r4.2)).bind fun r16 =>
 (bo P .add 3 (.tmp 15) (.const (.int .i64 1)) r16.1 (.int .i64 1) r16.2).bind fun r17 =>
 (vl r17.1 r17.2).bind fun r18 =>
 laws_eqStringS_l1 (ups e [(11, r1.1), (12, r2.1), (13, r3.1), (14, r4.1), (17, r6.1), (18, r7.1), (19, r8.1), (20, r9.1), (21, r10.1), (22, r11.1), (23, r12.1), (24, r13.1), (25, r14.1), (15, r16.1), (16, r17.1), (5, r18.1)]) r18.2)) (
 (vl (.bool true) r4.2).bind fun r19 =>
 some (r19.1, r19.2)) := (exC_loop P (EV P) 79 26 (cA (cA (cB (cA (cB (cB (bodyOf P 79))))))) e w (kBlock 0 (kSeq P (EV P) 79 26 (cB (cB (cB (bodyOf P 79)))) (kFn P (fnOf P 79))))).trans (by kernel_rfl)
theorem laws_eqStringS_fn (x0 x1 : Value) (w : World) : fnC P (EV P) 79 #[x0, x1] w =
 (vl (.bool false) w).bind fun r1 =>
 (vl x0 r1.2).bind fun r2 =>
 (b_len P #[51] 3 #[r2.1] r2.2).bind fun r3 =>
 (vl x1 r3.2).bind fun r4 =>
 (b_len P #[51] 3 #[r4.1] r4.2).bind fun r5 =>
 (bo P .neq 3 (.tmp 7) (.tmp 9) r3.1 r5.1 r5.2).bind fun r6 =>
 cnd r6.1 (
 (vl (.bool false) r6.2).bind fun r7 =>
 some (r7.1, r7.2)) (
 (vl (.int .i64 0) r6.2).bind fun r8 =>
 laws_eqStringS_l1 (ups (env0 #[x0, x1]) [(4, r1.1), (6, r2.1), (7, r3.1), (8, r4.1), (9, r5.1), (10, r6.1), (5, r8.1)]) r8.2) := by kernel_rfl
noncomputable def laws_markStringS_l1 (e : Env) (w : World) : Option (Value × World) := exC P (EV P) 80 20 (.loop (cA (cA (cB (cA (cB (bodyOf P 80))))))) e w (kBlock 0 (kSeq P (EV P) 80 20 (cB (cB (bodyOf P 80))) (kFn P (fnOf P 80))))
theorem laws_markStringS_l1_eq (e : Env) (w : World) : laws_markStringS_l1 e w =
 (vl (e 5) w).bind fun r1 =>
 (vl (e 0) r1.2).bind fun r2 =>
 (b_len P #[51] 3 #[r2.1] r2.2).bind fun r3 =>
 (bo P .lss 3 (.tmp 6) (.tmp 8) r1.1 r3.1 r3.2).bind fun r4 =>
 cnd r4.1 (
 (vl (e 0) r4.2).bind fun r5 =>
 (vl (e 5) r5.2).bind fun r6 =>
 (vl (e 1) r6.2).bind fun r7 =>
 (EV P 107 #[r7.1] r7.2).bind fun r8 =>
 (ia P 51 r5.1 r6.1 r8.2).bind fun r9 =>
 (st P 9 r9.1 r8.1 r9.2).bind fun r10 =>
 (vl (e 1) r10.2).bind fun r11 =>
 (bo P .add 3 (.tmp 17) (.const (.int .i64 1)) r11.1 (.int .i64 1) r11.2).bind fun r12 =>
 (vl r12.1 r12.2).bind fun r13 =>
 (vl (e 5) r13.2).bind fun r14 =>
 (bo P .add 3 (.tmp 10) (.const (.int .i64 1)) r14.1 (.int .i64 1) r14.2).bind fun r15 =>
 (vl r15.1 r15.2).bind fun r16 =>
 laws_markStringS_l1 (ups e [(6, r1.1), (7, r2.1), (8, r3.1), (9, r4.1), (12, r5.1), (13, r6.1), (14, r7.1), (15, r8.1), (16, r9.1), (17, r11.1), (18, r12.1), (1, r13.1), (10, r14.1), (11, r15.1), (5, r16.1)]) r16.2) (
 (vl (e 1) r4.2).bind fun r17 =>
 (vl r17.1 r17.2).bind fun r18 =>
 some (r18.1, r18.2)) := (exC_loop P (EV P) 80 20 (cA (cA (cB (cA (cB (bodyOf P 80)))))) e w (kBlock 0 (kSeq P (EV P) 80 20 (cB (cB (bodyOf P 80))) (kFn P (fnOf P 80))))).trans (by kernel_rfl)
theorem laws_markStringS_fn (x0 x1 : Value) (w : World) : fnC P (EV P) 80 #[x0, x1] w =
 (vl (.int .i64 0) w).bind fun r1 =>
 (vl (.int .i64 0) r1.2).bind fun r2 =>
 laws_markStringS_l1 (ups (env0 #[x0, x1]) [(4, r1.1), (5, r2.1)]) r2.2 := by kernel_rfl
noncomputable def laws_heldStringS_l1 (e : Env) (w : World) : Option (Value × World) := exC P (EV P) 81 22 (.loop (cA (cA (cB (cA (cB (bodyOf P 81))))))) e w (kBlock 0 (kSeq P (EV P) 81 22 (cB (cB (bodyOf P 81))) (kFn P (fnOf P 81))))
theorem laws_heldStringS_l1_eq (e : Env) (w : World) : laws_heldStringS_l1 e w =
 (vl (e 5) w).bind fun r1 =>
 (vl (e 0) r1.2).bind fun r2 =>
 (b_len P #[51] 3 #[r2.1] r2.2).bind fun r3 =>
 (bo P .lss 3 (.tmp 6) (.tmp 8) r1.1 r3.1 r3.2).bind fun r4 =>
 cnd r4.1 (
 (vl (e 0) (dw r4.2)).bind fun r6 =>
 ifP (r6.2 = (dw r4.2)) <|
 (vl (e 5) (dw r4.2)).bind fun r7 =>
 ifP (r7.2 = (dw r4.2)) <|
 (ia P 51 r6.1 r7.1 (dw r4.2)).bind fun r8 =>
 ifP (r8.2 = (dw r4.2)) <|
 (ld P 9 r8.1 (dw r4.2)).bind fun r9 =>
 ifP (r9.2 = (dw r4.2)) <|
 (vl (e 1) (dw r4.2)).bind fun r10 =>
 ifP (r10.2 = (dw r4.2)) <|
 (EV P 107 #[r10.1] (dw r4.2)).bind fun r11 =>
 ifP (ld P 9 r8.1 r11.2 = some (r9.1, r11.2) ∧ ia P 51 r6.1 r7.1 r11.2 = some (r8.1, r11.2) ∧ True) <|
 (bo P .neq 9 (.tmp 15) (.tmp 17) r9.1 r11.1 r11.2).bind fun r12 =>
 ifP (r12.2 = r11.2) <|
 cnd r12.1 (
 (vl (.int .i64 (-1)) r11.2).bind fun r13 =>
 some (r13.1, r13.2)) (
 (vl (e 1) r11.2).bind fun r14 =>
 (bo P .add 3 (.tmp 19) (.const (.int .i64 1)) r14.1 (.int .i64 1) r14.2).bind fun r15 =>
 (vl r15.1 r15.2).bind fun r16 =>
 (vl (e 5) r16.2).bind fun r17 =>
 (bo P .add 3 (.tmp 10) (.const (.int .i64 1)) r17.1 (.int .i64 1) r17.2).bind fun r18 =>
 (vl r18.1 r18.2).bind fun r19 =>
 laws_heldStringS_l1 (ups e [(6, r1.1), (7, r2.1), (8, r3.1), (9, r4.1), (12, r6.1), (13, r7.1), (14, r8.1), (15, r9.1), (16, r10.1), (17, r11.1), (18, r12.1), (19, r14.1), (20, r15.1), (1, r16.1), (10, r17.1), (11, r18.1), (5, r19.1)]) r19.2)) (
 (vl (e 1) r4.2).bind fun r20 =>
 (vl r20.1 r20.2).bind fun r21 =>
 some (r21.1, r21.2)) := (exC_loop P (EV P) 81 22 (cA (cA (cB (cA (cB (bodyOf P 81)))))) e w (kBlock 0 (kSeq P (EV P) 81 22 (cB (cB (bodyOf P 81))) (kFn P (fnOf P 81))))).trans (by kernel_rfl)
theorem laws_heldStringS_fn (x0 x1 : Value) (w : World) : fnC P (EV P) 81 #[x0, x1] w =
 (vl (.int .i64 0) w).bind fun r1 =>
 (vl (.int .i64 0) r1.2).bind fun r2 =>
 laws_heldStringS_l1 (ups (env0 #[x0, x1]) [(4, r1.1), (5, r2.1)]) r2.2 := by kernel_rfl
theorem cmp_Less_string_fn (x0 x1 : Value) (w : World) : fnC P (EV P) 103 #[x0, x1] w =
 (vl (.bool false) w).bind fun r1 =>
 (vl x0 r1.2).bind fun r2 =>
 (EV P 128 #[r2.1] r2.2).bind fun r3 =>
 (vl r3.1 r3.2).bind fun r4 =>
 (gif r4.1 true (vl x1 r4.2) r4.2).bind fun r5 =>
 (gif r4.1 true (EV P 128 #[r5.1] r5.2) r5.2).bind fun r6 =>
 (gif r4.1 true (uo P .not r6.1 r6.2) r6.2).bind fun r7 =>
 (pickV r4.1 r7.1 (.bool false) r7.2).bind fun r8 =>
 (vl r8.1 r8.2).bind fun r9 =>
 (gif r9.1 false (vl x0 r9.2) r9.2).bind fun r10 =>
 (gif r9.1 false (vl x1 r10.2) r10.2).bind fun r11 =>
 (gif r9.1 false (bo P .lss 9 (.tmp 13) (.tmp 14) r10.1 r11.1 r11.2) r11.2).bind fun r12 =>
 (pickV r9.1 (.bool true) r12.1 r12.2).bind fun r13 =>
 (vl r13.1 r13.2).bind fun r14 =>
 some (r14.1, r14.2) := by kernel_rfl
theorem slices_isNaN_string_fn (x0 : Value) (w : World) : fnC P (EV P) 104 #[x0] w =
 (vl (.bool false) w).bind fun r1 =>
 (vl x0 r1.2).bind fun r2 =>
 (vl x0 r2.2).bind fun r3 =>
 (bo P .neq 9 (.tmp 3) (.tmp 4) r2.1 r3.1 r3.2).bind fun r4 =>
 (vl r4.1 r4.2).bind fun r5 =>
 some (r5.1, r5.2) := by kernel_rfl
noncomputable def laws_markText_l1 (e : Env) (w : World) : Option (Value × World) := exC P (EV P) 107 20 (.loop (cA (cA (cA (cB (cB (cB (bodyOf P 107)))))))) e w (kBlock 0 (kSeq P (EV P) 107 20 (cB (cB (cB (cB (bodyOf P 107))))) (kFn P (fnOf P 107))))
theorem laws_markText_l1_eq (e : Env) (w : World) : laws_markText_l1 e w =
 (vl (e 0) w).bind fun r1 =>
 (bo P .gtr 3 (.tmp 6) (.const (.int .i64 0)) r1.1 (.int .i64 0) r1.2).bind fun r2 =>
 cnd r2.1 (
 (vl (e 0) r2.2).bind fun r3 =>
 (bo P .rem 3 (.tmp 8) (.const (.int .i64 10)) r3.1 (.int .i64 10) r3.2).bind fun r4 =>
 (bo P .add 3 (.const (.int .i64 48)) (.tmp 9) (.int .i64 48) r4.1 r4.2).bind fun r5 =>
 (cv P 3 5 r5.1 r5.2).bind fun r6 =>
 (bs P 140 1 #[(0, r6.1)] r6.2).bind fun r7 =>
 (cv P 140 9 r7.1 r7.2).bind fun r8 =>
 (vl (e 3) r8.2).bind fun r9 =>
 (bo P .add 9 (.tmp 13) (.tmp 14) r8.1 r9.1 r9.2).bind fun r10 =>
 (vl r10.1 r10.2).bind fun r11 =>
 (vl (e 0) r11.2).bind fun r12 =>
 (bo P .quo 3 (.tmp 16) (.const (.int .i64 10)) r12.1 (.int .i64 10) r12.2).bind fun r13 =>
 (vl r13.1 r13.2).bind fun r14 =>
 laws_markText_l1 (ups e [(6, r1.1), (7, r2.1), (8, r3.1), (9, r4.1), (10, r5.1), (11, r6.1), (12, r7.1), (13, r8.1), (14, r9.1), (15, r10.1), (3, r11.1), (16, r12.1), (17, r13.1), (0, r14.1)]) r14.2) (
 (vl (e 3) r2.2).bind fun r15 =>
 (bo P .add 9 (.const (Go.Value.string { data := #[109] })) (.tmp 18) (Go.Value.string { data := #[109] }) r15.1 r15.2).bind fun r16 =>
 (vl r16.1 r16.2).bind fun r17 =>
 some (r17.1, r17.2)) := (exC_loop P (EV P) 107 20 (cA (cA (cA (cB (cB (cB (bodyOf P 107))))))) e w (kBlock 0 (kSeq P (EV P) 107 20 (cB (cB (cB (cB (bodyOf P 107))))) (kFn P (fnOf P 107))))).trans (by kernel_rfl)
theorem laws_markText_fn (x0 : Value) (w : World) : fnC P (EV P) 107 #[x0] w =
 (vl (Go.Value.string { data := #[] }) w).bind fun r1 =>
 (vl x0 r1.2).bind fun r2 =>
 (bo P .leq 3 (.tmp 4) (.const (.int .i64 0)) r2.1 (.int .i64 0) r2.2).bind fun r3 =>
 cnd r3.1 (
 (vl (Go.Value.string { data := #[109, 48] }) r3.2).bind fun r4 =>
 some (r4.1, r4.2)) (
 (vl (Go.Value.string { data := #[] }) r3.2).bind fun r5 =>
 laws_markText_l1 (ups (env0 #[x0]) [(2, r1.1), (4, r2.1), (5, r3.1), (3, r5.1)]) r5.2) := by kernel_rfl
end Go.Proofs.Ytcafhepclddcaaa.X
