/- A part of the proof, without conditions. -/
import Derived.Test.YtligcpabhddggaaGreatEvT
set_option linter.unusedVariables false
set_option maxRecDepth 100000
namespace Go.Proofs.YtligcpabhddggaaGreat.X
open Go Go.Ev
theorem laws_FnWorldNew_fn (x0 : Value) (w : World) : fnC P (EV P) 3 #[x0] w =
 (vl (.bool false) w).bind fun r1 =>
 (vl x0 r1.2).bind fun r2 =>
 (b_len P #[22] 3 #[r2.1] r2.2).bind fun r3 =>
 (bo P .gtr 3 (.tmp 7) (.const (.int .i64 1048576)) r3.1 (.int .i64 1048576) r3.2).bind fun r4 =>
 cnd r4.1 (
 (vl (.bool true) r4.2).bind fun r5 =>
 some (r5.1, r5.2)) (
 (vl x0 r4.2).bind fun r6 =>
 (EV P 4 #[r6.1] r6.2).bind fun r7 =>
 (vl r7.1 r7.2).bind fun r8 =>
 (xt P r8.1 0 r8.2).bind fun r9 =>
 (xt P r8.1 1 r9.2).bind fun r10 =>
 (vl r9.1 r10.2).bind fun r11 =>
 (vl r10.1 r11.2).bind fun r12 =>
 (vl r11.1 r12.2).bind fun r13 =>
 (vl r12.1 r13.2).bind fun r14 =>
 (EV P 5 #[r13.1, r14.1] r14.2).bind fun r15 =>
 (al P 30 r15.2).bind fun r16 =>
 (st P 30 r16.1 r15.1 r16.2).bind fun r17 =>
 (ld P 30 r16.1 (dw r17.2)).bind fun r19 =>
 ifP (r19.2 = (dw r17.2)) <|
 (vl r11.1 (dw r17.2)).bind fun r20 =>
 ifP (r20.2 = (dw r17.2)) <|
 (vl r12.1 (dw r17.2)).bind fun r21 =>
 ifP (r21.2 = (dw r17.2)) <|
 (EV P 7 #[r20.1, r21.1] (dw r17.2)).bind fun r22 =>
 ifP (ld P 30 r16.1 r22.2 = some (r19.1, r22.2) ∧ True) <|
 (EV P 6 #[r19.1, r22.1] r22.2).bind fun r23 =>
 ifP (True ∧ True) <|
 (uo P .not r23.1 r23.2).bind fun r24 =>
 ifP (r24.2 = r23.2) <|
 (vl r24.1 r23.2).bind fun r25 =>
 ifP (r25.2 = r23.2) <|
 (gif r25.1 false (fa P 30 r16.1 0 r23.2) r23.2).bind fun r26 =>
 ifP (r26.2 = r23.2) <|
 (gif r25.1 false (ld P 25 r26.1 r23.2) r23.2).bind fun r27 =>
 ifP (r27.2 = r23.2) <|
 (gif r25.1 false (b_len P #[25] 3 #[r27.1] r23.2) r23.2).bind fun r28 =>
 ifP (r28.2 = r23.2) <|
 (gif r25.1 false (bo P .eql 3 (.tmp 26) (.const (.int .i64 0)) r28.1 (.int .i64 0) r23.2) r23.2).bind fun r29 =>
 ifP (r29.2 = r23.2) <|
 (pickV r25.1 (.bool true) r29.1 r23.2).bind fun r30 =>
 ifP (r30.2 = r23.2) <|
 cnd r30.1 (
 (ld P 30 r16.1 (dw r23.2)).bind fun r32 =>
 ifP (r32.2 = (dw r23.2)) <|
 (vl r11.1 (dw r23.2)).bind fun r33 =>
 ifP (r33.2 = (dw r23.2)) <|
 (vl r12.1 (dw r23.2)).bind fun r34 =>
 ifP (r34.2 = (dw r23.2)) <|
 (EV P 7 #[r33.1, r34.1] (dw r23.2)).bind fun r35 =>
 ifP (ld P 30 r16.1 r35.2 = some (r32.1, r35.2) ∧ True) <|
 (EV P 6 #[r32.1, r35.1] r35.2).bind fun r36 =>
 ifP (True ∧ True) <|
 (vl r36.1 r36.2).bind fun r37 =>
 ifP (r37.2 = r36.2) <|
 some (r37.1, r36.2)) (
 (ld P 30 r16.1 r23.2).bind fun r38 =>
 (EV P 8 #[r38.1] r38.2).bind fun r39 =>
 (vl r39.1 r39.2).bind fun r40 =>
 (gif r40.1 true (ld P 30 r16.1 r40.2) r40.2).bind fun r41 =>
 (gif r40.1 true (EV P 9 #[r41.1] r41.2) r41.2).bind fun r42 =>
 (pickV r40.1 r42.1 (.bool false) r42.2).bind fun r43 =>
 (vl r43.1 r43.2).bind fun r44 =>
 (gif r44.1 true (ld P 30 r16.1 r44.2) r44.2).bind fun r45 =>
 (gif r44.1 true (EV P 10 #[r45.1] r45.2) r45.2).bind fun r46 =>
 (pickV r44.1 r46.1 (.bool false) r46.2).bind fun r47 =>
 (vl r47.1 r47.2).bind fun r48 =>
 (gif r48.1 true (fa P 30 r16.1 0 r48.2) r48.2).bind fun r49 =>
 (gif r48.1 true (ld P 25 r49.1 r49.2) r49.2).bind fun r50 =>
 (gif r48.1 true (b_len P #[25] 3 #[r50.1] r50.2) r50.2).bind fun r51 =>
 (gif r48.1 true (bo P .eql 3 (.tmp 47) (.const (.int .i64 3)) r51.1 (.int .i64 3) r51.2) r51.2).bind fun r52 =>
 (pickV r48.1 r52.1 (.bool false) r52.2).bind fun r53 =>
 (vl r53.1 r53.2).bind fun r54 =>
 (gif r54.1 true (fa P 30 r16.1 1 r54.2) r54.2).bind fun r55 =>
 (gif r54.1 true (ld P 26 r55.1 r55.2) r55.2).bind fun r56 =>
 (gif r54.1 true (b_len P #[26] 3 #[r56.1] r56.2) r56.2).bind fun r57 =>
 (gif r54.1 true (vl r12.1 r57.2) r57.2).bind fun r58 =>
 (gif r54.1 true (bo P .eql 3 (.tmp 53) (.tmp 54) r57.1 r58.1 r58.2) r58.2).bind fun r59 =>
 (pickV r54.1 r59.1 (.bool false) r59.2).bind fun r60 =>
 (vl r60.1 r60.2).bind fun r61 =>
 some (r61.1, r61.2))) := by kernel_rfl
theorem spec_DrawWorldNew_fn (x0 : Value) (w : World) : fnC P (EV P) 4 #[x0] w =
 (vl (.int .i64 0) w).bind fun r1 =>
 (vl (.int .i64 0) r1.2).bind fun r2 =>
 (vl x0 r2.2).bind fun r3 =>
 (EV P 11 #[r3.1] r3.2).bind fun r4 =>
 (vl r4.1 r4.2).bind fun r5 =>
 (vl r5.1 r5.2).bind fun r6 =>
 (bs P 38 6 #[(0, (.int .i64 1)), (1, (.int .i64 2)), (2, (.int .i64 3)), (3, (.int .i64 4)), (4, (.int .i64 0)), (5, (.int .i64 5))] r6.2).bind fun r7 =>
 (EV P 12 #[r6.1, r7.1] r7.2).bind fun r8 =>
 (vl r5.1 r8.2).bind fun r9 =>
 (bs P 38 5 #[(0, (.int .i64 0)), (1, (.int .i64 1)), (2, (.int .i64 4)), (3, (.int .i64 5)), (4, (.int .i64 (-1)))] r9.2).bind fun r10 =>
 (EV P 12 #[r9.1, r10.1] r10.2).bind fun r11 =>
 (vl r8.1 r11.2).bind fun r12 =>
 (vl r11.1 r12.2).bind fun r13 =>
 some (.tuple #[r12.1, r13.1], r13.2) := by kernel_rfl
theorem impl_WorldNew_fn (x0 x1 : Value) (w : World) : fnC P (EV P) 5 #[x0, x1] w =
 (al P 30 w).bind fun r1 =>
 (vl x0 r1.2).bind fun r2 =>
 (vl x1 r2.2).bind fun r3 =>
 (EV P 13 #[r2.1, r3.1] r3.2).bind fun r4 =>
 (uo P .not r4.1 r4.2).bind fun r5 =>
 cnd r5.1 (
 (bd P 30 #[] r5.2).bind fun r6 =>
 (st P 30 r1.1 r6.1 r6.2).bind fun r7 =>
 ((ld P 30 r1.1 r7.2).bind fun r8 => ifP (r8.2 = r7.2) (some r8.1)).bind fun v9 =>
 some (v9, r7.2)) (
 (vl x0 r5.2).bind fun r10 =>
 (vl x1 r10.2).bind fun r11 =>
 (EV P 14 #[r10.1, r11.1] r11.2).bind fun r12 =>
 (st P 30 r1.1 r12.1 r12.2).bind fun r13 =>
 ((ld P 30 r1.1 r13.2).bind fun r14 => ifP (r14.2 = r13.2) (some r14.1)).bind fun v15 =>
 some (v15, r13.2)) := by kernel_rfl
noncomputable def laws_cfWorld_l1 (e : Env) (w : World) : Option (Value × World) := exC P (EV P) 6 152 (.loop (cA (cA (cB (cA (cB (cB (bodyOf P 6)))))))) e w (kBlock 0 (kSeq P (EV P) 6 152 (cB (cB (cB (bodyOf P 6)))) (kFn P (fnOf P 6))))
noncomputable def laws_cfWorld_l2 (e : Env) (w : World) : Option (Value × World) := exC P (EV P) 6 152 (.loop (cA (cA (cB (cA (cB (cB (cB (bodyOf P 6))))))))) e w (kBlock 2 (kSeq P (EV P) 6 152 (cB (cB (cB (cB (bodyOf P 6))))) (kFn P (fnOf P 6))))
noncomputable def laws_cfWorld_l3 (e : Env) (w : World) : Option (Value × World) := exC P (EV P) 6 152 (.loop (cA (cA (cB (cA (cB (cB (cB (cB (bodyOf P 6)))))))))) e w (kBlock 4 (kSeq P (EV P) 6 152 (cB (cB (cB (cB (cB (bodyOf P 6)))))) (kFn P (fnOf P 6))))
theorem laws_cfWorld_l1_eq (e : Env) (w : World) : laws_cfWorld_l1 e w =
 (vl (e 5) w).bind fun r1 =>
 (fa P 30 (e 2) 0 r1.2).bind fun r2 =>
 (ld P 25 r2.1 r2.2).bind fun r3 =>
 (b_len P #[25] 3 #[r3.1] r3.2).bind fun r4 =>
 (bo P .lss 3 (.tmp 45) (.tmp 48) r1.1 r4.1 r4.2).bind fun r5 =>
 cnd r5.1 (
 (fa P 30 (e 2) 0 (dw r5.2)).bind fun r7 =>
 ifP (r7.2 = (dw r5.2)) <|
 (ld P 25 r7.1 (dw r5.2)).bind fun r8 =>
 ifP (r8.2 = (dw r5.2)) <|
 (vl (e 5) (dw r5.2)).bind fun r9 =>
 ifP (r9.2 = (dw r5.2)) <|
 (ia P 25 r8.1 r9.1 (dw r5.2)).bind fun r10 =>
 ifP (r10.2 = (dw r5.2)) <|
 (ld P 48 r10.1 (dw r5.2)).bind fun r11 =>
 ifP (r11.2 = (dw r5.2)) <|
 (fa P 30 (e 3) 0 (dw r5.2)).bind fun r12 =>
 ifP (r12.2 = (dw r5.2)) <|
 (ld P 25 r12.1 (dw r5.2)).bind fun r13 =>
 ifP (r13.2 = (dw r5.2)) <|
 (vl (e 5) (dw r5.2)).bind fun r14 =>
 ifP (r14.2 = (dw r5.2)) <|
 (ia P 25 r13.1 r14.1 (dw r5.2)).bind fun r15 =>
 ifP (r15.2 = (dw r5.2)) <|
 (ld P 48 r15.1 (dw r5.2)).bind fun r16 =>
 ifP (r16.2 = (dw r5.2)) <|
 (EV P 16 #[r11.1, r16.1] (dw r5.2)).bind fun r17 =>
 ifP (True ∧ True ∧ True ∧ True ∧ True ∧ True ∧ True ∧ True ∧ True) <|
 (uo P .not r17.1 r17.2).bind fun r18 =>
 ifP (r18.2 = r17.2) <|
 cnd r18.1 (
 (vl (.bool false) r17.2).bind fun r19 =>
 some (r19.1, r19.2)) (
 (vl (e 5) r17.2).bind fun r20 =>
 (bo P .add 3 (.tmp 50) (.const (.int .i64 1)) r20.1 (.int .i64 1) r20.2).bind fun r21 =>
 (vl r21.1 r21.2).bind fun r22 =>
 laws_cfWorld_l1 (ups e [(45, r1.1), (46, r2.1), (47, r3.1), (48, r4.1), (49, r5.1), (52, r7.1), (53, r8.1), (54, r9.1), (55, r10.1), (56, r11.1), (57, r12.1), (58, r13.1), (59, r14.1), (60, r15.1), (61, r16.1), (62, r17.1), (63, r18.1), (50, r20.1), (51, r21.1), (5, r22.1)]) r22.2)) (
 (vl (.int .i64 0) r5.2).bind fun r23 =>
 laws_cfWorld_l2 (ups e [(45, r1.1), (46, r2.1), (47, r3.1), (48, r4.1), (49, r5.1), (6, r23.1)]) r23.2) := (exC_loop P (EV P) 6 152 (cA (cA (cB (cA (cB (cB (bodyOf P 6))))))) e w (kBlock 0 (kSeq P (EV P) 6 152 (cB (cB (cB (bodyOf P 6)))) (kFn P (fnOf P 6))))).trans (by kernel_rfl)
theorem laws_cfWorld_l2_eq (e : Env) (w : World) : laws_cfWorld_l2 e w =
 (vl (e 6) w).bind fun r1 =>
 (fa P 30 (e 2) 1 r1.2).bind fun r2 =>
 (ld P 26 r2.1 r2.2).bind fun r3 =>
 (b_len P #[26] 3 #[r3.1] r3.2).bind fun r4 =>
 (bo P .lss 3 (.tmp 64) (.tmp 67) r1.1 r4.1 r4.2).bind fun r5 =>
 cnd r5.1 (
 (fa P 30 (e 2) 1 r5.2).bind fun r6 =>
 (ld P 26 r6.1 r6.2).bind fun r7 =>
 (vl (e 6) r7.2).bind fun r8 =>
 (ia P 26 r7.1 r8.1 r8.2).bind fun r9 =>
 (ld P 55 r9.1 r9.2).bind fun r10 =>
 (al P 55 r10.2).bind fun r11 =>
 (st P 55 r11.1 r10.1 r11.2).bind fun r12 =>
 (fa P 30 (e 3) 1 r12.2).bind fun r13 =>
 (ld P 26 r13.1 r13.2).bind fun r14 =>
 (vl (e 6) r14.2).bind fun r15 =>
 (ia P 26 r14.1 r15.1 r15.2).bind fun r16 =>
 (ld P 55 r16.1 r16.2).bind fun r17 =>
 (al P 55 r17.2).bind fun r18 =>
 (st P 55 r18.1 r17.1 r18.2).bind fun r19 =>
 (fa P 55 r11.1 0 r19.2).bind fun r20 =>
 (ld P 3 r20.1 r20.2).bind fun r21 =>
 (fa P 55 r18.1 0 r21.2).bind fun r22 =>
 (ld P 3 r22.1 r22.2).bind fun r23 =>
 (bo P .neq 3 (.tmp 82) (.tmp 84) r21.1 r23.1 r23.2).bind fun r24 =>
 (vl r24.1 r24.2).bind fun r25 =>
 (gif r25.1 false (fa P 55 r11.1 2 r25.2) r25.2).bind fun r26 =>
 (gif r25.1 false (ld P 53 r26.1 r26.2) r26.2).bind fun r27 =>
 (gif r25.1 false (fa P 55 r18.1 2 r27.2) r27.2).bind fun r28 =>
 (gif r25.1 false (ld P 53 r28.1 r28.2) r28.2).bind fun r29 =>
 (gif r25.1 false (bo P .neq 53 (.tmp 88) (.tmp 90) r27.1 r29.1 r29.2) r29.2).bind fun r30 =>
 (pickV r25.1 (.bool true) r30.1 r30.2).bind fun r31 =>
 (vl r31.1 r31.2).bind fun r32 =>
 (gif r32.1 false (fa P 55 r11.1 3 r32.2) r32.2).bind fun r33 =>
 (gif r32.1 false (ld P 3 r33.1 r33.2) r33.2).bind fun r34 =>
 (gif r32.1 false (fa P 55 r18.1 3 r34.2) r34.2).bind fun r35 =>
 (gif r32.1 false (ld P 3 r35.1 r35.2) r35.2).bind fun r36 =>
 (gif r32.1 false (bo P .neq 3 (.tmp 95) (.tmp 97) r34.1 r36.1 r36.2) r36.2).bind fun r37 =>
 (pickV r32.1 (.bool true) r37.1 r37.2).bind fun r38 =>
 (vl r38.1 r38.2).bind fun r39 =>
 (gif r39.1 false (fa P 55 r11.1 1 r39.2) r39.2).bind fun r40 =>
 (gif r39.1 false (ld P 51 r40.1 r40.2) r40.2).bind fun r41 =>
 (gif r39.1 false (fa P 55 r18.1 1 r41.2) r41.2).bind fun r42 =>
 (gif r39.1 false (ld P 51 r42.1 r42.2) r42.2).bind fun r43 =>
 (gif r39.1 false (EV P 17 #[r41.1, r43.1] r43.2) r43.2).bind fun r44 =>
 (gif r39.1 false (uo P .not r44.1 r44.2) r44.2).bind fun r45 =>
 (pickV r39.1 (.bool true) r45.1 r45.2).bind fun r46 =>
 cnd r46.1 (
 (vl (.bool false) r46.2).bind fun r47 =>
 some (r47.1, r47.2)) (
 (vl (e 6) r46.2).bind fun r48 =>
 (bo P .add 3 (.tmp 69) (.const (.int .i64 1)) r48.1 (.int .i64 1) r48.2).bind fun r49 =>
 (vl r49.1 r49.2).bind fun r50 =>
 laws_cfWorld_l2 (ups e [(64, r1.1), (65, r2.1), (66, r3.1), (67, r4.1), (68, r5.1), (71, r6.1), (72, r7.1), (73, r8.1), (74, r9.1), (75, r10.1), (7, r11.1), (76, r13.1), (77, r14.1), (78, r15.1), (79, r16.1), (80, r17.1), (8, r18.1), (81, r20.1), (82, r21.1), (83, r22.1), (84, r23.1), (85, r24.1), (86, r25.1), (87, r26.1), (88, r27.1), (89, r28.1), (90, r29.1), (91, r30.1), (92, r31.1), (93, r32.1), (94, r33.1), (95, r34.1), (96, r35.1), (97, r36.1), (98, r37.1), (99, r38.1), (100, r39.1), (101, r40.1), (102, r41.1), (103, r42.1), (104, r43.1), (105, r44.1), (106, r45.1), (107, r46.1), (69, r48.1), (70, r49.1), (6, r50.1)]) r50.2)) (
 (vl (.int .i64 0) r5.2).bind fun r51 =>
 laws_cfWorld_l3 (ups e [(64, r1.1), (65, r2.1), (66, r3.1), (67, r4.1), (68, r5.1), (9, r51.1)]) r51.2) := (exC_loop P (EV P) 6 152 (cA (cA (cB (cA (cB (cB (cB (bodyOf P 6)))))))) e w (kBlock 2 (kSeq P (EV P) 6 152 (cB (cB (cB (cB (bodyOf P 6))))) (kFn P (fnOf P 6))))).trans (by kernel_rfl)
theorem laws_cfWorld_l3_eq (e : Env) (w : World) : laws_cfWorld_l3 e w =
 (vl (e 9) w).bind fun r1 =>
 (fa P 30 (e 2) 2 r1.2).bind fun r2 =>
 (ld P 27 r2.1 r2.2).bind fun r3 =>
 (b_len P #[27] 3 #[r3.1] r3.2).bind fun r4 =>
 (bo P .lss 3 (.tmp 108) (.tmp 111) r1.1 r4.1 r4.2).bind fun r5 =>
 cnd r5.1 (
 (fa P 30 (e 2) 2 r5.2).bind fun r6 =>
 (ld P 27 r6.1 r6.2).bind fun r7 =>
 (vl (e 9) r7.2).bind fun r8 =>
 (ia P 27 r7.1 r8.1 r8.2).bind fun r9 =>
 (ld P 60 r9.1 r9.2).bind fun r10 =>
 (al P 60 r10.2).bind fun r11 =>
 (st P 60 r11.1 r10.1 r11.2).bind fun r12 =>
 (fa P 30 (e 3) 2 r12.2).bind fun r13 =>
 (ld P 27 r13.1 r13.2).bind fun r14 =>
 (vl (e 9) r14.2).bind fun r15 =>
 (ia P 27 r14.1 r15.1 r15.2).bind fun r16 =>
 (ld P 60 r16.1 r16.2).bind fun r17 =>
 (al P 60 r17.2).bind fun r18 =>
 (st P 60 r18.1 r17.1 r18.2).bind fun r19 =>
 (fa P 60 r11.1 0 r19.2).bind fun r20 =>
 (ld P 3 r20.1 r20.2).bind fun r21 =>
 (fa P 60 r18.1 0 r21.2).bind fun r22 =>
 (ld P 3 r22.1 r22.2).bind fun r23 =>
 (bo P .neq 3 (.tmp 126) (.tmp 128) r21.1 r23.1 r23.2).bind fun r24 =>
 (vl r24.1 r24.2).bind fun r25 =>
 (gif r25.1 false (fa P 60 r11.1 1 r25.2) r25.2).bind fun r26 =>
 (gif r25.1 false (ld P 3 r26.1 r26.2) r26.2).bind fun r27 =>
 (gif r25.1 false (fa P 60 r18.1 1 r27.2) r27.2).bind fun r28 =>
 (gif r25.1 false (ld P 3 r28.1 r28.2) r28.2).bind fun r29 =>
 (gif r25.1 false (bo P .neq 3 (.tmp 132) (.tmp 134) r27.1 r29.1 r29.2) r29.2).bind fun r30 =>
 (pickV r25.1 (.bool true) r30.1 r30.2).bind fun r31 =>
 (vl r31.1 r31.2).bind fun r32 =>
 (gif r32.1 false (fa P 60 r11.1 2 r32.2) r32.2).bind fun r33 =>
 (gif r32.1 false (ld P 3 r33.1 r33.2) r33.2).bind fun r34 =>
 (gif r32.1 false (fa P 60 r18.1 2 r34.2) r34.2).bind fun r35 =>
 (gif r32.1 false (ld P 3 r35.1 r35.2) r35.2).bind fun r36 =>
 (gif r32.1 false (bo P .neq 3 (.tmp 139) (.tmp 141) r34.1 r36.1 r36.2) r36.2).bind fun r37 =>
 (pickV r32.1 (.bool true) r37.1 r37.2).bind fun r38 =>
 (vl r38.1 r38.2).bind fun r39 =>
 (gif r39.1 false (fa P 60 r11.1 3 r39.2) r39.2).bind fun r40 =>
 (gif r39.1 false (ld P 58 r40.1 r40.2) r40.2).bind fun r41 =>
 (gif r39.1 false (fa P 60 r18.1 3 r41.2) r41.2).bind fun r42 =>
 (gif r39.1 false (ld P 58 r42.1 r42.2) r42.2).bind fun r43 =>
 (gif r39.1 false (EV P 18 #[r41.1, r43.1] r43.2) r43.2).bind fun r44 =>
 (gif r39.1 false (uo P .not r44.1 r44.2) r44.2).bind fun r45 =>
 (pickV r39.1 (.bool true) r45.1 r45.2).bind fun r46 =>
 cnd r46.1 (
 (vl (.bool false) r46.2).bind fun r47 =>
 some (r47.1, r47.2)) (
 (vl (e 9) r46.2).bind fun r48 =>
 (bo P .add 3 (.tmp 113) (.const (.int .i64 1)) r48.1 (.int .i64 1) r48.2).bind fun r49 =>
 (vl r49.1 r49.2).bind fun r50 =>
 laws_cfWorld_l3 (ups e [(108, r1.1), (109, r2.1), (110, r3.1), (111, r4.1), (112, r5.1), (115, r6.1), (116, r7.1), (117, r8.1), (118, r9.1), (119, r10.1), (10, r11.1), (120, r13.1), (121, r14.1), (122, r15.1), (123, r16.1), (124, r17.1), (11, r18.1), (125, r20.1), (126, r21.1), (127, r22.1), (128, r23.1), (129, r24.1), (130, r25.1), (131, r26.1), (132, r27.1), (133, r28.1), (134, r29.1), (135, r30.1), (136, r31.1), (137, r32.1), (138, r33.1), (139, r34.1), (140, r35.1), (141, r36.1), (142, r37.1), (143, r38.1), (144, r39.1), (145, r40.1), (146, r41.1), (147, r42.1), (148, r43.1), (149, r44.1), (150, r45.1), (151, r46.1), (113, r48.1), (114, r49.1), (9, r50.1)]) r50.2)) (
 (vl (.bool true) r5.2).bind fun r51 =>
 some (r51.1, r51.2)) := (exC_loop P (EV P) 6 152 (cA (cA (cB (cA (cB (cB (cB (cB (bodyOf P 6))))))))) e w (kBlock 4 (kSeq P (EV P) 6 152 (cB (cB (cB (cB (cB (bodyOf P 6)))))) (kFn P (fnOf P 6))))).trans (by kernel_rfl)
theorem laws_cfWorld_fn (x0 x1 : Value) (w : World) : fnC P (EV P) 6 #[x0, x1] w =
 (bx P 30 x0 w).bind fun r1 =>
 (bx P 30 x1 r1.2).bind fun r2 =>
 (vl (.bool false) r2.2).bind fun r3 =>
 (fa P 30 r1.1 0 r3.2).bind fun r4 =>
 (ld P 25 r4.1 r4.2).bind fun r5 =>
 (b_len P #[25] 3 #[r5.1] r5.2).bind fun r6 =>
 (fa P 30 r2.1 0 r6.2).bind fun r7 =>
 (ld P 25 r7.1 r7.2).bind fun r8 =>
 (b_len P #[25] 3 #[r8.1] r8.2).bind fun r9 =>
 (bo P .neq 3 (.tmp 14) (.tmp 17) r6.1 r9.1 r9.2).bind fun r10 =>
 (vl r10.1 r10.2).bind fun r11 =>
 (gif r11.1 false (fa P 30 r1.1 1 r11.2) r11.2).bind fun r12 =>
 (gif r11.1 false (ld P 26 r12.1 r12.2) r12.2).bind fun r13 =>
 (gif r11.1 false (b_len P #[26] 3 #[r13.1] r13.2) r13.2).bind fun r14 =>
 (gif r11.1 false (fa P 30 r2.1 1 r14.2) r14.2).bind fun r15 =>
 (gif r11.1 false (ld P 26 r15.1 r15.2) r15.2).bind fun r16 =>
 (gif r11.1 false (b_len P #[26] 3 #[r16.1] r16.2) r16.2).bind fun r17 =>
 (gif r11.1 false (bo P .neq 3 (.tmp 22) (.tmp 25) r14.1 r17.1 r17.2) r17.2).bind fun r18 =>
 (pickV r11.1 (.bool true) r18.1 r18.2).bind fun r19 =>
 (vl r19.1 r19.2).bind fun r20 =>
 (gif r20.1 false (fa P 30 r1.1 2 r20.2) r20.2).bind fun r21 =>
 (gif r20.1 false (ld P 27 r21.1 r21.2) r21.2).bind fun r22 =>
 (gif r20.1 false (b_len P #[27] 3 #[r22.1] r22.2) r22.2).bind fun r23 =>
 (gif r20.1 false (fa P 30 r2.1 2 r23.2) r23.2).bind fun r24 =>
 (gif r20.1 false (ld P 27 r24.1 r24.2) r24.2).bind fun r25 =>
 (gif r20.1 false (b_len P #[27] 3 #[r25.1] r25.2) r25.2).bind fun r26 =>
 (gif r20.1 false (bo P .neq 3 (.tmp 31) (.tmp 34) r23.1 r26.1 r26.2) r26.2).bind fun r27 =>
 (pickV r20.1 (.bool true) r27.1 r27.2).bind fun r28 =>
 (vl r28.1 r28.2).bind fun r29 =>
 (gif r29.1 false (fa P 30 r1.1 3 r29.2) r29.2).bind fun r30 =>
 (gif r29.1 false (ld P 28 r30.1 r30.2) r30.2).bind fun r31 =>
 (gif r29.1 false (fa P 30 r2.1 3 r31.2) r31.2).bind fun r32 =>
 (gif r29.1 false (ld P 28 r32.1 r32.2) r32.2).bind fun r33 =>
 (gif r29.1 false (EV P 15 #[r31.1, r33.1] r33.2) r33.2).bind fun r34 =>
 (gif r29.1 false (uo P .not r34.1 r34.2) r34.2).bind fun r35 =>
 (pickV r29.1 (.bool true) r35.1 r35.2).bind fun r36 =>
 cnd r36.1 (
 (vl (.bool false) r36.2).bind fun r37 =>
 some (r37.1, r37.2)) (
 (vl (.int .i64 0) r36.2).bind fun r38 =>
 laws_cfWorld_l1 (ups (env0 #[x0, x1]) [(2, r1.1), (3, r2.1), (4, r3.1), (12, r4.1), (13, r5.1), (14, r6.1), (15, r7.1), (16, r8.1), (17, r9.1), (18, r10.1), (19, r11.1), (20, r12.1), (21, r13.1), (22, r14.1), (23, r15.1), (24, r16.1), (25, r17.1), (26, r18.1), (27, r19.1), (28, r20.1), (29, r21.1), (30, r22.1), (31, r23.1), (32, r24.1), (33, r25.1), (34, r26.1), (35, r27.1), (36, r28.1), (37, r29.1), (38, r30.1), (39, r31.1), (40, r32.1), (41, r33.1), (42, r34.1), (43, r35.1), (44, r36.1), (5, r38.1)]) r38.2) := by kernel_rfl
theorem spec_WorldNew_fn (x0 x1 : Value) (w : World) : fnC P (EV P) 7 #[x0, x1] w =
 (al P 30 w).bind fun r1 =>
 (vl x0 r1.2).bind fun r2 =>
 (EV P 19 #[r2.1, (.int .i64 1), (.int .i64 4)] r2.2).bind fun r3 =>
 (uo P .not r3.1 r3.2).bind fun r4 =>
 (vl r4.1 r4.2).bind fun r5 =>
 (gif r5.1 false (vl x1 r5.2) r5.2).bind fun r6 =>
 (gif r5.1 false (EV P 19 #[r6.1, (.int .i64 0), (.int .i64 4)] r6.2) r6.2).bind fun r7 =>
 (gif r5.1 false (uo P .not r7.1 r7.2) r7.2).bind fun r8 =>
 (pickV r5.1 (.bool true) r8.1 r8.2).bind fun r9 =>
 cnd r9.1 (
 (bd P 30 #[] r9.2).bind fun r10 =>
 (st P 30 r1.1 r10.1 r10.2).bind fun r11 =>
 ((ld P 30 r1.1 r11.2).bind fun r12 => ifP (r12.2 = r11.2) (some r12.1)).bind fun v13 =>
 some (v13, r11.2)) (
 (vl x0 r9.2).bind fun r14 =>
 (vl x1 r14.2).bind fun r15 =>
 (EV P 20 #[r14.1, r15.1] r15.2).bind fun r16 =>
 (st P 30 r1.1 r16.1 r16.2).bind fun r17 =>
 ((ld P 30 r1.1 r17.2).bind fun r18 => ifP (r18.2 = r17.2) (some r18.1)).bind fun v19 =>
 some (v19, r17.2)) := by kernel_rfl
noncomputable def impl_WorldOk_l1 (e : Env) (w : World) : Option (Value × World) := exC P (EV P) 8 86 (.loop (cA (cA (cB (cA (cB (cB (bodyOf P 8)))))))) e w (kBlock 0 (kSeq P (EV P) 8 86 (cB (cB (cB (bodyOf P 8)))) (kFn P (fnOf P 8))))
noncomputable def impl_WorldOk_l2 (e : Env) (w : World) : Option (Value × World) := exC P (EV P) 8 86 (.loop (cA (cA (cB (cA (cB (cB (cB (bodyOf P 8))))))))) e w (kBlock 2 (kSeq P (EV P) 8 86 (cB (cB (cB (cB (bodyOf P 8))))) (kFn P (fnOf P 8))))
noncomputable def impl_WorldOk_l3 (e : Env) (w : World) : Option (Value × World) := exC P (EV P) 8 86 (.loop (cA (cA (cB (cB (cA (cA (cB (cB (cA (cA (cB (cA (cB (cB (cB (bodyOf P 8))))))))))))))))) e w (kBlock 4 (kBlock 3 (kSeq P (EV P) 8 86 (cB (cB (cB (cA (cA (cB (cA (cB (cB (cB (bodyOf P 8))))))))))) (kLoop P (EV P) 8 86 (cA (cA (cB (cA (cB (cB (cB (bodyOf P 8)))))))) (kBlock 2 (kSeq P (EV P) 8 86 (cB (cB (cB (cB (bodyOf P 8))))) (kFn P (fnOf P 8))))))))
theorem impl_WorldOk_l1_eq (e : Env) (w : World) : impl_WorldOk_l1 e w =
 (bo P .lss 3 (.tmp 34) (.tmp 33) (e 34) (e 33) w).bind fun r1 =>
 cnd r1.1 (
 (vl (e 34) r1.2).bind fun r2 =>
 (ia P 25 (e 32) (e 34) r2.2).bind fun r3 =>
 (ld P 48 r3.1 r3.2).bind fun r4 =>
 (al P 48 r4.2).bind fun r5 =>
 (vl r2.1 r5.2).bind fun r6 =>
 (st P 48 r5.1 r4.1 r6.2).bind fun r7 =>
 (ld P 48 r5.1 r7.2).bind fun r8 =>
 (EV P 22 #[r8.1] r8.2).bind fun r9 =>
 (uo P .not r9.1 r9.2).bind fun r10 =>
 (vl r10.1 r10.2).bind fun r11 =>
 (gif r11.1 false (fa P 48 r5.1 0 r11.2) r11.2).bind fun r12 =>
 (gif r11.1 false (ld P 3 r12.1 r12.2) r12.2).bind fun r13 =>
 (gif r11.1 false (vl r6.1 r13.2) r13.2).bind fun r14 =>
 (gif r11.1 false (bo P .neq 3 (.tmp 44) (.tmp 45) r13.1 r14.1 r14.2) r14.2).bind fun r15 =>
 (pickV r11.1 (.bool true) r15.1 r15.2).bind fun r16 =>
 cnd r16.1 (
 (vl (.bool false) r16.2).bind fun r17 =>
 some (r17.1, r17.2)) (
 (bo P .add 3 (.tmp 34) (.const (.int .i64 1)) (e 34) (.int .i64 1) r16.2).bind fun r18 =>
 (vl r18.1 r18.2).bind fun r19 =>
 impl_WorldOk_l1 (ups e [(35, r1.1), (36, r2.1), (37, r3.1), (38, r4.1), (4, r5.1), (3, r6.1), (39, r8.1), (40, r9.1), (41, r10.1), (42, r11.1), (43, r12.1), (44, r13.1), (45, r14.1), (46, r15.1), (47, r16.1), (48, r18.1), (34, r19.1)]) r19.2)) (
 (fa P 30 (e 1) 0 r1.2).bind fun r20 =>
 (ld P 25 r20.1 r20.2).bind fun r21 =>
 (b_len P #[25] 3 #[r21.1] r21.2).bind fun r22 =>
 (vl (.int .i64 0) r22.2).bind fun r23 =>
 impl_WorldOk_l2 (ups e [(35, r1.1), (49, r20.1), (50, r21.1), (51, r22.1), (52, r23.1)]) r23.2) := (exC_loop P (EV P) 8 86 (cA (cA (cB (cA (cB (cB (bodyOf P 8))))))) e w (kBlock 0 (kSeq P (EV P) 8 86 (cB (cB (cB (bodyOf P 8)))) (kFn P (fnOf P 8))))).trans (by kernel_rfl)
theorem impl_WorldOk_l2_eq (e : Env) (w : World) : impl_WorldOk_l2 e w =
 (bo P .lss 3 (.tmp 52) (.tmp 51) (e 52) (e 51) w).bind fun r1 =>
 cnd r1.1 (
 (ia P 25 (e 50) (e 52) r1.2).bind fun r2 =>
 (ld P 48 r2.1 r2.2).bind fun r3 =>
 (al P 48 r3.2).bind fun r4 =>
 (st P 48 r4.1 r3.1 r4.2).bind fun r5 =>
 (fa P 48 r4.1 4 r5.2).bind fun r6 =>
 (ld P 46 r6.1 r6.2).bind fun r7 =>
 (b_len P #[46] 3 #[r7.1] r7.2).bind fun r8 =>
 (vl (.int .i64 0) r8.2).bind fun r9 =>
 impl_WorldOk_l3 (ups e [(53, r1.1), (54, r2.1), (55, r3.1), (6, r4.1), (56, r6.1), (57, r7.1), (58, r8.1), (59, r9.1)]) r9.2) (
 (fa P 30 (e 1) 1 r1.2).bind fun r10 =>
 (ld P 26 r10.1 r10.2).bind fun r11 =>
 (EV P 24 #[r11.1, (.func (.func 25) #[] #[])] r11.2).bind fun r12 =>
 (uo P .not r12.1 r12.2).bind fun r13 =>
 (vl r13.1 r13.2).bind fun r14 =>
 (gif r14.1 true (fa P 30 (e 1) 2 r14.2) r14.2).bind fun r15 =>
 (gif r14.1 true (ld P 27 r15.1 r15.2) r15.2).bind fun r16 =>
 (gif r14.1 true (vl (.func (Go.Fn.func 28) #[] #[(e 1)]) r16.2) r16.2).bind fun r17 =>
 (gif r14.1 true (EV P 27 #[r16.1, r17.1] r17.2) r17.2).bind fun r18 =>
 (gif r14.1 true (uo P .not r18.1 r18.2) r18.2).bind fun r19 =>
 (pickV r14.1 r19.1 (.bool false) r19.2).bind fun r20 =>
 (vl r20.1 r20.2).bind fun r21 =>
 some (r21.1, r21.2)) := (exC_loop P (EV P) 8 86 (cA (cA (cB (cA (cB (cB (cB (bodyOf P 8)))))))) e w (kBlock 2 (kSeq P (EV P) 8 86 (cB (cB (cB (cB (bodyOf P 8))))) (kFn P (fnOf P 8))))).trans (by kernel_rfl)
theorem impl_WorldOk_l3_eq (e : Env) (w : World) : impl_WorldOk_l3 e w =
 (bo P .lss 3 (.tmp 59) (.tmp 58) (e 59) (e 58) w).bind fun r1 =>
 cnd r1.1 (
 (vl (e 59) r1.2).bind fun r2 =>
 (ia P 46 (e 57) (e 59) r2.2).bind fun r3 =>
 (ld P 45 r3.1 r3.2).bind fun r4 =>
 (vl r2.1 r4.2).bind fun r5 =>
 (vl r4.1 r5.2).bind fun r6 =>
 (fa P 30 (e 1) 0 r6.2).bind fun r7 =>
 (ld P 25 r7.1 r7.2).bind fun r8 =>
 (vl r5.1 r8.2).bind fun r9 =>
 (ia P 25 r8.1 r9.1 r9.2).bind fun r10 =>
 (fa P 48 r10.1 3 r10.2).bind fun r11 =>
 (ld P 45 r11.1 r11.2).bind fun r12 =>
 (vl r6.1 r12.2).bind fun r13 =>
 (EV P 23 #[r12.1, r13.1] r13.2).bind fun r14 =>
 (uo P .not r14.1 r14.2).bind fun r15 =>
 cnd r15.1 (
 (vl (.bool false) r15.2).bind fun r16 =>
 some (r16.1, r16.2)) (
 (bo P .add 3 (.tmp 59) (.const (.int .i64 1)) (e 59) (.int .i64 1) r15.2).bind fun r17 =>
 (vl r17.1 r17.2).bind fun r18 =>
 impl_WorldOk_l3 (ups e [(60, r1.1), (61, r2.1), (62, r3.1), (63, r4.1), (7, r5.1), (8, r6.1), (64, r7.1), (65, r8.1), (66, r9.1), (67, r10.1), (68, r11.1), (69, r12.1), (70, r13.1), (71, r14.1), (72, r15.1), (73, r17.1), (59, r18.1)]) r18.2)) (
 (bo P .add 3 (.tmp 52) (.const (.int .i64 1)) (e 52) (.int .i64 1) r1.2).bind fun r19 =>
 (vl r19.1 r19.2).bind fun r20 =>
 impl_WorldOk_l2 (ups e [(60, r1.1), (74, r19.1), (52, r20.1)]) r20.2) := (exC_loop P (EV P) 8 86 (cA (cA (cB (cB (cA (cA (cB (cB (cA (cA (cB (cA (cB (cB (cB (bodyOf P 8)))))))))))))))) e w (kBlock 4 (kBlock 3 (kSeq P (EV P) 8 86 (cB (cB (cB (cA (cA (cB (cA (cB (cB (cB (bodyOf P 8))))))))))) (kLoop P (EV P) 8 86 (cA (cA (cB (cA (cB (cB (cB (bodyOf P 8)))))))) (kBlock 2 (kSeq P (EV P) 8 86 (cB (cB (cB (cB (bodyOf P 8))))) (kFn P (fnOf P 8))))))))).trans (by kernel_rfl)
theorem impl_WorldOk_fn (x0 : Value) (w : World) : fnC P (EV P) 8 #[x0] w =
 (bx P 30 x0 w).bind fun r1 =>
 (vl (.bool false) r1.2).bind fun r2 =>
 (fa P 30 r1.1 0 r2.2).bind fun r3 =>
 (ld P 25 r3.1 r3.2).bind fun r4 =>
 (b_len P #[25] 3 #[r4.1] r4.2).bind fun r5 =>
 (bo P .neq 3 (.tmp 11) (.const (.int .i64 3)) r5.1 (.int .i64 3) r5.2).bind fun r6 =>
 (vl r6.1 r6.2).bind fun r7 =>
 (gif r7.1 false (fa P 30 r1.1 1 r7.2) r7.2).bind fun r8 =>
 (gif r7.1 false (ld P 26 r8.1 r8.2) r8.2).bind fun r9 =>
 (gif r7.1 false (b_len P #[26] 3 #[r9.1] r9.2) r9.2).bind fun r10 =>
 (gif r7.1 false (bo P .gtr 3 (.tmp 16) (.const (.int .i64 4)) r10.1 (.int .i64 4) r10.2) r10.2).bind fun r11 =>
 (pickV r7.1 (.bool true) r11.1 r11.2).bind fun r12 =>
 (vl r12.1 r12.2).bind fun r13 =>
 (gif r13.1 false (fa P 30 r1.1 2 r13.2) r13.2).bind fun r14 =>
 (gif r13.1 false (ld P 27 r14.1 r14.2) r14.2).bind fun r15 =>
 (gif r13.1 false (b_len P #[27] 3 #[r15.1] r15.2) r15.2).bind fun r16 =>
 (gif r13.1 false (bo P .gtr 3 (.tmp 22) (.const (.int .i64 12)) r16.1 (.int .i64 12) r16.2) r16.2).bind fun r17 =>
 (pickV r13.1 (.bool true) r17.1 r17.2).bind fun r18 =>
 (vl r18.1 r18.2).bind fun r19 =>
 (gif r19.1 false (fa P 30 r1.1 3 r19.2) r19.2).bind fun r20 =>
 (gif r19.1 false (ld P 28 r20.1 r20.2) r20.2).bind fun r21 =>
 (gif r19.1 false (EV P 21 #[r21.1] r21.2) r21.2).bind fun r22 =>
 (gif r19.1 false (uo P .not r22.1 r22.2) r22.2).bind fun r23 =>
 (pickV r19.1 (.bool true) r23.1 r23.2).bind fun r24 =>
 cnd r24.1 (
 (vl (.bool false) r24.2).bind fun r25 =>
 some (r25.1, r25.2)) (
 (fa P 30 r1.1 0 r24.2).bind fun r26 =>
 (ld P 25 r26.1 r26.2).bind fun r27 =>
 (b_len P #[25] 3 #[r27.1] r27.2).bind fun r28 =>
 (vl (.int .i64 0) r28.2).bind fun r29 =>
 impl_WorldOk_l1 (ups (env0 #[x0]) [(1, r1.1), (2, r2.1), (9, r3.1), (10, r4.1), (11, r5.1), (12, r6.1), (13, r7.1), (14, r8.1), (15, r9.1), (16, r10.1), (17, r11.1), (18, r12.1), (19, r13.1), (20, r14.1), (21, r15.1), (22, r16.1), (23, r17.1), (24, r18.1), (25, r19.1), (26, r20.1), (27, r21.1), (28, r22.1), (29, r23.1), (30, r24.1), (31, r26.1), (32, r27.1), (33, r28.1), (34, r29.1)]) r29.2) := by kernel_rfl
theorem impl_WorldSafe_fn (x0 : Value) (w : World) : fnC P (EV P) 9 #[x0] w =
 (bx P 30 x0 w).bind fun r1 =>
 (vl (.bool false) r1.2).bind fun r2 =>
 (ld P 30 r1.1 r2.2).bind fun r3 =>
 (EV P 8 #[r3.1] r3.2).bind fun r4 =>
 (vl r4.1 r4.2).bind fun r5 =>
 (gif r5.1 true (EV P 30 #[r1.1] r5.2) r5.2).bind fun r6 =>
 (pickV r5.1 r6.1 (.bool false) r6.2).bind fun r7 =>
 (vl r7.1 r7.2).bind fun r8 =>
 some (r8.1, r8.2) := by kernel_rfl
theorem impl_WorldSame_fn (x0 : Value) (w : World) : fnC P (EV P) 10 #[x0] w =
 (bx P 30 x0 w).bind fun r1 =>
 (vl (.bool false) r1.2).bind fun r2 =>
 (ld P 30 r1.1 r2.2).bind fun r3 =>
 (EV P 8 #[r3.1] r3.2).bind fun r4 =>
 (vl r4.1 r4.2).bind fun r5 =>
 (gif r5.1 true (EV P 31 #[r1.1] r5.2) r5.2).bind fun r6 =>
 (pickV r5.1 r6.1 (.bool false) r6.2).bind fun r7 =>
 (vl r7.1 r7.2).bind fun r8 =>
 some (r8.1, r8.2) := by kernel_rfl
noncomputable def spec_l20Open_j1 (e : Env) (w : World) : Option (Value × World) := exC P (EV P) 11 11 (cB (cB (bodyOf P 11))) e w (kFn P (fnOf P 11))
theorem spec_l20Open_j1_eq (e : Env) (w : World) : spec_l20Open_j1 e w =
 (vl (e 0) w).bind fun r1 =>
 (bd P 72 #[(0, r1.1)] r1.2).bind fun r2 =>
 (bx P 72 r2.1 r2.2).bind fun r3 =>
 (vl r3.1 r3.2).bind fun r4 =>
 some (r4.1, r4.2) := by kernel_rfl
theorem spec_l20Open_fn (x0 : Value) (w : World) : fnC P (EV P) 11 #[x0] w =
 (vl (Go.Value.pointer none) w).bind fun r1 =>
 (vl x0 r1.2).bind fun r2 =>
 (b_len P #[22] 3 #[r2.1] r2.2).bind fun r3 =>
 (bo P .gtr 3 (.tmp 4) (.const (.int .i64 2000)) r3.1 (.int .i64 2000) r3.2).bind fun r4 =>
 cnd r4.1 (
 (vl x0 r4.2).bind fun r5 =>
 (sl P 22 r5.1 none (some (.int .i64 2000)) none r5.2).bind fun r6 =>
 (vl r6.1 r6.2).bind fun r7 =>
 spec_l20Open_j1 (ups (env0 #[x0]) [(2, r1.1), (3, r2.1), (4, r3.1), (5, r4.1), (6, r5.1), (7, r6.1), (0, r7.1)]) r7.2) (
 spec_l20Open_j1 (ups (env0 #[x0]) [(2, r1.1), (3, r2.1), (4, r3.1), (5, r4.1)]) r4.2) := by kernel_rfl
theorem spec_l20Rd_one_fn (x0 x1 : Value) (w : World) : fnC P (EV P) 12 #[x0, x1] w =
 (vl (.int .i64 0) w).bind fun r1 =>
 (vl x1 r1.2).bind fun r2 =>
 (vl x0 r2.2).bind fun r3 =>
 (vl x1 r3.2).bind fun r4 =>
 (b_len P #[38] 3 #[r4.1] r4.2).bind fun r5 =>
 (EV P 32 #[r3.1, r5.1] r5.2).bind fun r6 =>
 (ia P 38 r2.1 r6.1 r6.2).bind fun r7 =>
 (ld P 3 r7.1 r7.2).bind fun r8 =>
 (vl r8.1 r8.2).bind fun r9 =>
 some (r9.1, r9.2) := by kernel_rfl
theorem impl_worldArgs_fn (x0 x1 : Value) (w : World) : fnC P (EV P) 13 #[x0, x1] w =
 (vl (.bool false) w).bind fun r1 =>
 (vl x0 r1.2).bind fun r2 =>
 (EV P 33 #[r2.1] r2.2).bind fun r3 =>
 (vl r3.1 r3.2).bind fun r4 =>
 (gif r4.1 true (vl x1 r4.2) r4.2).bind fun r5 =>
 (gif r4.1 true (EV P 34 #[r5.1, (.int .i64 0), (.int .i64 4)] r5.2) r5.2).bind fun r6 =>
 (pickV r4.1 r6.1 (.bool false) r6.2).bind fun r7 =>
 (vl r7.1 r7.2).bind fun r8 =>
 some (r8.1, r8.2) := by kernel_rfl
noncomputable def impl_worldNew_a1 (e : Env) (w : World) : Option (Value × World) := exC P (EV P) 14 39 (cA (cB (bodyOf P 14))) e w (kSeq P (EV P) 14 39 (cB (cB (bodyOf P 14))) (kFn P (fnOf P 14)))
noncomputable def impl_worldNew_j1 (e : Env) (w : World) : Option (Value × World) := exC P (EV P) 14 39 (cB (cB (bodyOf P 14))) e w (kFn P (fnOf P 14))
noncomputable def impl_worldNew_l1 (e : Env) (w : World) : Option (Value × World) := exC P (EV P) 14 39 (.loop (cA (cA (cB (cA (cB (cB (bodyOf P 14)))))))) e w (kBlock 0 (kSeq P (EV P) 14 39 (cB (cB (cB (bodyOf P 14)))) (kFn P (fnOf P 14))))
noncomputable def impl_worldNew_l2 (e : Env) (w : World) : Option (Value × World) := exC P (EV P) 14 39 (.loop (cA (cA (cB (cA (cB (cB (cB (bodyOf P 14))))))))) e w (kBlock 2 (kSeq P (EV P) 14 39 (cB (cB (cB (cB (bodyOf P 14))))) (kFn P (fnOf P 14))))
theorem impl_worldNew_a1_any (e : Env) (w : World) {Q : Value × World → Prop} (h :
 (Ret (vl (e 1) (dw w)) fun r1 => r1.2 = (dw w) ∧
 ((Ret (ms P 25 (.int .i64 0) (.int .i64 3) (dw w)) fun r2 => (True) ∧
 ((Ret (ms P 26 (.int .i64 0) r1.1 r2.2) fun r3 => (True) ∧
 (Ret (bd P 30 #[(0, r2.1), (1, r3.1)] r3.2) fun r4 => r4.2 = r3.2 ∧
 ((Ret (al P 30 r3.2) fun r5 => (bd P 30 #[(0, r2.1), (1, r3.1)] r5.2 = some (r4.1, r5.2) ∧ True) ∧
 ((Ret (st P 30 r5.1 r4.1 r5.2) fun r6 => (True ∧ True) ∧
 Ret (impl_worldNew_j1 (ups e [(9, r1.1), (8, r2.1), (10, r3.1), (11, r4.1), (5, r5.1)]) r6.2) Q)))))) ∧
 (Ret (al P 30 r2.2) fun r7 => (True) ∧
 ((Ret (ms P 26 (.int .i64 0) r1.1 r7.2) fun r8 => (True) ∧
 (Ret (bd P 30 #[(0, r2.1), (1, r8.1)] r8.2) fun r9 => r9.2 = r8.2 ∧
 ((Ret (st P 30 r7.1 r9.1 r8.2) fun r10 => (True ∧ True) ∧
 Ret (impl_worldNew_j1 (ups e [(9, r1.1), (8, r2.1), (5, r7.1), (10, r8.1), (11, r9.1)]) r10.2) Q)))))))) ∧
 (Ret (ms P 26 (.int .i64 0) r1.1 (dw w)) fun r11 => (True) ∧
 ((Ret (ms P 25 (.int .i64 0) (.int .i64 3) r11.2) fun r12 => (True) ∧
 (Ret (bd P 30 #[(0, r12.1), (1, r11.1)] r12.2) fun r13 => r13.2 = r12.2 ∧
 ((Ret (al P 30 r12.2) fun r14 => (bd P 30 #[(0, r12.1), (1, r11.1)] r14.2 = some (r13.1, r14.2) ∧ True) ∧
 ((Ret (st P 30 r14.1 r13.1 r14.2) fun r15 => (True ∧ True) ∧
 Ret (impl_worldNew_j1 (ups e [(9, r1.1), (10, r11.1), (8, r12.1), (11, r13.1), (5, r14.1)]) r15.2) Q)))))) ∧
 (Ret (al P 30 r11.2) fun r16 => (True) ∧
 ((Ret (ms P 25 (.int .i64 0) (.int .i64 3) r16.2) fun r17 => (True) ∧
 (Ret (bd P 30 #[(0, r17.1), (1, r11.1)] r17.2) fun r18 => r18.2 = r17.2 ∧
 ((Ret (st P 30 r16.1 r18.1 r17.2) fun r19 => (True ∧ True) ∧
 Ret (impl_worldNew_j1 (ups e [(9, r1.1), (10, r11.1), (5, r16.1), (8, r17.1), (11, r18.1)]) r19.2) Q)))))))) ∧
 (Ret (al P 30 (dw w)) fun r20 => (True) ∧
 ((Ret (ms P 25 (.int .i64 0) (.int .i64 3) r20.2) fun r21 => (True) ∧
 ((Ret (ms P 26 (.int .i64 0) r1.1 r21.2) fun r22 => (True) ∧
 (Ret (bd P 30 #[(0, r21.1), (1, r22.1)] r22.2) fun r23 => r23.2 = r22.2 ∧
 ((Ret (st P 30 r20.1 r23.1 r22.2) fun r24 => (True ∧ True) ∧
 Ret (impl_worldNew_j1 (ups e [(9, r1.1), (5, r20.1), (8, r21.1), (10, r22.1), (11, r23.1)]) r24.2) Q)))))) ∧
 (Ret (ms P 26 (.int .i64 0) r1.1 r20.2) fun r25 => (True) ∧
 ((Ret (ms P 25 (.int .i64 0) (.int .i64 3) r25.2) fun r26 => (True) ∧
 (Ret (bd P 30 #[(0, r26.1), (1, r25.1)] r26.2) fun r27 => r27.2 = r26.2 ∧
 ((Ret (st P 30 r20.1 r27.1 r26.2) fun r28 => (True ∧ True) ∧
 Ret (impl_worldNew_j1 (ups e [(9, r1.1), (5, r20.1), (10, r25.1), (8, r26.1), (11, r27.1)]) r28.2) Q))))))))))) : Ret (impl_worldNew_a1 e w) Q := exC_any (id := 1) (ops := opsOf (cA (cB (bodyOf P 14)))) (by kernel_rfl) (by kernel_rfl) (Eq.mpr (by kernel_rfl) h)
theorem impl_worldNew_j1_eq (e : Env) (w : World) : impl_worldNew_j1 e w =
 (vl (.int .i64 0) w).bind fun r1 =>
 impl_worldNew_l1 (ups e [(12, r1.1)]) r1.2 := by kernel_rfl
theorem impl_worldNew_l1_eq (e : Env) (w : World) : impl_worldNew_l1 e w =
 (bo P .lss 3 (.tmp 12) (.const (.int .i64 3)) (e 12) (.int .i64 3) w).bind fun r1 =>
 cnd r1.1 (
 (vl (e 12) r1.2).bind fun r2 =>
 (vl r2.1 r2.2).bind fun r3 =>
 (fa P 30 (e 5) 0 (dw r3.2)).bind fun r5 =>
 ifP (r5.2 = (dw r3.2)) <|
 (ld P 25 r5.1 (dw r3.2)).bind fun r6 =>
 ifP (r6.2 = (dw r3.2)) <|
 (vl r3.1 (dw r3.2)).bind fun r7 =>
 ifP (r7.2 = (dw r3.2)) <|
 (vl (e 0) (dw r3.2)).bind fun r8 =>
 ifP (r8.2 = (dw r3.2)) <|
 (EV P 35 #[r7.1, r8.1] (dw r3.2)).bind fun r9 =>
 ifP (ld P 25 r5.1 r9.2 = some (r6.1, r9.2) ∧ fa P 30 (e 5) 0 r9.2 = some (r5.1, r9.2) ∧ True) <|
 (bs P 25 1 #[(0, r9.1)] r9.2).bind fun r10 =>
 ifP (ld P 25 r5.1 r10.2 = some (r6.1, r10.2) ∧ fa P 30 (e 5) 0 r10.2 = some (r5.1, r10.2) ∧ True) <|
 (b_append P #[25, 25] 25 #[r6.1, r10.1] r10.2).bind fun r11 =>
 ifP (True ∧ True ∧ True) <|
 (fa P 30 (e 5) 0 r11.2).bind fun r12 =>
 ifP (r12.2 = r11.2) <|
 (st P 25 r12.1 r11.1 r11.2).bind fun r13 =>
 ifP (True ∧ True ∧ True ∧ True) <|
 (bo P .add 3 (.tmp 12) (.const (.int .i64 1)) (e 12) (.int .i64 1) r13.2).bind fun r14 =>
 (vl r14.1 r14.2).bind fun r15 =>
 impl_worldNew_l1 (ups e [(13, r1.1), (14, r2.1), (6, r3.1), (15, r5.1), (16, r6.1), (17, r7.1), (18, r8.1), (19, r9.1), (20, r10.1), (21, r11.1), (22, r12.1), (23, r14.1), (12, r15.1)]) r15.2) (
 (vl (e 1) r1.2).bind fun r16 =>
 (vl (.int .i64 0) r16.2).bind fun r17 =>
 impl_worldNew_l2 (ups e [(13, r1.1), (24, r16.1), (25, r17.1)]) r17.2) := (exC_loop P (EV P) 14 39 (cA (cA (cB (cA (cB (cB (bodyOf P 14))))))) e w (kBlock 0 (kSeq P (EV P) 14 39 (cB (cB (cB (bodyOf P 14)))) (kFn P (fnOf P 14))))).trans (by kernel_rfl)
theorem impl_worldNew_l2_eq (e : Env) (w : World) : impl_worldNew_l2 e w =
 (bo P .lss 3 (.tmp 25) (.tmp 24) (e 25) (e 24) w).bind fun r1 =>
 cnd r1.1 (
 (vl (e 25) r1.2).bind fun r2 =>
 (vl r2.1 r2.2).bind fun r3 =>
 (fa P 30 (e 5) 1 (dw r3.2)).bind fun r5 =>
 ifP (r5.2 = (dw r3.2)) <|
 (ld P 26 r5.1 (dw r3.2)).bind fun r6 =>
 ifP (r6.2 = (dw r3.2)) <|
 (vl r3.1 (dw r3.2)).bind fun r7 =>
 ifP (r7.2 = (dw r3.2)) <|
 (bo P .rem 3 (.tmp 30) (.const (.int .i64 3)) r7.1 (.int .i64 3) (dw r3.2)).bind fun r8 =>
 ifP (r8.2 = (dw r3.2)) <|
 (EV P 36 #[] (dw r3.2)).bind fun r9 =>
 ifP (bo P .rem 3 (.tmp 30) (.const (.int .i64 3)) r7.1 (.int .i64 3) r9.2 = some (r8.1, r9.2) ∧ ld P 26 r5.1 r9.2 = some (r6.1, r9.2) ∧ fa P 30 (e 5) 1 r9.2 = some (r5.1, r9.2) ∧ True) <|
 (bd P 55 #[(0, r8.1), (1, r9.1)] r9.2).bind fun r10 =>
 ifP (r10.2 = r9.2) <|
 (bs P 26 1 #[(0, r10.1)] r9.2).bind fun r11 =>
 ifP (True ∧ True ∧ ld P 26 r5.1 r11.2 = some (r6.1, r11.2) ∧ fa P 30 (e 5) 1 r11.2 = some (r5.1, r11.2) ∧ True) <|
 (b_append P #[26, 26] 26 #[r6.1, r11.1] r11.2).bind fun r12 =>
 ifP (True ∧ True ∧ True ∧ True ∧ True) <|
 (fa P 30 (e 5) 1 r12.2).bind fun r13 =>
 ifP (r13.2 = r12.2) <|
 (st P 26 r13.1 r12.1 r12.2).bind fun r14 =>
 ifP (True ∧ True ∧ True ∧ True ∧ True ∧ True) <|
 (bo P .add 3 (.tmp 25) (.const (.int .i64 1)) (e 25) (.int .i64 1) r14.2).bind fun r15 =>
 (vl r15.1 r15.2).bind fun r16 =>
 impl_worldNew_l2 (ups e [(26, r1.1), (27, r2.1), (7, r3.1), (28, r5.1), (29, r6.1), (30, r7.1), (31, r8.1), (32, r9.1), (33, r10.1), (34, r11.1), (35, r12.1), (36, r13.1), (37, r15.1), (25, r16.1)]) r16.2) (
 (ld P 30 (e 5) r1.2).bind fun r17 =>
 (st P 30 (e 4) r17.1 r17.2).bind fun r18 =>
 ((ld P 30 (e 4) r18.2).bind fun r19 => ifP (r19.2 = r18.2) (some r19.1)).bind fun v20 =>
 some (v20, r18.2)) := (exC_loop P (EV P) 14 39 (cA (cA (cB (cA (cB (cB (cB (bodyOf P 14)))))))) e w (kBlock 2 (kSeq P (EV P) 14 39 (cB (cB (cB (cB (bodyOf P 14))))) (kFn P (fnOf P 14))))).trans (by kernel_rfl)
theorem impl_worldNew_fn (x0 x1 : Value) (w : World) : fnC P (EV P) 14 #[x0, x1] w =
 (al P 30 w).bind fun r1 =>
 impl_worldNew_a1 (ups (env0 #[x0, x1]) [(4, r1.1)]) r1.2 := by kernel_rfl
noncomputable def laws_cfDone_l1 (e : Env) (w : World) : Option (Value × World) := exC P (EV P) 15 26 (.loop (cA (cA (cB (cA (cB (cB (bodyOf P 15)))))))) e w (kBlock 0 (kSeq P (EV P) 15 26 (cB (cB (cB (bodyOf P 15)))) (kFn P (fnOf P 15))))
theorem laws_cfDone_l1_eq (e : Env) (w : World) : laws_cfDone_l1 e w =
 (vl (e 5) w).bind fun r1 =>
 (vl (e 0) r1.2).bind fun r2 =>
 (b_len P #[28] 3 #[r2.1] r2.2).bind fun r3 =>
 (bo P .lss 3 (.tmp 11) (.tmp 13) r1.1 r3.1 r3.2).bind fun r4 =>
 cnd r4.1 (
 (vl (e 0) (dw r4.2)).bind fun r6 =>
 ifP (r6.2 = (dw r4.2)) <|
 (vl (e 5) (dw r4.2)).bind fun r7 =>
 ifP (r7.2 = (dw r4.2)) <|
 (ia P 28 r6.1 r7.1 (dw r4.2)).bind fun r8 =>
 ifP (r8.2 = (dw r4.2)) <|
 (ld P 78 r8.1 (dw r4.2)).bind fun r9 =>
 ifP (r9.2 = (dw r4.2)) <|
 (vl (e 1) (dw r4.2)).bind fun r10 =>
 ifP (r10.2 = (dw r4.2)) <|
 (vl (e 5) (dw r4.2)).bind fun r11 =>
 ifP (r11.2 = (dw r4.2)) <|
 (ia P 28 r10.1 r11.1 (dw r4.2)).bind fun r12 =>
 ifP (r12.2 = (dw r4.2)) <|
 (ld P 78 r12.1 (dw r4.2)).bind fun r13 =>
 ifP (r13.2 = (dw r4.2)) <|
 (bo P .neq 78 (.tmp 20) (.tmp 24) r9.1 r13.1 (dw r4.2)).bind fun r14 =>
 ifP (r14.2 = (dw r4.2)) <|
 cnd r14.1 (
 (vl (.bool false) (dw r4.2)).bind fun r15 =>
 some (r15.1, r15.2)) (
 (vl (e 5) (dw r4.2)).bind fun r16 =>
 (bo P .add 3 (.tmp 15) (.const (.int .i64 1)) r16.1 (.int .i64 1) r16.2).bind fun r17 =>
 (vl r17.1 r17.2).bind fun r18 =>
 laws_cfDone_l1 (ups e [(11, r1.1), (12, r2.1), (13, r3.1), (14, r4.1), (17, r6.1), (18, r7.1), (19, r8.1), (20, r9.1), (21, r10.1), (22, r11.1), (23, r12.1), (24, r13.1), (25, r14.1), (15, r16.1), (16, r17.1), (5, r18.1)]) r18.2)) (
 (vl (.bool true) r4.2).bind fun r19 =>
 some (r19.1, r19.2)) := (exC_loop P (EV P) 15 26 (cA (cA (cB (cA (cB (cB (bodyOf P 15))))))) e w (kBlock 0 (kSeq P (EV P) 15 26 (cB (cB (cB (bodyOf P 15)))) (kFn P (fnOf P 15))))).trans (by kernel_rfl)
theorem laws_cfDone_fn (x0 x1 : Value) (w : World) : fnC P (EV P) 15 #[x0, x1] w =
 (vl (.bool false) w).bind fun r1 =>
 (vl x0 r1.2).bind fun r2 =>
 (b_len P #[28] 3 #[r2.1] r2.2).bind fun r3 =>
 (vl x1 r3.2).bind fun r4 =>
 (b_len P #[28] 3 #[r4.1] r4.2).bind fun r5 =>
 (bo P .neq 3 (.tmp 7) (.tmp 9) r3.1 r5.1 r5.2).bind fun r6 =>
 cnd r6.1 (
 (vl (.bool false) r6.2).bind fun r7 =>
 some (r7.1, r7.2)) (
 (vl (.int .i64 0) r6.2).bind fun r8 =>
 laws_cfDone_l1 (ups (env0 #[x0, x1]) [(4, r1.1), (6, r2.1), (7, r3.1), (8, r4.1), (9, r5.1), (10, r6.1), (5, r8.1)]) r8.2) := by kernel_rfl
noncomputable def laws_cfPlace_l1 (e : Env) (w : World) : Option (Value × World) := exC P (EV P) 16 69 (.loop (cA (cA (cB (cA (cB (cB (bodyOf P 16)))))))) e w (kBlock 0 (kSeq P (EV P) 16 69 (cB (cB (cB (bodyOf P 16)))) (kFn P (fnOf P 16))))
theorem laws_cfPlace_l1_eq (e : Env) (w : World) : laws_cfPlace_l1 e w =
 (vl (e 5) w).bind fun r1 =>
 (fa P 48 (e 2) 4 r1.2).bind fun r2 =>
 (ld P 46 r2.1 r2.2).bind fun r3 =>
 (b_len P #[46] 3 #[r3.1] r3.2).bind fun r4 =>
 (bo P .lss 3 (.tmp 50) (.tmp 53) r1.1 r4.1 r4.2).bind fun r5 =>
 cnd r5.1 (
 (fa P 48 (e 2) 4 (dw r5.2)).bind fun r7 =>
 ifP (r7.2 = (dw r5.2)) <|
 (ld P 46 r7.1 (dw r5.2)).bind fun r8 =>
 ifP (r8.2 = (dw r5.2)) <|
 (vl (e 5) (dw r5.2)).bind fun r9 =>
 ifP (r9.2 = (dw r5.2)) <|
 (ia P 46 r8.1 r9.1 (dw r5.2)).bind fun r10 =>
 ifP (r10.2 = (dw r5.2)) <|
 (ld P 45 r10.1 (dw r5.2)).bind fun r11 =>
 ifP (r11.2 = (dw r5.2)) <|
 (fa P 48 (e 3) 4 (dw r5.2)).bind fun r12 =>
 ifP (r12.2 = (dw r5.2)) <|
 (ld P 46 r12.1 (dw r5.2)).bind fun r13 =>
 ifP (r13.2 = (dw r5.2)) <|
 (vl (e 5) (dw r5.2)).bind fun r14 =>
 ifP (r14.2 = (dw r5.2)) <|
 (ia P 46 r13.1 r14.1 (dw r5.2)).bind fun r15 =>
 ifP (r15.2 = (dw r5.2)) <|
 (ld P 45 r15.1 (dw r5.2)).bind fun r16 =>
 ifP (r16.2 = (dw r5.2)) <|
 (EV P 38 #[r11.1, r16.1] (dw r5.2)).bind fun r17 =>
 ifP (True ∧ True ∧ True ∧ True ∧ True ∧ True ∧ True ∧ True ∧ True) <|
 (uo P .not r17.1 r17.2).bind fun r18 =>
 ifP (r18.2 = r17.2) <|
 cnd r18.1 (
 (vl (.bool false) r17.2).bind fun r19 =>
 some (r19.1, r19.2)) (
 (vl (e 5) r17.2).bind fun r20 =>
 (bo P .add 3 (.tmp 55) (.const (.int .i64 1)) r20.1 (.int .i64 1) r20.2).bind fun r21 =>
 (vl r21.1 r21.2).bind fun r22 =>
 laws_cfPlace_l1 (ups e [(50, r1.1), (51, r2.1), (52, r3.1), (53, r4.1), (54, r5.1), (57, r7.1), (58, r8.1), (59, r9.1), (60, r10.1), (61, r11.1), (62, r12.1), (63, r13.1), (64, r14.1), (65, r15.1), (66, r16.1), (67, r17.1), (68, r18.1), (55, r20.1), (56, r21.1), (5, r22.1)]) r22.2)) (
 (vl (.bool true) r5.2).bind fun r23 =>
 some (r23.1, r23.2)) := (exC_loop P (EV P) 16 69 (cA (cA (cB (cA (cB (cB (bodyOf P 16))))))) e w (kBlock 0 (kSeq P (EV P) 16 69 (cB (cB (cB (bodyOf P 16)))) (kFn P (fnOf P 16))))).trans (by kernel_rfl)
theorem laws_cfPlace_fn (x0 x1 : Value) (w : World) : fnC P (EV P) 16 #[x0, x1] w =
 (bx P 48 x0 w).bind fun r1 =>
 (bx P 48 x1 r1.2).bind fun r2 =>
 (vl (.bool false) r2.2).bind fun r3 =>
 (fa P 48 r1.1 0 r3.2).bind fun r4 =>
 (ld P 3 r4.1 r4.2).bind fun r5 =>
 (fa P 48 r2.1 0 r5.2).bind fun r6 =>
 (ld P 3 r6.1 r6.2).bind fun r7 =>
 (bo P .neq 3 (.tmp 7) (.tmp 9) r5.1 r7.1 r7.2).bind fun r8 =>
 (vl r8.1 r8.2).bind fun r9 =>
 (gif r9.1 false (fa P 48 r1.1 1 r9.2) r9.2).bind fun r10 =>
 (gif r9.1 false (ld P 3 r10.1 r10.2) r10.2).bind fun r11 =>
 (gif r9.1 false (fa P 48 r2.1 1 r11.2) r11.2).bind fun r12 =>
 (gif r9.1 false (ld P 3 r12.1 r12.2) r12.2).bind fun r13 =>
 (gif r9.1 false (bo P .neq 3 (.tmp 13) (.tmp 15) r11.1 r13.1 r13.2) r13.2).bind fun r14 =>
 (pickV r9.1 (.bool true) r14.1 r14.2).bind fun r15 =>
 (vl r15.1 r15.2).bind fun r16 =>
 (gif r16.1 false (fa P 48 r1.1 5 r16.2) r16.2).bind fun r17 =>
 (gif r16.1 false (ld P 4 r17.1 r17.2) r17.2).bind fun r18 =>
 (gif r16.1 false (fa P 48 r2.1 5 r18.2) r18.2).bind fun r19 =>
 (gif r16.1 false (ld P 4 r19.1 r19.2) r19.2).bind fun r20 =>
 (gif r16.1 false (bo P .neq 4 (.tmp 20) (.tmp 22) r18.1 r20.1 r20.2) r20.2).bind fun r21 =>
 (pickV r16.1 (.bool true) r21.1 r21.2).bind fun r22 =>
 (vl r22.1 r22.2).bind fun r23 =>
 (gif r23.1 false (fa P 48 r1.1 2 r23.2) r23.2).bind fun r24 =>
 (gif r23.1 false (ld P 44 r24.1 r24.2) r24.2).bind fun r25 =>
 (gif r23.1 false (fa P 48 r2.1 2 r25.2) r25.2).bind fun r26 =>
 (gif r23.1 false (ld P 44 r26.1 r26.2) r26.2).bind fun r27 =>
 (gif r23.1 false (EV P 37 #[r25.1, r27.1] r27.2) r27.2).bind fun r28 =>
 (gif r23.1 false (uo P .not r28.1 r28.2) r28.2).bind fun r29 =>
 (pickV r23.1 (.bool true) r29.1 r29.2).bind fun r30 =>
 (vl r30.1 r30.2).bind fun r31 =>
 (gif r31.1 false (fa P 48 r1.1 3 r31.2) r31.2).bind fun r32 =>
 (gif r31.1 false (ld P 45 r32.1 r32.2) r32.2).bind fun r33 =>
 (gif r31.1 false (fa P 48 r2.1 3 r33.2) r33.2).bind fun r34 =>
 (gif r31.1 false (ld P 45 r34.1 r34.2) r34.2).bind fun r35 =>
 (gif r31.1 false (EV P 38 #[r33.1, r35.1] r35.2) r35.2).bind fun r36 =>
 (gif r31.1 false (uo P .not r36.1 r36.2) r36.2).bind fun r37 =>
 (pickV r31.1 (.bool true) r37.1 r37.2).bind fun r38 =>
 (vl r38.1 r38.2).bind fun r39 =>
 (gif r39.1 false (fa P 48 r1.1 4 r39.2) r39.2).bind fun r40 =>
 (gif r39.1 false (ld P 46 r40.1 r40.2) r40.2).bind fun r41 =>
 (gif r39.1 false (b_len P #[46] 3 #[r41.1] r41.2) r41.2).bind fun r42 =>
 (gif r39.1 false (fa P 48 r2.1 4 r42.2) r42.2).bind fun r43 =>
 (gif r39.1 false (ld P 46 r43.1 r43.2) r43.2).bind fun r44 =>
 (gif r39.1 false (b_len P #[46] 3 #[r44.1] r44.2) r44.2).bind fun r45 =>
 (gif r39.1 false (bo P .neq 3 (.tmp 44) (.tmp 47) r42.1 r45.1 r45.2) r45.2).bind fun r46 =>
 (pickV r39.1 (.bool true) r46.1 r46.2).bind fun r47 =>
 cnd r47.1 (
 (vl (.bool false) r47.2).bind fun r48 =>
 some (r48.1, r48.2)) (
 (vl (.int .i64 0) r47.2).bind fun r49 =>
 laws_cfPlace_l1 (ups (env0 #[x0, x1]) [(2, r1.1), (3, r2.1), (4, r3.1), (6, r4.1), (7, r5.1), (8, r6.1), (9, r7.1), (10, r8.1), (11, r9.1), (12, r10.1), (13, r11.1), (14, r12.1), (15, r13.1), (16, r14.1), (17, r15.1), (18, r16.1), (19, r17.1), (20, r18.1), (21, r19.1), (22, r20.1), (23, r21.1), (24, r22.1), (25, r23.1), (26, r24.1), (27, r25.1), (28, r26.1), (29, r27.1), (30, r28.1), (31, r29.1), (32, r30.1), (33, r31.1), (34, r32.1), (35, r33.1), (36, r34.1), (37, r35.1), (38, r36.1), (39, r37.1), (40, r38.1), (41, r39.1), (42, r40.1), (43, r41.1), (44, r42.1), (45, r43.1), (46, r44.1), (47, r45.1), (48, r46.1), (49, r47.1), (5, r49.1)]) r49.2) := by kernel_rfl
noncomputable def laws_cfPast_l1 (e : Env) (w : World) : Option (Value × World) := exC P (EV P) 17 31 (.loop (cA (cA (cB (cA (cB (cB (bodyOf P 17)))))))) e w (kBlock 0 (kSeq P (EV P) 17 31 (cB (cB (cB (bodyOf P 17)))) (kFn P (fnOf P 17))))
theorem laws_cfPast_l1_eq (e : Env) (w : World) : laws_cfPast_l1 e w =
 (vl (e 5) w).bind fun r1 =>
 (fa P 51 (e 2) 0 r1.2).bind fun r2 =>
 (ld P 49 r2.1 r2.2).bind fun r3 =>
 (b_len P #[49] 3 #[r3.1] r3.2).bind fun r4 =>
 (bo P .lss 3 (.tmp 13) (.tmp 16) r1.1 r4.1 r4.2).bind fun r5 =>
 cnd r5.1 (
 (fa P 51 (e 2) 0 (dw r5.2)).bind fun r7 =>
 ifP (r7.2 = (dw r5.2)) <|
 (ld P 49 r7.1 (dw r5.2)).bind fun r8 =>
 ifP (r8.2 = (dw r5.2)) <|
 (vl (e 5) (dw r5.2)).bind fun r9 =>
 ifP (r9.2 = (dw r5.2)) <|
 (ia P 49 r8.1 r9.1 (dw r5.2)).bind fun r10 =>
 ifP (r10.2 = (dw r5.2)) <|
 (ld P 53 r10.1 (dw r5.2)).bind fun r11 =>
 ifP (r11.2 = (dw r5.2)) <|
 (fa P 51 (e 3) 0 (dw r5.2)).bind fun r12 =>
 ifP (r12.2 = (dw r5.2)) <|
 (ld P 49 r12.1 (dw r5.2)).bind fun r13 =>
 ifP (r13.2 = (dw r5.2)) <|
 (vl (e 5) (dw r5.2)).bind fun r14 =>
 ifP (r14.2 = (dw r5.2)) <|
 (ia P 49 r13.1 r14.1 (dw r5.2)).bind fun r15 =>
 ifP (r15.2 = (dw r5.2)) <|
 (ld P 53 r15.1 (dw r5.2)).bind fun r16 =>
 ifP (r16.2 = (dw r5.2)) <|
 (bo P .neq 53 (.tmp 24) (.tmp 29) r11.1 r16.1 (dw r5.2)).bind fun r17 =>
 ifP (r17.2 = (dw r5.2)) <|
 cnd r17.1 (
 (vl (.bool false) (dw r5.2)).bind fun r18 =>
 some (r18.1, r18.2)) (
 (vl (e 5) (dw r5.2)).bind fun r19 =>
 (bo P .add 3 (.tmp 18) (.const (.int .i64 1)) r19.1 (.int .i64 1) r19.2).bind fun r20 =>
 (vl r20.1 r20.2).bind fun r21 =>
 laws_cfPast_l1 (ups e [(13, r1.1), (14, r2.1), (15, r3.1), (16, r4.1), (17, r5.1), (20, r7.1), (21, r8.1), (22, r9.1), (23, r10.1), (24, r11.1), (25, r12.1), (26, r13.1), (27, r14.1), (28, r15.1), (29, r16.1), (30, r17.1), (18, r19.1), (19, r20.1), (5, r21.1)]) r21.2)) (
 (vl (.bool true) r5.2).bind fun r22 =>
 some (r22.1, r22.2)) := (exC_loop P (EV P) 17 31 (cA (cA (cB (cA (cB (cB (bodyOf P 17))))))) e w (kBlock 0 (kSeq P (EV P) 17 31 (cB (cB (cB (bodyOf P 17)))) (kFn P (fnOf P 17))))).trans (by kernel_rfl)
theorem laws_cfPast_fn (x0 x1 : Value) (w : World) : fnC P (EV P) 17 #[x0, x1] w =
 (bx P 51 x0 w).bind fun r1 =>
 (bx P 51 x1 r1.2).bind fun r2 =>
 (vl (.bool false) r2.2).bind fun r3 =>
 (fa P 51 r1.1 0 r3.2).bind fun r4 =>
 (ld P 49 r4.1 r4.2).bind fun r5 =>
 (b_len P #[49] 3 #[r5.1] r5.2).bind fun r6 =>
 (fa P 51 r2.1 0 r6.2).bind fun r7 =>
 (ld P 49 r7.1 r7.2).bind fun r8 =>
 (b_len P #[49] 3 #[r8.1] r8.2).bind fun r9 =>
 (bo P .neq 3 (.tmp 8) (.tmp 11) r6.1 r9.1 r9.2).bind fun r10 =>
 cnd r10.1 (
 (vl (.bool false) r10.2).bind fun r11 =>
 some (r11.1, r11.2)) (
 (vl (.int .i64 0) r10.2).bind fun r12 =>
 laws_cfPast_l1 (ups (env0 #[x0, x1]) [(2, r1.1), (3, r2.1), (4, r3.1), (6, r4.1), (7, r5.1), (8, r6.1), (9, r7.1), (10, r8.1), (11, r9.1), (12, r10.1), (5, r12.1)]) r12.2) := by kernel_rfl
theorem laws_cfVer_fn (x0 x1 : Value) (w : World) : fnC P (EV P) 18 #[x0, x1] w =
 (bx P 58 x0 w).bind fun r1 =>
 (bx P 58 x1 r1.2).bind fun r2 =>
 (vl (.bool false) r2.2).bind fun r3 =>
 (fa P 58 r1.1 0 r3.2).bind fun r4 =>
 (ld P 3 r4.1 r4.2).bind fun r5 =>
 (fa P 58 r2.1 0 r5.2).bind fun r6 =>
 (ld P 3 r6.1 r6.2).bind fun r7 =>
 (bo P .eql 3 (.tmp 6) (.tmp 8) r5.1 r7.1 r7.2).bind fun r8 =>
 (vl r8.1 r8.2).bind fun r9 =>
 (gif r9.1 true (fa P 58 r1.1 1 r9.2) r9.2).bind fun r10 =>
 (gif r9.1 true (ld P 53 r10.1 r10.2) r10.2).bind fun r11 =>
 (gif r9.1 true (fa P 58 r2.1 1 r11.2) r11.2).bind fun r12 =>
 (gif r9.1 true (ld P 53 r12.1 r12.2) r12.2).bind fun r13 =>
 (gif r9.1 true (bo P .eql 53 (.tmp 12) (.tmp 14) r11.1 r13.1 r13.2) r13.2).bind fun r14 =>
 (pickV r9.1 r14.1 (.bool false) r14.2).bind fun r15 =>
 (vl r15.1 r15.2).bind fun r16 =>
 (gif r16.1 true (fa P 58 r1.1 2 r16.2) r16.2).bind fun r17 =>
 (gif r16.1 true (ld P 51 r17.1 r17.2) r17.2).bind fun r18 =>
 (gif r16.1 true (fa P 58 r2.1 2 r18.2) r18.2).bind fun r19 =>
 (gif r16.1 true (ld P 51 r19.1 r19.2) r19.2).bind fun r20 =>
 (gif r16.1 true (EV P 17 #[r18.1, r20.1] r20.2) r20.2).bind fun r21 =>
 (pickV r16.1 r21.1 (.bool false) r21.2).bind fun r22 =>
 (vl r22.1 r22.2).bind fun r23 =>
 (gif r23.1 true (fa P 58 r1.1 3 r23.2) r23.2).bind fun r24 =>
 (gif r23.1 true (ld P 9 r24.1 r24.2) r24.2).bind fun r25 =>
 (gif r23.1 true (fa P 58 r2.1 3 r25.2) r25.2).bind fun r26 =>
 (gif r23.1 true (ld P 9 r26.1 r26.2) r26.2).bind fun r27 =>
 (gif r23.1 true (bo P .eql 9 (.tmp 26) (.tmp 28) r25.1 r27.1 r27.2) r27.2).bind fun r28 =>
 (pickV r23.1 r28.1 (.bool false) r28.2).bind fun r29 =>
 (vl r29.1 r29.2).bind fun r30 =>
 (gif r30.1 true (fa P 58 r1.1 4 r30.2) r30.2).bind fun r31 =>
 (gif r30.1 true (ld P 4 r31.1 r31.2) r31.2).bind fun r32 =>
 (gif r30.1 true (fa P 58 r2.1 4 r32.2) r32.2).bind fun r33 =>
 (gif r30.1 true (ld P 4 r33.1 r33.2) r33.2).bind fun r34 =>
 (gif r30.1 true (bo P .eql 4 (.tmp 33) (.tmp 35) r32.1 r34.1 r34.2) r34.2).bind fun r35 =>
 (pickV r30.1 r35.1 (.bool false) r35.2).bind fun r36 =>
 (vl r36.1 r36.2).bind fun r37 =>
 some (r37.1, r37.2) := by kernel_rfl
theorem spec_l1In_fn (x0 x1 x2 : Value) (w : World) : fnC P (EV P) 19 #[x0, x1, x2] w =
 (vl (.bool false) w).bind fun r1 =>
 (vl x0 r1.2).bind fun r2 =>
 (vl x1 r2.2).bind fun r3 =>
 (bo P .geq 3 (.tmp 7) (.tmp 8) r2.1 r3.1 r3.2).bind fun r4 =>
 (vl r4.1 r4.2).bind fun r5 =>
 (gif r5.1 true (vl x0 r5.2) r5.2).bind fun r6 =>
 (gif r5.1 true (vl x2 r6.2) r6.2).bind fun r7 =>
 (gif r5.1 true (bo P .leq 3 (.tmp 11) (.tmp 12) r6.1 r7.1 r7.2) r7.2).bind fun r8 =>
 (pickV r5.1 r8.1 (.bool false) r8.2).bind fun r9 =>
 (vl r9.1 r9.2).bind fun r10 =>
 some (r10.1, r10.2) := by kernel_rfl
noncomputable def spec_l5New_l1 (e : Env) (w : World) : Option (Value × World) := exC P (EV P) 20 36 (.loop (cA (cA (cB (cA (cB (cB (bodyOf P 20)))))))) e w (kBlock 0 (kSeq P (EV P) 20 36 (cB (cB (cB (bodyOf P 20)))) (kFn P (fnOf P 20))))
noncomputable def spec_l5New_l2 (e : Env) (w : World) : Option (Value × World) := exC P (EV P) 20 36 (.loop (cA (cA (cB (cA (cB (cB (cB (bodyOf P 20))))))))) e w (kBlock 2 (kSeq P (EV P) 20 36 (cB (cB (cB (cB (bodyOf P 20))))) (kFn P (fnOf P 20))))
theorem spec_l5New_l1_eq (e : Env) (w : World) : spec_l5New_l1 e w =
 (vl (e 6) w).bind fun r1 =>
 (bo P .lss 3 (.tmp 9) (.const (.int .i64 3)) r1.1 (.int .i64 3) r1.2).bind fun r2 =>
 cnd r2.1 (
 (fa P 30 (e 5) 0 (dw r2.2)).bind fun r4 =>
 ifP (r4.2 = (dw r2.2)) <|
 (ld P 25 r4.1 (dw r2.2)).bind fun r5 =>
 ifP (r5.2 = (dw r2.2)) <|
 (vl (e 6) (dw r2.2)).bind fun r6 =>
 ifP (r6.2 = (dw r2.2)) <|
 (vl (e 0) (dw r2.2)).bind fun r7 =>
 ifP (r7.2 = (dw r2.2)) <|
 (EV P 39 #[r6.1, r7.1] (dw r2.2)).bind fun r8 =>
 ifP (ld P 25 r4.1 r8.2 = some (r5.1, r8.2) ∧ fa P 30 (e 5) 0 r8.2 = some (r4.1, r8.2) ∧ True) <|
 (bs P 25 1 #[(0, r8.1)] r8.2).bind fun r9 =>
 ifP (ld P 25 r4.1 r9.2 = some (r5.1, r9.2) ∧ fa P 30 (e 5) 0 r9.2 = some (r4.1, r9.2) ∧ True) <|
 (b_append P #[25, 25] 25 #[r5.1, r9.1] r9.2).bind fun r10 =>
 ifP (True ∧ True ∧ True) <|
 (fa P 30 (e 5) 0 r10.2).bind fun r11 =>
 ifP (r11.2 = r10.2) <|
 (st P 25 r11.1 r10.1 r10.2).bind fun r12 =>
 ifP (True ∧ True ∧ True ∧ True) <|
 (vl (e 6) r12.2).bind fun r13 =>
 (bo P .add 3 (.tmp 11) (.const (.int .i64 1)) r13.1 (.int .i64 1) r13.2).bind fun r14 =>
 (vl r14.1 r14.2).bind fun r15 =>
 spec_l5New_l1 (ups e [(9, r1.1), (10, r2.1), (13, r4.1), (14, r5.1), (15, r6.1), (16, r7.1), (17, r8.1), (18, r9.1), (19, r10.1), (20, r11.1), (11, r13.1), (12, r14.1), (6, r15.1)]) r15.2) (
 (vl (.int .i64 0) r2.2).bind fun r16 =>
 spec_l5New_l2 (ups e [(9, r1.1), (10, r2.1), (7, r16.1)]) r16.2) := (exC_loop P (EV P) 20 36 (cA (cA (cB (cA (cB (cB (bodyOf P 20))))))) e w (kBlock 0 (kSeq P (EV P) 20 36 (cB (cB (cB (bodyOf P 20)))) (kFn P (fnOf P 20))))).trans (by kernel_rfl)
theorem spec_l5New_l2_eq (e : Env) (w : World) : spec_l5New_l2 e w =
 (vl (e 7) w).bind fun r1 =>
 (vl (e 1) r1.2).bind fun r2 =>
 (bo P .lss 3 (.tmp 21) (.tmp 22) r1.1 r2.1 r2.2).bind fun r3 =>
 cnd r3.1 (
 (fa P 30 (e 5) 1 (dw r3.2)).bind fun r5 =>
 ifP (r5.2 = (dw r3.2)) <|
 (ld P 26 r5.1 (dw r3.2)).bind fun r6 =>
 ifP (r6.2 = (dw r3.2)) <|
 (vl (e 7) (dw r3.2)).bind fun r7 =>
 ifP (r7.2 = (dw r3.2)) <|
 (bo P .rem 3 (.tmp 28) (.const (.int .i64 3)) r7.1 (.int .i64 3) (dw r3.2)).bind fun r8 =>
 ifP (r8.2 = (dw r3.2)) <|
 (EV P 40 #[] (dw r3.2)).bind fun r9 =>
 ifP (bo P .rem 3 (.tmp 28) (.const (.int .i64 3)) r7.1 (.int .i64 3) r9.2 = some (r8.1, r9.2) ∧ ld P 26 r5.1 r9.2 = some (r6.1, r9.2) ∧ fa P 30 (e 5) 1 r9.2 = some (r5.1, r9.2) ∧ True) <|
 (bd P 55 #[(0, r8.1), (1, r9.1)] r9.2).bind fun r10 =>
 ifP (r10.2 = r9.2) <|
 (bs P 26 1 #[(0, r10.1)] r9.2).bind fun r11 =>
 ifP (True ∧ True ∧ ld P 26 r5.1 r11.2 = some (r6.1, r11.2) ∧ fa P 30 (e 5) 1 r11.2 = some (r5.1, r11.2) ∧ True) <|
 (b_append P #[26, 26] 26 #[r6.1, r11.1] r11.2).bind fun r12 =>
 ifP (True ∧ True ∧ True ∧ True ∧ True) <|
 (fa P 30 (e 5) 1 r12.2).bind fun r13 =>
 ifP (r13.2 = r12.2) <|
 (st P 26 r13.1 r12.1 r12.2).bind fun r14 =>
 ifP (True ∧ True ∧ True ∧ True ∧ True ∧ True) <|
 (vl (e 7) r14.2).bind fun r15 =>
 (bo P .add 3 (.tmp 24) (.const (.int .i64 1)) r15.1 (.int .i64 1) r15.2).bind fun r16 =>
 (vl r16.1 r16.2).bind fun r17 =>
 spec_l5New_l2 (ups e [(21, r1.1), (22, r2.1), (23, r3.1), (26, r5.1), (27, r6.1), (28, r7.1), (29, r8.1), (30, r9.1), (31, r10.1), (32, r11.1), (33, r12.1), (34, r13.1), (24, r15.1), (25, r16.1), (7, r17.1)]) r17.2) (
 (ld P 30 (e 5) r3.2).bind fun r18 =>
 (st P 30 (e 4) r18.1 r18.2).bind fun r19 =>
 ((ld P 30 (e 4) r19.2).bind fun r20 => ifP (r20.2 = r19.2) (some r20.1)).bind fun v21 =>
 some (v21, r19.2)) := (exC_loop P (EV P) 20 36 (cA (cA (cB (cA (cB (cB (cB (bodyOf P 20)))))))) e w (kBlock 2 (kSeq P (EV P) 20 36 (cB (cB (cB (cB (bodyOf P 20))))) (kFn P (fnOf P 20))))).trans (by kernel_rfl)
theorem spec_l5New_fn (x0 x1 : Value) (w : World) : fnC P (EV P) 20 #[x0, x1] w =
 (al P 30 w).bind fun r1 =>
 (bd P 30 #[] r1.2).bind fun r2 =>
 (al P 30 r2.2).bind fun r3 =>
 (st P 30 r3.1 r2.1 r3.2).bind fun r4 =>
 (vl (.int .i64 0) r4.2).bind fun r5 =>
 spec_l5New_l1 (ups (env0 #[x0, x1]) [(4, r1.1), (8, r2.1), (5, r3.1), (6, r5.1)]) r5.2 := by kernel_rfl
theorem impl_formed_fn (x0 : Value) (w : World) : fnC P (EV P) 21 #[x0] w =
 (vl (.bool false) w).bind fun r1 =>
 (vl x0 r1.2).bind fun r2 =>
 (b_len P #[28] 3 #[r2.1] r2.2).bind fun r3 =>
 (bo P .leq 3 (.tmp 4) (.const (.int .i64 80)) r3.1 (.int .i64 80) r3.2).bind fun r4 =>
 (vl r4.1 r4.2).bind fun r5 =>
 (gif r5.1 true (vl x0 r5.2) r5.2).bind fun r6 =>
 (gif r5.1 true (EV P 41 #[r6.1, (.func (.func 42) #[] #[])] r6.2) r6.2).bind fun r7 =>
 (gif r5.1 true (uo P .not r7.1 r7.2) r7.2).bind fun r8 =>
 (pickV r5.1 r8.1 (.bool false) r8.2).bind fun r9 =>
 (vl r9.1 r9.2).bind fun r10 =>
 some (r10.1, r10.2) := by kernel_rfl
noncomputable def impl_PlaceOk_l1 (e : Env) (w : World) : Option (Value × World) := exC P (EV P) 22 113 (.loop (cA (cA (cB (cA (cB (cB (cB (bodyOf P 22))))))))) e w (kBlock 0 (kSeq P (EV P) 22 113 (cB (cB (cB (cB (bodyOf P 22))))) (kFn P (fnOf P 22))))
noncomputable def impl_PlaceOk_l2 (e : Env) (w : World) : Option (Value × World) := exC P (EV P) 22 113 (.loop (cA (cA (cB (cB (cA (cA (cB (cB (cA (cA (cB (cA (cB (cB (cB (bodyOf P 22))))))))))))))))) e w (kBlock 2 (kBlock 1 (kSeq P (EV P) 22 113 (cB (cB (cB (cA (cA (cB (cA (cB (cB (cB (bodyOf P 22))))))))))) (kLoop P (EV P) 22 113 (cA (cA (cB (cA (cB (cB (cB (bodyOf P 22)))))))) (kBlock 0 (kSeq P (EV P) 22 113 (cB (cB (cB (cB (bodyOf P 22))))) (kFn P (fnOf P 22))))))))
noncomputable def impl_PlaceOk_l3 (e : Env) (w : World) : Option (Value × World) := exC P (EV P) 22 113 (.loop (cA (cA (cB (cA (cB (cB (cB (cB (bodyOf P 22)))))))))) e w (kBlock 4 (kSeq P (EV P) 22 113 (cB (cB (cB (cB (cB (bodyOf P 22)))))) (kFn P (fnOf P 22))))
theorem impl_PlaceOk_l1_eq (e : Env) (w : World) : impl_PlaceOk_l1 e w =
 (bo P .lss 3 (.tmp 47) (.tmp 46) (e 47) (e 46) w).bind fun r1 =>
 cnd r1.1 (
 (vl (e 47) r1.2).bind fun r2 =>
 (ia P 42 (e 45) (e 47) r2.2).bind fun r3 =>
 (ld P 89 r3.1 r3.2).bind fun r4 =>
 (al P 89 r4.2).bind fun r5 =>
 (vl r2.1 r5.2).bind fun r6 =>
 (st P 89 r5.1 r4.1 r6.2).bind fun r7 =>
 (fa P 89 r5.1 0 r7.2).bind fun r8 =>
 (fa P 86 r8.1 0 r8.2).bind fun r9 =>
 (ld P 45 r9.1 r9.2).bind fun r10 =>
 (fa P 89 r5.1 1 r10.2).bind fun r11 =>
 (ld P 45 r11.1 r11.2).bind fun r12 =>
 (bs P 46 2 #[(0, r10.1), (1, r12.1)] r12.2).bind fun r13 =>
 (EV P 50 #[r13.1] r13.2).bind fun r14 =>
 (b_len P #[45] 3 #[r14.1] r14.2).bind fun r15 =>
 (vl (.int .i64 0) r15.2).bind fun r16 =>
 impl_PlaceOk_l2 (ups e [(48, r1.1), (49, r2.1), (50, r3.1), (51, r4.1), (5, r5.1), (4, r6.1), (52, r8.1), (53, r9.1), (54, r10.1), (55, r11.1), (56, r12.1), (57, r13.1), (58, r14.1), (59, r15.1), (60, r16.1)]) r16.2) (
 (fa P 48 (e 1) 4 r1.2).bind fun r17 =>
 (ld P 46 r17.1 r17.2).bind fun r18 =>
 (b_len P #[46] 3 #[r18.1] r18.2).bind fun r19 =>
 (vl (.int .i64 0) r19.2).bind fun r20 =>
 impl_PlaceOk_l3 (ups e [(48, r1.1), (89, r17.1), (90, r18.1), (91, r19.1), (92, r20.1)]) r20.2) := (exC_loop P (EV P) 22 113 (cA (cA (cB (cA (cB (cB (cB (bodyOf P 22)))))))) e w (kBlock 0 (kSeq P (EV P) 22 113 (cB (cB (cB (cB (bodyOf P 22))))) (kFn P (fnOf P 22))))).trans (by kernel_rfl)
theorem impl_PlaceOk_l2_eq (e : Env) (w : World) : impl_PlaceOk_l2 e w =
 (bo P .lss 3 (.tmp 60) (.tmp 59) (e 60) (e 59) w).bind fun r1 =>
 cnd r1.1 (
 (ia P 45 (e 58) (e 60) r1.2).bind fun r2 =>
 (ld P 58 r2.1 r2.2).bind fun r3 =>
 (al P 58 r3.2).bind fun r4 =>
 (st P 58 r4.1 r3.1 r4.2).bind fun r5 =>
 (fa P 58 r4.1 1 r5.2).bind fun r6 =>
 (ld P 53 r6.1 r6.2).bind fun r7 =>
 (bd P 53 #[] r7.2).bind fun r8 =>
 (bo P .neq 53 (.tmp 65) (.tmp 66) r7.1 r8.1 r8.2).bind fun r9 =>
 (vl r9.1 r9.2).bind fun r10 =>
 (gif r10.1 true (fa P 58 r4.1 2 r10.2) r10.2).bind fun r11 =>
 (gif r10.1 true (ld P 51 r11.1 r11.2) r11.2).bind fun r12 =>
 (gif r10.1 true (ld P 51 (e 3) r12.2) r12.2).bind fun r13 =>
 (gif r10.1 true (EV P 51 #[r12.1, r13.1] r13.2) r13.2).bind fun r14 =>
 (gif r10.1 true (uo P .not r14.1 r14.2) r14.2).bind fun r15 =>
 (pickV r10.1 r15.1 (.bool false) r15.2).bind fun r16 =>
 (vl r16.1 r16.2).bind fun r17 =>
 (gif r17.1 false (vl (e 4) r17.2) r17.2).bind fun r18 =>
 (gif r17.1 false (bo P .eql 3 (.tmp 76) (.const (.int .i64 0)) r18.1 (.int .i64 0) r18.2) r18.2).bind fun r19 =>
 (gif r17.1 false (vl r19.1 r19.2) r19.2).bind fun r20 =>
 (gif r20.1 true (fa P 58 r4.1 1 r20.2) r20.2).bind fun r21 =>
 (gif r20.1 true (fa P 53 r21.1 0 r21.2) r21.2).bind fun r22 =>
 (gif r20.1 true (ld P 3 r22.1 r22.2) r22.2).bind fun r23 =>
 (gif r20.1 true (fa P 48 (e 1) 1 r23.2) r23.2).bind fun r24 =>
 (gif r20.1 true (ld P 3 r24.1 r24.2) r24.2).bind fun r25 =>
 (gif r20.1 true (bo P .gtr 3 (.tmp 81) (.tmp 83) r23.1 r25.1 r25.2) r25.2).bind fun r26 =>
 (gif r17.1 false (pickV r20.1 r26.1 (.bool false) r26.2) r26.2).bind fun r27 =>
 (pickV r17.1 (.bool true) r27.1 r27.2).bind fun r28 =>
 cnd r28.1 (
 (vl (.bool false) r28.2).bind fun r29 =>
 some (r29.1, r29.2)) (
 (bo P .add 3 (.tmp 60) (.const (.int .i64 1)) (e 60) (.int .i64 1) r28.2).bind fun r30 =>
 (vl r30.1 r30.2).bind fun r31 =>
 impl_PlaceOk_l2 (ups e [(61, r1.1), (62, r2.1), (63, r3.1), (7, r4.1), (64, r6.1), (65, r7.1), (66, r8.1), (67, r9.1), (68, r10.1), (69, r11.1), (70, r12.1), (71, r13.1), (72, r14.1), (73, r15.1), (74, r16.1), (75, r17.1), (76, r18.1), (77, r19.1), (78, r20.1), (79, r21.1), (80, r22.1), (81, r23.1), (82, r24.1), (83, r25.1), (84, r26.1), (85, r27.1), (86, r28.1), (87, r30.1), (60, r31.1)]) r31.2)) (
 (bo P .add 3 (.tmp 47) (.const (.int .i64 1)) (e 47) (.int .i64 1) r1.2).bind fun r32 =>
 (vl r32.1 r32.2).bind fun r33 =>
 impl_PlaceOk_l1 (ups e [(61, r1.1), (88, r32.1), (47, r33.1)]) r33.2) := (exC_loop P (EV P) 22 113 (cA (cA (cB (cB (cA (cA (cB (cB (cA (cA (cB (cA (cB (cB (cB (bodyOf P 22)))))))))))))))) e w (kBlock 2 (kBlock 1 (kSeq P (EV P) 22 113 (cB (cB (cB (cA (cA (cB (cA (cB (cB (cB (bodyOf P 22))))))))))) (kLoop P (EV P) 22 113 (cA (cA (cB (cA (cB (cB (cB (bodyOf P 22)))))))) (kBlock 0 (kSeq P (EV P) 22 113 (cB (cB (cB (cB (bodyOf P 22))))) (kFn P (fnOf P 22))))))))).trans (by kernel_rfl)
theorem impl_PlaceOk_l3_eq (e : Env) (w : World) : impl_PlaceOk_l3 e w =
 (bo P .lss 3 (.tmp 92) (.tmp 91) (e 92) (e 91) w).bind fun r1 =>
 cnd r1.1 (
 (vl (e 92) r1.2).bind fun r2 =>
 (ia P 46 (e 90) (e 92) r2.2).bind fun r3 =>
 (ld P 45 r3.1 r3.2).bind fun r4 =>
 (vl r2.1 r4.2).bind fun r5 =>
 (vl r4.1 r5.2).bind fun r6 =>
 (vl r6.1 r6.2).bind fun r7 =>
 (vl r5.1 r7.2).bind fun r8 =>
 (EV P 47 #[r7.1, r8.1] r8.2).bind fun r9 =>
 (uo P .not r9.1 r9.2).bind fun r10 =>
 (vl r10.1 r10.2).bind fun r11 =>
 (gif r11.1 false (vl r5.1 r11.2) r11.2).bind fun r12 =>
 (gif r11.1 false (fa P 48 (e 1) 0 r12.2) r12.2).bind fun r13 =>
 (gif r11.1 false (ld P 3 r13.1 r13.2) r13.2).bind fun r14 =>
 (gif r11.1 false (bo P .eql 3 (.tmp 102) (.tmp 104) r12.1 r14.1 r14.2) r14.2).bind fun r15 =>
 (gif r11.1 false (vl r15.1 r15.2) r15.2).bind fun r16 =>
 (gif r16.1 true (vl r6.1 r16.2) r16.2).bind fun r17 =>
 (gif r16.1 true (b_len P #[45] 3 #[r17.1] r17.2) r17.2).bind fun r18 =>
 (gif r16.1 true (bo P .gtr 3 (.tmp 108) (.const (.int .i64 0)) r18.1 (.int .i64 0) r18.2) r18.2).bind fun r19 =>
 (gif r11.1 false (pickV r16.1 r19.1 (.bool false) r19.2) r19.2).bind fun r20 =>
 (pickV r11.1 (.bool true) r20.1 r20.2).bind fun r21 =>
 cnd r21.1 (
 (vl (.bool false) r21.2).bind fun r22 =>
 some (r22.1, r22.2)) (
 (bo P .add 3 (.tmp 92) (.const (.int .i64 1)) (e 92) (.int .i64 1) r21.2).bind fun r23 =>
 (vl r23.1 r23.2).bind fun r24 =>
 impl_PlaceOk_l3 (ups e [(93, r1.1), (94, r2.1), (95, r3.1), (96, r4.1), (8, r5.1), (9, r6.1), (97, r7.1), (98, r8.1), (99, r9.1), (100, r10.1), (101, r11.1), (102, r12.1), (103, r13.1), (104, r14.1), (105, r15.1), (106, r16.1), (107, r17.1), (108, r18.1), (109, r19.1), (110, r20.1), (111, r21.1), (112, r23.1), (92, r24.1)]) r24.2)) (
 (vl (.bool true) r1.2).bind fun r25 =>
 some (r25.1, r25.2)) := (exC_loop P (EV P) 22 113 (cA (cA (cB (cA (cB (cB (cB (cB (bodyOf P 22))))))))) e w (kBlock 4 (kSeq P (EV P) 22 113 (cB (cB (cB (cB (cB (bodyOf P 22)))))) (kFn P (fnOf P 22))))).trans (by kernel_rfl)
theorem impl_PlaceOk_fn (x0 : Value) (w : World) : fnC P (EV P) 22 #[x0] w =
 (bx P 48 x0 w).bind fun r1 =>
 (vl (.bool false) r1.2).bind fun r2 =>
 (fa P 48 r1.1 0 r2.2).bind fun r3 =>
 (ld P 3 r3.1 r3.2).bind fun r4 =>
 (EV P 45 #[r4.1] r4.2).bind fun r5 =>
 (uo P .not r5.1 r5.2).bind fun r6 =>
 (vl r6.1 r6.2).bind fun r7 =>
 (gif r7.1 false (fa P 48 r1.1 1 r7.2) r7.2).bind fun r8 =>
 (gif r7.1 false (ld P 3 r8.1 r8.2) r8.2).bind fun r9 =>
 (gif r7.1 false (EV P 34 #[r9.1, (.int .i64 0), (.int .i64 999)] r9.2) r9.2).bind fun r10 =>
 (gif r7.1 false (uo P .not r10.1 r10.2) r10.2).bind fun r11 =>
 (pickV r7.1 (.bool true) r11.1 r11.2).bind fun r12 =>
 (vl r12.1 r12.2).bind fun r13 =>
 (gif r13.1 false (fa P 48 r1.1 2 r13.2) r13.2).bind fun r14 =>
 (gif r13.1 false (ld P 44 r14.1 r14.2) r14.2).bind fun r15 =>
 (gif r13.1 false (EV P 46 #[r15.1] r15.2) r15.2).bind fun r16 =>
 (gif r13.1 false (uo P .not r16.1 r16.2) r16.2).bind fun r17 =>
 (pickV r13.1 (.bool true) r17.1 r17.2).bind fun r18 =>
 (vl r18.1 r18.2).bind fun r19 =>
 (gif r19.1 false (fa P 48 r1.1 3 r19.2) r19.2).bind fun r20 =>
 (gif r19.1 false (ld P 45 r20.1 r20.2) r20.2).bind fun r21 =>
 (gif r19.1 false (fa P 48 r1.1 0 r21.2) r21.2).bind fun r22 =>
 (gif r19.1 false (ld P 3 r22.1 r22.2) r22.2).bind fun r23 =>
 (gif r19.1 false (EV P 47 #[r21.1, r23.1] r23.2) r23.2).bind fun r24 =>
 (gif r19.1 false (uo P .not r24.1 r24.2) r24.2).bind fun r25 =>
 (pickV r19.1 (.bool true) r25.1 r25.2).bind fun r26 =>
 (vl r26.1 r26.2).bind fun r27 =>
 (gif r27.1 false (fa P 48 r1.1 4 r27.2) r27.2).bind fun r28 =>
 (gif r27.1 false (ld P 46 r28.1 r28.2) r28.2).bind fun r29 =>
 (gif r27.1 false (b_len P #[46] 3 #[r29.1] r29.2) r29.2).bind fun r30 =>
 (gif r27.1 false (bo P .neq 3 (.tmp 37) (.const (.int .i64 3)) r30.1 (.int .i64 3) r30.2) r30.2).bind fun r31 =>
 (pickV r27.1 (.bool true) r31.1 r31.2).bind fun r32 =>
 cnd r32.1 (
 (vl (.bool false) r32.2).bind fun r33 =>
 some (r33.1, r33.2)) (
 (fa P 48 r1.1 2 r32.2).bind fun r34 =>
 (EV P 48 #[r34.1] r34.2).bind fun r35 =>
 (EV P 49 #[r35.1] r35.2).bind fun r36 =>
 (al P 51 r36.2).bind fun r37 =>
 (st P 51 r37.1 r36.1 r37.2).bind fun r38 =>
 (fa P 48 r1.1 2 r38.2).bind fun r39 =>
 (fa P 44 r39.1 0 r39.2).bind fun r40 =>
 (ld P 42 r40.1 r40.2).bind fun r41 =>
 (b_len P #[42] 3 #[r41.1] r41.2).bind fun r42 =>
 (vl (.int .i64 0) r42.2).bind fun r43 =>
 impl_PlaceOk_l1 (ups (env0 #[x0]) [(1, r1.1), (2, r2.1), (10, r3.1), (11, r4.1), (12, r5.1), (13, r6.1), (14, r7.1), (15, r8.1), (16, r9.1), (17, r10.1), (18, r11.1), (19, r12.1), (20, r13.1), (21, r14.1), (22, r15.1), (23, r16.1), (24, r17.1), (25, r18.1), (26, r19.1), (27, r20.1), (28, r21.1), (29, r22.1), (30, r23.1), (31, r24.1), (32, r25.1), (33, r26.1), (34, r27.1), (35, r28.1), (36, r29.1), (37, r30.1), (38, r31.1), (39, r32.1), (40, r34.1), (41, r35.1), (42, r36.1), (3, r37.1), (43, r39.1), (44, r40.1), (45, r41.1), (46, r42.1), (47, r43.1)]) r43.2) := by kernel_rfl
theorem impl_beginsWith_fn (x0 x1 : Value) (w : World) : fnC P (EV P) 23 #[x0, x1] w =
 (vl (.bool false) w).bind fun r1 =>
 (vl x1 r1.2).bind fun r2 =>
 (b_len P #[45] 3 #[r2.1] r2.2).bind fun r3 =>
 (vl x0 r3.2).bind fun r4 =>
 (b_len P #[45] 3 #[r4.1] r4.2).bind fun r5 =>
 (bo P .leq 3 (.tmp 6) (.tmp 8) r3.1 r5.1 r5.2).bind fun r6 =>
 (vl r6.1 r6.2).bind fun r7 =>
 (gif r7.1 true (vl x0 r7.2) r7.2).bind fun r8 =>
 (gif r7.1 true (vl x1 r8.2) r8.2).bind fun r9 =>
 (gif r7.1 true (b_len P #[45] 3 #[r9.1] r9.2) r9.2).bind fun r10 =>
 (gif r7.1 true (sl P 45 r8.1 none (some r10.1) none r10.2) r10.2).bind fun r11 =>
 (gif r7.1 true (vl x1 r11.2) r11.2).bind fun r12 =>
 (gif r7.1 true (EV P 52 #[r11.1, r12.1, (.func (.func 53) #[] #[])] r12.2) r12.2).bind fun r13 =>
 (pickV r7.1 r13.1 (.bool false) r13.2).bind fun r14 =>
 (vl r14.1 r14.2).bind fun r15 =>
 some (r15.1, r15.2) := by kernel_rfl
theorem slices_ContainsFunc_Sess_fn (x0 x1 : Value) (w : World) : fnC P (EV P) 24 #[x0, x1] w =
 (vl (.bool false) w).bind fun r1 =>
 (vl x0 r1.2).bind fun r2 =>
 (vl x1 r2.2).bind fun r3 =>
 (EV P 54 #[r2.1, r3.1] r3.2).bind fun r4 =>
 (bo P .geq 3 (.tmp 7) (.const (.int .i64 0)) r4.1 (.int .i64 0) r4.2).bind fun r5 =>
 (vl r5.1 r5.2).bind fun r6 =>
 some (r6.1, r6.2) := by kernel_rfl
theorem impl_WorldOk_1_fn (x0 : Value) (w : World) : fnC P (EV P) 25 #[x0] w =
 (bx P 55 x0 w).bind fun r1 =>
 (vl (.bool false) r1.2).bind fun r2 =>
 (ld P 55 r1.1 r2.2).bind fun r3 =>
 (EV P 26 #[r3.1] r3.2).bind fun r4 =>
 (uo P .not r4.1 r4.2).bind fun r5 =>
 (vl r5.1 r5.2).bind fun r6 =>
 some (r6.1, r6.2) := by kernel_rfl
theorem impl_Sess_valid_fn (x0 : Value) (w : World) : fnC P (EV P) 26 #[x0] w =
 (bx P 55 x0 w).bind fun r1 =>
 (vl (.bool false) r1.2).bind fun r2 =>
 (fa P 55 r1.1 0 r2.2).bind fun r3 =>
 (ld P 3 r3.1 r3.2).bind fun r4 =>
 (EV P 45 #[r4.1] r4.2).bind fun r5 =>
 (uo P .not r5.1 r5.2).bind fun r6 =>
 (vl r6.1 r6.2).bind fun r7 =>
 (gif r7.1 false (fa P 55 r1.1 1 r7.2) r7.2).bind fun r8 =>
 (gif r7.1 false (ld P 51 r8.1 r8.2) r8.2).bind fun r9 =>
 (gif r7.1 false (EV P 55 #[r9.1] r9.2) r9.2).bind fun r10 =>
 (gif r7.1 false (uo P .not r10.1 r10.2) r10.2).bind fun r11 =>
 (pickV r7.1 (.bool true) r11.1 r11.2).bind fun r12 =>
 (vl r12.1 r12.2).bind fun r13 =>
 (gif r13.1 false (fa P 55 r1.1 2 r13.2) r13.2).bind fun r14 =>
 (gif r13.1 false (ld P 53 r14.1 r14.2) r14.2).bind fun r15 =>
 (gif r13.1 false (EV P 44 #[r15.1] r15.2) r15.2).bind fun r16 =>
 (gif r13.1 false (uo P .not r16.1 r16.2) r16.2).bind fun r17 =>
 (pickV r13.1 (.bool true) r17.1 r17.2).bind fun r18 =>
 cnd r18.1 (
 (vl (.bool false) r18.2).bind fun r19 =>
 some (r19.1, r19.2)) (
 (fa P 55 r1.1 2 r18.2).bind fun r20 =>
 (ld P 53 r20.1 r20.2).bind fun r21 =>
 (bd P 53 #[] r21.2).bind fun r22 =>
 (bo P .eql 53 (.tmp 20) (.tmp 21) r21.1 r22.1 r22.2).bind fun r23 =>
 cnd r23.1 (
 (fa P 55 r1.1 3 r23.2).bind fun r24 =>
 (ld P 3 r24.1 r24.2).bind fun r25 =>
 (bo P .eql 3 (.tmp 24) (.const (.int .i64 0)) r25.1 (.int .i64 0) r25.2).bind fun r26 =>
 (vl r26.1 r26.2).bind fun r27 =>
 some (r27.1, r27.2)) (
 (fa P 55 r1.1 2 r23.2).bind fun r28 =>
 (fa P 53 r28.1 1 r28.2).bind fun r29 =>
 (ld P 3 r29.1 r29.2).bind fun r30 =>
 (fa P 55 r1.1 0 r30.2).bind fun r31 =>
 (ld P 3 r31.1 r31.2).bind fun r32 =>
 (bo P .eql 3 (.tmp 28) (.tmp 30) r30.1 r32.1 r32.2).bind fun r33 =>
 (vl r33.1 r33.2).bind fun r34 =>
 (gif r34.1 true (fa P 55 r1.1 3 r34.2) r34.2).bind fun r35 =>
 (gif r34.1 true (ld P 3 r35.1 r35.2) r35.2).bind fun r36 =>
 (gif r34.1 true (EV P 43 #[r36.1] r36.2) r36.2).bind fun r37 =>
 (pickV r34.1 r37.1 (.bool false) r37.2).bind fun r38 =>
 (vl r38.1 r38.2).bind fun r39 =>
 some (r39.1, r39.2))) := by kernel_rfl
theorem slices_ContainsFunc_Frame_fn (x0 x1 : Value) (w : World) : fnC P (EV P) 27 #[x0, x1] w =
 (vl (.bool false) w).bind fun r1 =>
 (vl x0 r1.2).bind fun r2 =>
 (vl x1 r2.2).bind fun r3 =>
 (EV P 56 #[r2.1, r3.1] r3.2).bind fun r4 =>
 (bo P .geq 3 (.tmp 7) (.const (.int .i64 0)) r4.1 (.int .i64 0) r4.2).bind fun r5 =>
 (vl r5.1 r5.2).bind fun r6 =>
 some (r6.1, r6.2) := by kernel_rfl
noncomputable def impl_World_safe_l1 (e : Env) (w : World) : Option (Value × World) := exC P (EV P) 30 47 (.loop (cA (cA (cB (cA (cB (cB (bodyOf P 30)))))))) e w (kBlock 0 (kSeq P (EV P) 30 47 (cB (cB (cB (bodyOf P 30)))) (kFn P (fnOf P 30))))
noncomputable def impl_World_safe_l2 (e : Env) (w : World) : Option (Value × World) := exC P (EV P) 30 47 (.loop (cA (cA (cB (cB (cA (cA (cB (cB (cA (cA (cB (cA (cB (cB (bodyOf P 30)))))))))))))))) e w (kBlock 2 (kBlock 1 (kSeq P (EV P) 30 47 (cB (cB (cB (cA (cA (cB (cA (cB (cB (bodyOf P 30)))))))))) (kLoop P (EV P) 30 47 (cA (cA (cB (cA (cB (cB (bodyOf P 30))))))) (kBlock 0 (kSeq P (EV P) 30 47 (cB (cB (cB (bodyOf P 30)))) (kFn P (fnOf P 30))))))))
theorem impl_World_safe_l1_eq (e : Env) (w : World) : impl_World_safe_l1 e w =
 (bo P .lss 3 (.tmp 14) (.tmp 13) (e 14) (e 13) w).bind fun r1 =>
 cnd r1.1 (
 (ia P 25 (e 12) (e 14) r1.2).bind fun r2 =>
 (ld P 48 r2.1 r2.2).bind fun r3 =>
 (al P 48 r3.2).bind fun r4 =>
 (st P 48 r4.1 r3.1 r4.2).bind fun r5 =>
 (fa P 48 r4.1 2 r5.2).bind fun r6 =>
 (fa P 44 r6.1 0 r6.2).bind fun r7 =>
 (ld P 42 r7.1 r7.2).bind fun r8 =>
 (b_len P #[42] 3 #[r8.1] r8.2).bind fun r9 =>
 (vl (.int .i64 0) r9.2).bind fun r10 =>
 impl_World_safe_l2 (ups e [(15, r1.1), (16, r2.1), (17, r3.1), (5, r4.1), (18, r6.1), (19, r7.1), (20, r8.1), (21, r9.1), (22, r10.1)]) r10.2) (
 (vl (e 0) r1.2).bind fun r11 =>
 (nk P r11.1 r11.2).bind fun r12 =>
 (fa P 30 r12.1 3 r12.2).bind fun r13 =>
 (ld P 28 r13.1 r13.2).bind fun r14 =>
 (EV P 59 #[r14.1] r14.2).bind fun r15 =>
 (vl r15.1 r15.2).bind fun r16 =>
 (gif r16.1 true (vl (e 0) r16.2) r16.2).bind fun r17 =>
 (gif r16.1 true (nk P r17.1 r17.2) r17.2).bind fun r18 =>
 (gif r16.1 true (fa P 30 r18.1 1 r18.2) r18.2).bind fun r19 =>
 (gif r16.1 true (ld P 26 r19.1 r19.2) r19.2).bind fun r20 =>
 (gif r16.1 true (vl (.func (Go.Fn.func 60) #[] #[(e 3)]) r20.2) r20.2).bind fun r21 =>
 (gif r16.1 true (EV P 24 #[r20.1, r21.1] r21.2) r21.2).bind fun r22 =>
 (gif r16.1 true (uo P .not r22.1 r22.2) r22.2).bind fun r23 =>
 (pickV r16.1 r23.1 (.bool false) r23.2).bind fun r24 =>
 (vl r24.1 r24.2).bind fun r25 =>
 some (r25.1, r25.2)) := (exC_loop P (EV P) 30 47 (cA (cA (cB (cA (cB (cB (bodyOf P 30))))))) e w (kBlock 0 (kSeq P (EV P) 30 47 (cB (cB (cB (bodyOf P 30)))) (kFn P (fnOf P 30))))).trans (by kernel_rfl)
theorem impl_World_safe_l2_eq (e : Env) (w : World) : impl_World_safe_l2 e w =
 (bo P .lss 3 (.tmp 22) (.tmp 21) (e 22) (e 21) w).bind fun r1 =>
 cnd r1.1 (
 (ia P 42 (e 20) (e 22) r1.2).bind fun r2 =>
 (ld P 89 r2.1 r2.2).bind fun r3 =>
 (al P 89 r3.2).bind fun r4 =>
 (st P 89 r4.1 r3.1 r4.2).bind fun r5 =>
 (ld P 51 (e 3) (dw r5.2)).bind fun r7 =>
 ifP (r7.2 = (dw r5.2)) <|
 (fa P 89 r4.1 0 (dw r5.2)).bind fun r8 =>
 ifP (r8.2 = (dw r5.2)) <|
 (ld P 86 r8.1 (dw r5.2)).bind fun r9 =>
 ifP (r9.2 = (dw r5.2)) <|
 (EV P 49 #[r9.1] (dw r5.2)).bind fun r10 =>
 ifP (True ∧ True ∧ ld P 51 (e 3) r10.2 = some (r7.1, r10.2) ∧ True) <|
 (EV P 58 #[r7.1, r10.1] r10.2).bind fun r11 =>
 ifP (True ∧ True ∧ True ∧ True) <|
 (st P 51 (e 3) r11.1 r11.2).bind fun r12 =>
 ifP (True ∧ True ∧ True ∧ True) <|
 (bo P .add 3 (.tmp 22) (.const (.int .i64 1)) (e 22) (.int .i64 1) r12.2).bind fun r13 =>
 (vl r13.1 r13.2).bind fun r14 =>
 impl_World_safe_l2 (ups e [(23, r1.1), (24, r2.1), (25, r3.1), (7, r4.1), (26, r7.1), (27, r8.1), (28, r9.1), (29, r10.1), (30, r11.1), (31, r13.1), (22, r14.1)]) r14.2) (
 (bo P .add 3 (.tmp 14) (.const (.int .i64 1)) (e 14) (.int .i64 1) r1.2).bind fun r15 =>
 (vl r15.1 r15.2).bind fun r16 =>
 impl_World_safe_l1 (ups e [(23, r1.1), (32, r15.1), (14, r16.1)]) r16.2) := (exC_loop P (EV P) 30 47 (cA (cA (cB (cB (cA (cA (cB (cB (cA (cA (cB (cA (cB (cB (bodyOf P 30))))))))))))))) e w (kBlock 2 (kBlock 1 (kSeq P (EV P) 30 47 (cB (cB (cB (cA (cA (cB (cA (cB (cB (bodyOf P 30)))))))))) (kLoop P (EV P) 30 47 (cA (cA (cB (cA (cB (cB (bodyOf P 30))))))) (kBlock 0 (kSeq P (EV P) 30 47 (cB (cB (cB (bodyOf P 30)))) (kFn P (fnOf P 30))))))))).trans (by kernel_rfl)
theorem impl_World_safe_fn (x0 : Value) (w : World) : fnC P (EV P) 30 #[x0] w =
 (vl (.bool false) w).bind fun r1 =>
 (EV P 36 #[] r1.2).bind fun r2 =>
 (al P 51 r2.2).bind fun r3 =>
 (st P 51 r3.1 r2.1 r3.2).bind fun r4 =>
 (vl x0 r4.2).bind fun r5 =>
 (nk P r5.1 r5.2).bind fun r6 =>
 (fa P 30 r6.1 0 r6.2).bind fun r7 =>
 (ld P 25 r7.1 r7.2).bind fun r8 =>
 (b_len P #[25] 3 #[r8.1] r8.2).bind fun r9 =>
 (vl (.int .i64 0) r9.2).bind fun r10 =>
 impl_World_safe_l1 (ups (env0 #[x0]) [(2, r1.1), (8, r2.1), (3, r3.1), (9, r5.1), (10, r6.1), (11, r7.1), (12, r8.1), (13, r9.1), (14, r10.1)]) r10.2 := by kernel_rfl
noncomputable def impl_World_alike_l1 (e : Env) (w : World) : Option (Value × World) := exC P (EV P) 31 32 (.loop (cA (cA (cB (cA (cB (cB (bodyOf P 31)))))))) e w (kBlock 0 (kSeq P (EV P) 31 32 (cB (cB (cB (bodyOf P 31)))) (kFn P (fnOf P 31))))
theorem impl_World_alike_l1_eq (e : Env) (w : World) : impl_World_alike_l1 e w =
 (bo P .lss 3 (.tmp 22) (.tmp 21) (e 22) (e 21) w).bind fun r1 =>
 cnd r1.1 (
 (ia P 25 (e 20) (e 22) r1.2).bind fun r2 =>
 (ld P 48 r2.1 r2.2).bind fun r3 =>
 (al P 48 r3.2).bind fun r4 =>
 (st P 48 r4.1 r3.1 r4.2).bind fun r5 =>
 (fa P 48 r4.1 2 r5.2).bind fun r6 =>
 (fa P 44 r6.1 0 r6.2).bind fun r7 =>
 (ld P 42 r7.1 r7.2).bind fun r8 =>
 (vl (.func (Go.Fn.func 62) #[] #[(e 3)]) r8.2).bind fun r9 =>
 (EV P 61 #[r8.1, r9.1] r9.2).bind fun r10 =>
 cnd r10.1 (
 (vl (.bool false) r10.2).bind fun r11 =>
 some (r11.1, r11.2)) (
 (bo P .add 3 (.tmp 22) (.const (.int .i64 1)) (e 22) (.int .i64 1) r10.2).bind fun r12 =>
 (vl r12.1 r12.2).bind fun r13 =>
 impl_World_alike_l1 (ups e [(23, r1.1), (24, r2.1), (25, r3.1), (5, r4.1), (26, r6.1), (27, r7.1), (28, r8.1), (29, r9.1), (30, r10.1), (31, r12.1), (22, r13.1)]) r13.2)) (
 (vl (.bool true) r1.2).bind fun r14 =>
 some (r14.1, r14.2)) := (exC_loop P (EV P) 31 32 (cA (cA (cB (cA (cB (cB (bodyOf P 31))))))) e w (kBlock 0 (kSeq P (EV P) 31 32 (cB (cB (cB (bodyOf P 31)))) (kFn P (fnOf P 31))))).trans (by kernel_rfl)
theorem impl_World_alike_fn (x0 : Value) (w : World) : fnC P (EV P) 31 #[x0] w =
 (vl (.bool false) w).bind fun r1 =>
 (vl x0 r1.2).bind fun r2 =>
 (nk P r2.1 r2.2).bind fun r3 =>
 (fa P 30 r3.1 0 r3.2).bind fun r4 =>
 (ld P 25 r4.1 r4.2).bind fun r5 =>
 (ia P 25 r5.1 (.int .i64 0) r5.2).bind fun r6 =>
 (fa P 48 r6.1 2 r6.2).bind fun r7 =>
 (fa P 44 r7.1 0 r7.2).bind fun r8 =>
 (ld P 42 r8.1 r8.2).bind fun r9 =>
 (ia P 42 r9.1 (.int .i64 0) r9.2).bind fun r10 =>
 (fa P 89 r10.1 0 r10.2).bind fun r11 =>
 (ld P 86 r11.1 r11.2).bind fun r12 =>
 (al P 86 r12.2).bind fun r13 =>
 (st P 86 r13.1 r12.1 r13.2).bind fun r14 =>
 (vl x0 r14.2).bind fun r15 =>
 (nk P r15.1 r15.2).bind fun r16 =>
 (fa P 30 r16.1 0 r16.2).bind fun r17 =>
 (ld P 25 r17.1 r17.2).bind fun r18 =>
 (b_len P #[25] 3 #[r18.1] r18.2).bind fun r19 =>
 (vl (.int .i64 0) r19.2).bind fun r20 =>
 impl_World_alike_l1 (ups (env0 #[x0]) [(2, r1.1), (6, r2.1), (7, r3.1), (8, r4.1), (9, r5.1), (10, r6.1), (11, r7.1), (12, r8.1), (13, r9.1), (14, r10.1), (15, r11.1), (16, r12.1), (3, r13.1), (17, r15.1), (18, r16.1), (19, r17.1), (20, r18.1), (21, r19.1), (22, r20.1)]) r20.2 := by kernel_rfl
theorem spec_l20Rd_pick_fn (x0 x1 : Value) (w : World) : fnC P (EV P) 32 #[x0, x1] w =
 (vl (.int .i64 0) w).bind fun r1 =>
 (vl x0 r1.2).bind fun r2 =>
 (vl x0 r2.2).bind fun r3 =>
 (nk P r3.1 r3.2).bind fun r4 =>
 (fa P 72 r4.1 1 r4.2).bind fun r5 =>
 (ld P 3 r5.1 r5.2).bind fun r6 =>
 (bo P .add 3 (.tmp 11) (.const (.int .i64 1)) r6.1 (.int .i64 1) r6.2).bind fun r7 =>
 (nk P r2.1 r7.2).bind fun r8 =>
 (fa P 72 r8.1 1 r8.2).bind fun r9 =>
 (st P 3 r9.1 r7.1 r9.2).bind fun r10 =>
 (vl x1 r10.2).bind fun r11 =>
 (bo P .lss 3 (.tmp 15) (.const (.int .i64 1)) r11.1 (.int .i64 1) r11.2).bind fun r12 =>
 (vl r12.1 r12.2).bind fun r13 =>
 (gif r13.1 false (vl x0 r13.2) r13.2).bind fun r14 =>
 (gif r13.1 false (nk P r14.1 r14.2) r14.2).bind fun r15 =>
 (gif r13.1 false (fa P 72 r15.1 0 r15.2) r15.2).bind fun r16 =>
 (gif r13.1 false (ld P 22 r16.1 r16.2) r16.2).bind fun r17 =>
 (gif r13.1 false (b_len P #[22] 3 #[r17.1] r17.2) r17.2).bind fun r18 =>
 (gif r13.1 false (bo P .eql 3 (.tmp 22) (.const (.int .i64 0)) r18.1 (.int .i64 0) r18.2) r18.2).bind fun r19 =>
 (pickV r13.1 (.bool true) r19.1 r19.2).bind fun r20 =>
 cnd r20.1 (
 (vl (.int .i64 0) r20.2).bind fun r21 =>
 some (r21.1, r21.2)) (
 (vl x0 r20.2).bind fun r22 =>
 (nk P r22.1 r22.2).bind fun r23 =>
 (fa P 72 r23.1 1 r23.2).bind fun r24 =>
 (ld P 3 r24.1 r24.2).bind fun r25 =>
 (bo P .sub 3 (.tmp 28) (.const (.int .i64 1)) r25.1 (.int .i64 1) r25.2).bind fun r26 =>
 (vl r26.1 r26.2).bind fun r27 =>
 (vl r27.1 r27.2).bind fun r28 =>
 (vl x0 r28.2).bind fun r29 =>
 (nk P r29.1 r29.2).bind fun r30 =>
 (fa P 72 r30.1 0 r30.2).bind fun r31 =>
 (ld P 22 r31.1 r31.2).bind fun r32 =>
 (b_len P #[22] 3 #[r32.1] r32.2).bind fun r33 =>
 (bo P .lss 3 (.tmp 30) (.tmp 35) r28.1 r33.1 r33.2).bind fun r34 =>
 cnd r34.1 (
 (vl x0 r34.2).bind fun r35 =>
 (nk P r35.1 r35.2).bind fun r36 =>
 (fa P 72 r36.1 0 r36.2).bind fun r37 =>
 (ld P 22 r37.1 r37.2).bind fun r38 =>
 (vl r27.1 r38.2).bind fun r39 =>
 (ia P 22 r38.1 r39.1 r39.2).bind fun r40 =>
 (ld P 5 r40.1 r40.2).bind fun r41 =>
 (cv P 5 3 r41.1 r41.2).bind fun r42 =>
 (vl x1 r42.2).bind fun r43 =>
 (bo P .rem 3 (.tmp 44) (.tmp 45) r42.1 r43.1 r43.2).bind fun r44 =>
 (vl r44.1 r44.2).bind fun r45 =>
 some (r45.1, r45.2)) (
 (vl x0 (dw r34.2)).bind fun r47 =>
 ifP (r47.2 = (dw r34.2)) <|
 (nk P r47.1 (dw r34.2)).bind fun r48 =>
 ifP (r48.2 = (dw r34.2)) <|
 (fa P 72 r48.1 0 (dw r34.2)).bind fun r49 =>
 ifP (r49.2 = (dw r34.2)) <|
 (ld P 22 r49.1 (dw r34.2)).bind fun r50 =>
 ifP (r50.2 = (dw r34.2)) <|
 (vl r27.1 (dw r34.2)).bind fun r51 =>
 ifP (r51.2 = (dw r34.2)) <|
 (vl x0 (dw r34.2)).bind fun r52 =>
 ifP (r52.2 = (dw r34.2)) <|
 (nk P r52.1 (dw r34.2)).bind fun r53 =>
 ifP (r53.2 = (dw r34.2)) <|
 (fa P 72 r53.1 0 (dw r34.2)).bind fun r54 =>
 ifP (r54.2 = (dw r34.2)) <|
 (ld P 22 r54.1 (dw r34.2)).bind fun r55 =>
 ifP (r55.2 = (dw r34.2)) <|
 (b_len P #[22] 3 #[r55.1] (dw r34.2)).bind fun r56 =>
 ifP (r56.2 = (dw r34.2)) <|
 (bo P .rem 3 (.tmp 51) (.tmp 56) r51.1 r56.1 (dw r34.2)).bind fun r57 =>
 ifP (r57.2 = (dw r34.2)) <|
 (ia P 22 r50.1 r57.1 (dw r34.2)).bind fun r58 =>
 ifP (r58.2 = (dw r34.2)) <|
 (ld P 5 r58.1 (dw r34.2)).bind fun r59 =>
 ifP (r59.2 = (dw r34.2)) <|
 (cv P 5 3 r59.1 (dw r34.2)).bind fun r60 =>
 ifP (r60.2 = (dw r34.2)) <|
 (bo P .mul 3 (.tmp 60) (.const (.int .i64 131)) r60.1 (.int .i64 131) (dw r34.2)).bind fun r61 =>
 ifP (r61.2 = (dw r34.2)) <|
 (vl x0 (dw r34.2)).bind fun r62 =>
 ifP (r62.2 = (dw r34.2)) <|
 (nk P r62.1 (dw r34.2)).bind fun r63 =>
 ifP (r63.2 = (dw r34.2)) <|
 (fa P 72 r63.1 0 (dw r34.2)).bind fun r64 =>
 ifP (r64.2 = (dw r34.2)) <|
 (ld P 22 r64.1 (dw r34.2)).bind fun r65 =>
 ifP (r65.2 = (dw r34.2)) <|
 (vl r27.1 (dw r34.2)).bind fun r66 =>
 ifP (r66.2 = (dw r34.2)) <|
 (bo P .mul 3 (.tmp 66) (.const (.int .i64 7)) r66.1 (.int .i64 7) (dw r34.2)).bind fun r67 =>
 ifP (r67.2 = (dw r34.2)) <|
 (bo P .add 3 (.tmp 67) (.const (.int .i64 3)) r67.1 (.int .i64 3) (dw r34.2)).bind fun r68 =>
 ifP (r68.2 = (dw r34.2)) <|
 (vl x0 (dw r34.2)).bind fun r69 =>
 ifP (r69.2 = (dw r34.2)) <|
 (nk P r69.1 (dw r34.2)).bind fun r70 =>
 ifP (r70.2 = (dw r34.2)) <|
 (fa P 72 r70.1 0 (dw r34.2)).bind fun r71 =>
 ifP (r71.2 = (dw r34.2)) <|
 (ld P 22 r71.1 (dw r34.2)).bind fun r72 =>
 ifP (r72.2 = (dw r34.2)) <|
 (b_len P #[22] 3 #[r72.1] (dw r34.2)).bind fun r73 =>
 ifP (r73.2 = (dw r34.2)) <|
 (bo P .rem 3 (.tmp 68) (.tmp 73) r68.1 r73.1 (dw r34.2)).bind fun r74 =>
 ifP (r74.2 = (dw r34.2)) <|
 (ia P 22 r65.1 r74.1 (dw r34.2)).bind fun r75 =>
 ifP (r75.2 = (dw r34.2)) <|
 (ld P 5 r75.1 (dw r34.2)).bind fun r76 =>
 ifP (r76.2 = (dw r34.2)) <|
 (cv P 5 3 r76.1 (dw r34.2)).bind fun r77 =>
 ifP (r77.2 = (dw r34.2)) <|
 (bo P .mul 3 (.tmp 77) (.const (.int .i64 1117)) r77.1 (.int .i64 1117) (dw r34.2)).bind fun r78 =>
 ifP (r78.2 = (dw r34.2)) <|
 (bo P .add 3 (.tmp 61) (.tmp 78) r61.1 r78.1 (dw r34.2)).bind fun r79 =>
 ifP (r79.2 = (dw r34.2)) <|
 (vl r27.1 (dw r34.2)).bind fun r80 =>
 ifP (r80.2 = (dw r34.2)) <|
 (bo P .mul 3 (.tmp 80) (.const (.int .i64 29)) r80.1 (.int .i64 29) (dw r34.2)).bind fun r81 =>
 ifP (r81.2 = (dw r34.2)) <|
 (bo P .add 3 (.tmp 79) (.tmp 81) r79.1 r81.1 (dw r34.2)).bind fun r82 =>
 ifP (r82.2 = (dw r34.2)) <|
 (vl r27.1 (dw r34.2)).bind fun r83 =>
 ifP (r83.2 = (dw r34.2)) <|
 (vl x0 (dw r34.2)).bind fun r84 =>
 ifP (r84.2 = (dw r34.2)) <|
 (nk P r84.1 (dw r34.2)).bind fun r85 =>
 ifP (r85.2 = (dw r34.2)) <|
 (fa P 72 r85.1 0 (dw r34.2)).bind fun r86 =>
 ifP (r86.2 = (dw r34.2)) <|
 (ld P 22 r86.1 (dw r34.2)).bind fun r87 =>
 ifP (r87.2 = (dw r34.2)) <|
 (b_len P #[22] 3 #[r87.1] (dw r34.2)).bind fun r88 =>
 ifP (r88.2 = (dw r34.2)) <|
 (bo P .quo 3 (.tmp 83) (.tmp 88) r83.1 r88.1 (dw r34.2)).bind fun r89 =>
 ifP (r89.2 = (dw r34.2)) <|
 (bo P .mul 3 (.tmp 89) (.const (.int .i64 53)) r89.1 (.int .i64 53) (dw r34.2)).bind fun r90 =>
 ifP (r90.2 = (dw r34.2)) <|
 (bo P .add 3 (.tmp 82) (.tmp 90) r82.1 r90.1 (dw r34.2)).bind fun r91 =>
 ifP (r91.2 = (dw r34.2)) <|
 (vl r91.1 (dw r34.2)).bind fun r92 =>
 ifP (r92.2 = (dw r34.2)) <|
 (vl r92.1 (dw r34.2)).bind fun r93 =>
 (vl r92.1 r93.2).bind fun r94 =>
 (bo P .quo 3 (.tmp 93) (.const (.int .i64 64)) r94.1 (.int .i64 64) r94.2).bind fun r95 =>
 (bo P .xor 3 (.tmp 92) (.tmp 94) r93.1 r95.1 r95.2).bind fun r96 =>
 (vl r96.1 r96.2).bind fun r97 =>
 (vl r97.1 r97.2).bind fun r98 =>
 (vl x1 r98.2).bind fun r99 =>
 (bo P .rem 3 (.tmp 96) (.tmp 97) r98.1 r99.1 r99.2).bind fun r100 =>
 (vl r100.1 r100.2).bind fun r101 =>
 some (r101.1, r101.2))) := by kernel_rfl
theorem impl_nodesOk_fn (x0 : Value) (w : World) : fnC P (EV P) 33 #[x0] w =
 (vl (.bool false) w).bind fun r1 =>
 (vl x0 r1.2).bind fun r2 =>
 (EV P 34 #[r2.1, (.int .i64 1), (.int .i64 4)] r2.2).bind fun r3 =>
 (vl r3.1 r3.2).bind fun r4 =>
 some (r4.1, r4.2) := by kernel_rfl
theorem impl_within_fn (x0 x1 x2 : Value) (w : World) : fnC P (EV P) 34 #[x0, x1, x2] w =
 (vl (.bool false) w).bind fun r1 =>
 (vl x0 r1.2).bind fun r2 =>
 (vl x1 r2.2).bind fun r3 =>
 (bo P .geq 3 (.tmp 7) (.tmp 8) r2.1 r3.1 r3.2).bind fun r4 =>
 (vl r4.1 r4.2).bind fun r5 =>
 (gif r5.1 true (vl x0 r5.2) r5.2).bind fun r6 =>
 (gif r5.1 true (vl x2 r6.2) r6.2).bind fun r7 =>
 (gif r5.1 true (bo P .leq 3 (.tmp 11) (.tmp 12) r6.1 r7.1 r7.2) r7.2).bind fun r8 =>
 (pickV r5.1 r8.1 (.bool false) r8.2).bind fun r9 =>
 (vl r9.1 r9.2).bind fun r10 =>
 some (r10.1, r10.2) := by kernel_rfl
noncomputable def impl_PlaceNew_a1 (e : Env) (w : World) : Option (Value × World) := exC P (EV P) 35 19 (cA (cB (cB (bodyOf P 35)))) e w (kSeq P (EV P) 35 19 (cB (cB (cB (bodyOf P 35)))) (kFn P (fnOf P 35)))
noncomputable def impl_PlaceNew_j1 (e : Env) (w : World) : Option (Value × World) := exC P (EV P) 35 19 (cB (cB (cB (bodyOf P 35)))) e w (kFn P (fnOf P 35))
theorem impl_PlaceNew_a1_any (e : Env) (w : World) {Q : Value × World → Prop} (h :
 (Ret (vl (e 0) (dw w)) fun r1 => r1.2 = (dw w) ∧
 (Ret (vl (e 1) (dw w)) fun r2 => r2.2 = (dw w) ∧
 ((Ret (EV P 64 #[r2.1] (dw w)) fun r3 => (True) ∧
 ((Ret (ms P 46 (.int .i64 3) (.int .i64 3) r3.2) fun r4 => (True) ∧
 (Ret (bd P 48 #[(0, r1.1), (2, r3.1), (4, r4.1)] r4.2) fun r5 => r5.2 = r4.2 ∧
 ((Ret (st P 48 (e 4) r5.1 r4.2) fun r6 => (True ∧ True) ∧
 Ret (impl_PlaceNew_j1 (ups e [(14, r1.1), (15, r2.1), (16, r3.1), (17, r4.1), (18, r5.1)]) r6.2) Q)))))) ∧
 (Ret (ms P 46 (.int .i64 3) (.int .i64 3) (dw w)) fun r7 => (True) ∧
 ((Ret (EV P 64 #[r2.1] r7.2) fun r8 => (True) ∧
 (Ret (bd P 48 #[(0, r1.1), (2, r8.1), (4, r7.1)] r8.2) fun r9 => r9.2 = r8.2 ∧
 ((Ret (st P 48 (e 4) r9.1 r8.2) fun r10 => (True ∧ True) ∧
 Ret (impl_PlaceNew_j1 (ups e [(14, r1.1), (15, r2.1), (17, r7.1), (16, r8.1), (18, r9.1)]) r10.2) Q)))))))))) : Ret (impl_PlaceNew_a1 e w) Q := exC_any (id := 3) (ops := opsOf (cA (cB (cB (bodyOf P 35))))) (by kernel_rfl) (by kernel_rfl) (Eq.mpr (by kernel_rfl) h)
theorem impl_PlaceNew_j1_eq (e : Env) (w : World) : impl_PlaceNew_j1 e w =
 ((ld P 48 (e 4) w).bind fun r1 => ifP (r1.2 = w) (some r1.1)).bind fun v2 =>
 some (v2, w) := by kernel_rfl
theorem impl_PlaceNew_fn (x0 x1 : Value) (w : World) : fnC P (EV P) 35 #[x0, x1] w =
 (al P 48 w).bind fun r1 =>
 (vl x0 r1.2).bind fun r2 =>
 (EV P 45 #[r2.1] r2.2).bind fun r3 =>
 (uo P .not r3.1 r3.2).bind fun r4 =>
 (vl r4.1 r4.2).bind fun r5 =>
 (gif r5.1 false (vl x1 r5.2) r5.2).bind fun r6 =>
 (gif r5.1 false (EV P 33 #[r6.1] r6.2) r6.2).bind fun r7 =>
 (gif r5.1 false (uo P .not r7.1 r7.2) r7.2).bind fun r8 =>
 (pickV r5.1 (.bool true) r8.1 r8.2).bind fun r9 =>
 cnd r9.1 (
 (bd P 48 #[] r9.2).bind fun r10 =>
 (st P 48 r1.1 r10.1 r10.2).bind fun r11 =>
 ((ld P 48 r1.1 r11.2).bind fun r12 => ifP (r12.2 = r11.2) (some r12.1)).bind fun v13 =>
 some (v13, r11.2)) (
 impl_PlaceNew_a1 (ups (env0 #[x0, x1]) [(4, r1.1), (5, r2.1), (6, r3.1), (7, r4.1), (8, r5.1), (9, r6.1), (10, r7.1), (11, r8.1), (12, r9.1)]) r9.2) := by kernel_rfl
theorem impl_PastNone_fn (w : World) : fnC P (EV P) 36 #[] w =
 (al P 51 w).bind fun r1 =>
 (ms P 49 (.int .i64 4) (.int .i64 4) r1.2).bind fun r2 =>
 (bd P 51 #[(0, r2.1)] r2.2).bind fun r3 =>
 (st P 51 r1.1 r3.1 r3.2).bind fun r4 =>
 ((ld P 51 r1.1 r4.2).bind fun r5 => ifP (r5.2 = r4.2) (some r5.1)).bind fun v6 =>
 some (v6, r4.2) := by kernel_rfl
noncomputable def laws_cfChain_l1 (e : Env) (w : World) : Option (Value × World) := exC P (EV P) 37 50 (.loop (cA (cA (cB (cA (cB (cB (bodyOf P 37)))))))) e w (kBlock 0 (kSeq P (EV P) 37 50 (cB (cB (cB (bodyOf P 37)))) (kFn P (fnOf P 37))))
theorem laws_cfChain_l1_eq (e : Env) (w : World) : laws_cfChain_l1 e w =
 (vl (e 5) w).bind fun r1 =>
 (fa P 44 (e 2) 0 r1.2).bind fun r2 =>
 (ld P 42 r2.1 r2.2).bind fun r3 =>
 (b_len P #[42] 3 #[r3.1] r3.2).bind fun r4 =>
 (bo P .lss 3 (.tmp 13) (.tmp 16) r1.1 r4.1 r4.2).bind fun r5 =>
 cnd r5.1 (
 (fa P 44 (e 2) 0 (dw r5.2)).bind fun r7 =>
 ifP (r7.2 = (dw r5.2)) <|
 (ld P 42 r7.1 (dw r5.2)).bind fun r8 =>
 ifP (r8.2 = (dw r5.2)) <|
 (vl (e 5) (dw r5.2)).bind fun r9 =>
 ifP (r9.2 = (dw r5.2)) <|
 (ia P 42 r8.1 r9.1 (dw r5.2)).bind fun r10 =>
 ifP (r10.2 = (dw r5.2)) <|
 (fa P 89 r10.1 0 (dw r5.2)).bind fun r11 =>
 ifP (r11.2 = (dw r5.2)) <|
 (ld P 86 r11.1 (dw r5.2)).bind fun r12 =>
 ifP (r12.2 = (dw r5.2)) <|
 (fa P 44 (e 3) 0 (dw r5.2)).bind fun r13 =>
 ifP (r13.2 = (dw r5.2)) <|
 (ld P 42 r13.1 (dw r5.2)).bind fun r14 =>
 ifP (r14.2 = (dw r5.2)) <|
 (vl (e 5) (dw r5.2)).bind fun r15 =>
 ifP (r15.2 = (dw r5.2)) <|
 (ia P 42 r14.1 r15.1 (dw r5.2)).bind fun r16 =>
 ifP (r16.2 = (dw r5.2)) <|
 (fa P 89 r16.1 0 (dw r5.2)).bind fun r17 =>
 ifP (r17.2 = (dw r5.2)) <|
 (ld P 86 r17.1 (dw r5.2)).bind fun r18 =>
 ifP (r18.2 = (dw r5.2)) <|
 (EV P 65 #[r12.1, r18.1] (dw r5.2)).bind fun r19 =>
 ifP (True ∧ True ∧ True ∧ True ∧ True ∧ True ∧ True ∧ True ∧ True ∧ True ∧ True) <|
 (uo P .not r19.1 r19.2).bind fun r20 =>
 ifP (r20.2 = r19.2) <|
 (vl r20.1 r19.2).bind fun r21 =>
 ifP (r21.2 = r19.2) <|
 (gif r21.1 false (fa P 44 (e 2) 0 r19.2) r19.2).bind fun r22 =>
 ifP (r22.2 = r19.2) <|
 (gif r21.1 false (ld P 42 r22.1 r19.2) r19.2).bind fun r23 =>
 ifP (r23.2 = r19.2) <|
 (gif r21.1 false (vl (e 5) r19.2) r19.2).bind fun r24 =>
 ifP (r24.2 = r19.2) <|
 (gif r21.1 false (ia P 42 r23.1 r24.1 r19.2) r19.2).bind fun r25 =>
 ifP (r25.2 = r19.2) <|
 (gif r21.1 false (fa P 89 r25.1 1 r19.2) r19.2).bind fun r26 =>
 ifP (r26.2 = r19.2) <|
 (gif r21.1 false (ld P 45 r26.1 r19.2) r19.2).bind fun r27 =>
 ifP (r27.2 = r19.2) <|
 (gif r21.1 false (fa P 44 (e 3) 0 r19.2) r19.2).bind fun r28 =>
 ifP (r28.2 = r19.2) <|
 (gif r21.1 false (ld P 42 r28.1 r19.2) r19.2).bind fun r29 =>
 ifP (r29.2 = r19.2) <|
 (gif r21.1 false (vl (e 5) r19.2) r19.2).bind fun r30 =>
 ifP (r30.2 = r19.2) <|
 (gif r21.1 false (ia P 42 r29.1 r30.1 r19.2) r19.2).bind fun r31 =>
 ifP (r31.2 = r19.2) <|
 (gif r21.1 false (fa P 89 r31.1 1 r19.2) r19.2).bind fun r32 =>
 ifP (r32.2 = r19.2) <|
 (gif r21.1 false (ld P 45 r32.1 r19.2) r19.2).bind fun r33 =>
 ifP (r33.2 = r19.2) <|
 (gif r21.1 false (EV P 38 #[r27.1, r33.1] r19.2) r19.2).bind fun r34 =>
 ifP (True ∧ True ∧ True ∧ True ∧ True ∧ True ∧ True ∧ True ∧ True ∧ True ∧ True ∧ True ∧ True ∧ True ∧ True ∧ True ∧ True ∧ True ∧ True ∧ True ∧ True ∧ True) <|
 (gif r21.1 false (uo P .not r34.1 r34.2) r34.2).bind fun r35 =>
 ifP (r35.2 = r34.2) <|
 (pickV r21.1 (.bool true) r35.1 r34.2).bind fun r36 =>
 ifP (r36.2 = r34.2) <|
 cnd r36.1 (
 (vl (.bool false) r34.2).bind fun r37 =>
 some (r37.1, r37.2)) (
 (vl (e 5) r34.2).bind fun r38 =>
 (bo P .add 3 (.tmp 18) (.const (.int .i64 1)) r38.1 (.int .i64 1) r38.2).bind fun r39 =>
 (vl r39.1 r39.2).bind fun r40 =>
 laws_cfChain_l1 (ups e [(13, r1.1), (14, r2.1), (15, r3.1), (16, r4.1), (17, r5.1), (20, r7.1), (21, r8.1), (22, r9.1), (23, r10.1), (24, r11.1), (25, r12.1), (26, r13.1), (27, r14.1), (28, r15.1), (29, r16.1), (30, r17.1), (31, r18.1), (32, r19.1), (33, r20.1), (34, r21.1), (35, r22.1), (36, r23.1), (37, r24.1), (38, r25.1), (39, r26.1), (40, r27.1), (41, r28.1), (42, r29.1), (43, r30.1), (44, r31.1), (45, r32.1), (46, r33.1), (47, r34.1), (48, r35.1), (49, r36.1), (18, r38.1), (19, r39.1), (5, r40.1)]) r40.2)) (
 (vl (.bool true) r5.2).bind fun r41 =>
 some (r41.1, r41.2)) := (exC_loop P (EV P) 37 50 (cA (cA (cB (cA (cB (cB (bodyOf P 37))))))) e w (kBlock 0 (kSeq P (EV P) 37 50 (cB (cB (cB (bodyOf P 37)))) (kFn P (fnOf P 37))))).trans (by kernel_rfl)
theorem laws_cfChain_fn (x0 x1 : Value) (w : World) : fnC P (EV P) 37 #[x0, x1] w =
 (bx P 44 x0 w).bind fun r1 =>
 (bx P 44 x1 r1.2).bind fun r2 =>
 (vl (.bool false) r2.2).bind fun r3 =>
 (fa P 44 r1.1 0 r3.2).bind fun r4 =>
 (ld P 42 r4.1 r4.2).bind fun r5 =>
 (b_len P #[42] 3 #[r5.1] r5.2).bind fun r6 =>
 (fa P 44 r2.1 0 r6.2).bind fun r7 =>
 (ld P 42 r7.1 r7.2).bind fun r8 =>
 (b_len P #[42] 3 #[r8.1] r8.2).bind fun r9 =>
 (bo P .neq 3 (.tmp 8) (.tmp 11) r6.1 r9.1 r9.2).bind fun r10 =>
 cnd r10.1 (
 (vl (.bool false) r10.2).bind fun r11 =>
 some (r11.1, r11.2)) (
 (vl (.int .i64 0) r10.2).bind fun r12 =>
 laws_cfChain_l1 (ups (env0 #[x0, x1]) [(2, r1.1), (3, r2.1), (4, r3.1), (6, r4.1), (7, r5.1), (8, r6.1), (9, r7.1), (10, r8.1), (11, r9.1), (12, r10.1), (5, r12.1)]) r12.2) := by kernel_rfl
noncomputable def laws_cfVers_l1 (e : Env) (w : World) : Option (Value × World) := exC P (EV P) 38 27 (.loop (cA (cA (cB (cA (cB (cB (bodyOf P 38)))))))) e w (kBlock 0 (kSeq P (EV P) 38 27 (cB (cB (cB (bodyOf P 38)))) (kFn P (fnOf P 38))))
theorem laws_cfVers_l1_eq (e : Env) (w : World) : laws_cfVers_l1 e w =
 (vl (e 5) w).bind fun r1 =>
 (vl (e 0) r1.2).bind fun r2 =>
 (b_len P #[45] 3 #[r2.1] r2.2).bind fun r3 =>
 (bo P .lss 3 (.tmp 11) (.tmp 13) r1.1 r3.1 r3.2).bind fun r4 =>
 cnd r4.1 (
 (vl (e 0) (dw r4.2)).bind fun r6 =>
 ifP (r6.2 = (dw r4.2)) <|
 (vl (e 5) (dw r4.2)).bind fun r7 =>
 ifP (r7.2 = (dw r4.2)) <|
 (ia P 45 r6.1 r7.1 (dw r4.2)).bind fun r8 =>
 ifP (r8.2 = (dw r4.2)) <|
 (ld P 58 r8.1 (dw r4.2)).bind fun r9 =>
 ifP (r9.2 = (dw r4.2)) <|
 (vl (e 1) (dw r4.2)).bind fun r10 =>
 ifP (r10.2 = (dw r4.2)) <|
 (vl (e 5) (dw r4.2)).bind fun r11 =>
 ifP (r11.2 = (dw r4.2)) <|
 (ia P 45 r10.1 r11.1 (dw r4.2)).bind fun r12 =>
 ifP (r12.2 = (dw r4.2)) <|
 (ld P 58 r12.1 (dw r4.2)).bind fun r13 =>
 ifP (r13.2 = (dw r4.2)) <|
 (EV P 18 #[r9.1, r13.1] (dw r4.2)).bind fun r14 =>
 ifP (True ∧ True ∧ True ∧ True ∧ True) <|
 (uo P .not r14.1 r14.2).bind fun r15 =>
 ifP (r15.2 = r14.2) <|
 cnd r15.1 (
 (vl (.bool false) r14.2).bind fun r16 =>
 some (r16.1, r16.2)) (
 (vl (e 5) r14.2).bind fun r17 =>
 (bo P .add 3 (.tmp 15) (.const (.int .i64 1)) r17.1 (.int .i64 1) r17.2).bind fun r18 =>
 (vl r18.1 r18.2).bind fun r19 =>
 laws_cfVers_l1 (ups e [(11, r1.1), (12, r2.1), (13, r3.1), (14, r4.1), (17, r6.1), (18, r7.1), (19, r8.1), (20, r9.1), (21, r10.1), (22, r11.1), (23, r12.1), (24, r13.1), (25, r14.1), (26, r15.1), (15, r17.1), (16, r18.1), (5, r19.1)]) r19.2)) (
 (vl (.bool true) r4.2).bind fun r20 =>
 some (r20.1, r20.2)) := (exC_loop P (EV P) 38 27 (cA (cA (cB (cA (cB (cB (bodyOf P 38))))))) e w (kBlock 0 (kSeq P (EV P) 38 27 (cB (cB (cB (bodyOf P 38)))) (kFn P (fnOf P 38))))).trans (by kernel_rfl)
theorem laws_cfVers_fn (x0 x1 : Value) (w : World) : fnC P (EV P) 38 #[x0, x1] w =
 (vl (.bool false) w).bind fun r1 =>
 (vl x0 r1.2).bind fun r2 =>
 (b_len P #[45] 3 #[r2.1] r2.2).bind fun r3 =>
 (vl x1 r3.2).bind fun r4 =>
 (b_len P #[45] 3 #[r4.1] r4.2).bind fun r5 =>
 (bo P .neq 3 (.tmp 7) (.tmp 9) r3.1 r5.1 r5.2).bind fun r6 =>
 cnd r6.1 (
 (vl (.bool false) r6.2).bind fun r7 =>
 some (r7.1, r7.2)) (
 (vl (.int .i64 0) r6.2).bind fun r8 =>
 laws_cfVers_l1 (ups (env0 #[x0, x1]) [(4, r1.1), (6, r2.1), (7, r3.1), (8, r4.1), (9, r5.1), (10, r6.1), (5, r8.1)]) r8.2) := by kernel_rfl
noncomputable def spec_l4New_a1 (e : Env) (w : World) : Option (Value × World) := exC P (EV P) 39 10 (cA (cB (bodyOf P 39))) e w (kSeq P (EV P) 39 10 (cB (cB (bodyOf P 39))) (kFn P (fnOf P 39)))
noncomputable def spec_l4New_j1 (e : Env) (w : World) : Option (Value × World) := exC P (EV P) 39 10 (cB (cB (bodyOf P 39))) e w (kFn P (fnOf P 39))
theorem spec_l4New_a1_any (e : Env) (w : World) {Q : Value × World → Prop} (h :
 (Ret (vl (e 0) (dw w)) fun r1 => r1.2 = (dw w) ∧
 (Ret (vl (e 1) (dw w)) fun r2 => r2.2 = (dw w) ∧
 ((Ret (EV P 66 #[r2.1] (dw w)) fun r3 => (True) ∧
 ((Ret (ms P 46 (.int .i64 3) (.int .i64 3) r3.2) fun r4 => (True) ∧
 (Ret (bd P 48 #[(0, r1.1), (2, r3.1), (4, r4.1)] r4.2) fun r5 => r5.2 = r4.2 ∧
 ((Ret (st P 48 (e 4) r5.1 r4.2) fun r6 => (True ∧ True) ∧
 Ret (spec_l4New_j1 (ups e [(5, r1.1), (6, r2.1), (7, r3.1), (8, r4.1), (9, r5.1)]) r6.2) Q)))))) ∧
 (Ret (ms P 46 (.int .i64 3) (.int .i64 3) (dw w)) fun r7 => (True) ∧
 ((Ret (EV P 66 #[r2.1] r7.2) fun r8 => (True) ∧
 (Ret (bd P 48 #[(0, r1.1), (2, r8.1), (4, r7.1)] r8.2) fun r9 => r9.2 = r8.2 ∧
 ((Ret (st P 48 (e 4) r9.1 r8.2) fun r10 => (True ∧ True) ∧
 Ret (spec_l4New_j1 (ups e [(5, r1.1), (6, r2.1), (8, r7.1), (7, r8.1), (9, r9.1)]) r10.2) Q)))))))))) : Ret (spec_l4New_a1 e w) Q := exC_any (id := 1) (ops := opsOf (cA (cB (bodyOf P 39)))) (by kernel_rfl) (by kernel_rfl) (Eq.mpr (by kernel_rfl) h)
theorem spec_l4New_j1_eq (e : Env) (w : World) : spec_l4New_j1 e w =
 ((ld P 48 (e 4) w).bind fun r1 => ifP (r1.2 = w) (some r1.1)).bind fun v2 =>
 some (v2, w) := by kernel_rfl
theorem spec_l4New_fn (x0 x1 : Value) (w : World) : fnC P (EV P) 39 #[x0, x1] w =
 (al P 48 w).bind fun r1 =>
 spec_l4New_a1 (ups (env0 #[x0, x1]) [(4, r1.1)]) r1.2 := by kernel_rfl
theorem spec_l1None_fn (w : World) : fnC P (EV P) 40 #[] w =
 (al P 51 w).bind fun r1 =>
 (ms P 49 (.int .i64 4) (.int .i64 4) r1.2).bind fun r2 =>
 (bd P 51 #[(0, r2.1)] r2.2).bind fun r3 =>
 (st P 51 r1.1 r3.1 r3.2).bind fun r4 =>
 ((ld P 51 r1.1 r4.2).bind fun r5 => ifP (r5.2 = r4.2) (some r5.1)).bind fun v6 =>
 some (v6, r4.2) := by kernel_rfl
theorem slices_ContainsFunc_Done_fn (x0 x1 : Value) (w : World) : fnC P (EV P) 41 #[x0, x1] w =
 (vl (.bool false) w).bind fun r1 =>
 (vl x0 r1.2).bind fun r2 =>
 (vl x1 r2.2).bind fun r3 =>
 (EV P 67 #[r2.1, r3.1] r3.2).bind fun r4 =>
 (bo P .geq 3 (.tmp 7) (.const (.int .i64 0)) r4.1 (.int .i64 0) r4.2).bind fun r5 =>
 (vl r5.1 r5.2).bind fun r6 =>
 some (r6.1, r6.2) := by kernel_rfl
theorem impl_formed_1_fn (x0 : Value) (w : World) : fnC P (EV P) 42 #[x0] w =
 (bx P 78 x0 w).bind fun r1 =>
 (vl (.bool false) r1.2).bind fun r2 =>
 (fa P 78 r1.1 0 r2.2).bind fun r3 =>
 (ld P 3 r3.1 r3.2).bind fun r4 =>
 (EV P 34 #[r4.1, (.int .i64 0), (.int .i64 3)] r4.2).bind fun r5 =>
 (uo P .not r5.1 r5.2).bind fun r6 =>
 (vl r6.1 r6.2).bind fun r7 =>
 (gif r7.1 false (fa P 78 r1.1 1 r7.2) r7.2).bind fun r8 =>
 (gif r7.1 false (ld P 3 r8.1 r8.2) r8.2).bind fun r9 =>
 (gif r7.1 false (EV P 34 #[r9.1, (.int .i64 1), (.int .i64 3)] r9.2) r9.2).bind fun r10 =>
 (gif r7.1 false (uo P .not r10.1 r10.2) r10.2).bind fun r11 =>
 (pickV r7.1 (.bool true) r11.1 r11.2).bind fun r12 =>
 (vl r12.1 r12.2).bind fun r13 =>
 (gif r13.1 false (fa P 78 r1.1 2 r13.2) r13.2).bind fun r14 =>
 (gif r13.1 false (ld P 3 r14.1 r14.2) r14.2).bind fun r15 =>
 (gif r13.1 false (EV P 43 #[r15.1] r15.2) r15.2).bind fun r16 =>
 (gif r13.1 false (uo P .not r16.1 r16.2) r16.2).bind fun r17 =>
 (pickV r13.1 (.bool true) r17.1 r17.2).bind fun r18 =>
 (vl r18.1 r18.2).bind fun r19 =>
 (gif r19.1 false (fa P 78 r1.1 3 r19.2) r19.2).bind fun r20 =>
 (gif r19.1 false (ld P 53 r20.1 r20.2) r20.2).bind fun r21 =>
 (gif r19.1 false (EV P 44 #[r21.1] r21.2) r21.2).bind fun r22 =>
 (gif r19.1 false (uo P .not r22.1 r22.2) r22.2).bind fun r23 =>
 (pickV r19.1 (.bool true) r23.1 r23.2).bind fun r24 =>
 (vl r24.1 r24.2).bind fun r25 =>
 (gif r25.1 false (fa P 78 r1.1 3 r25.2) r25.2).bind fun r26 =>
 (gif r25.1 false (ld P 53 r26.1 r26.2) r26.2).bind fun r27 =>
 (gif r25.1 false (bd P 53 #[] r27.2) r27.2).bind fun r28 =>
 (gif r25.1 false (bo P .eql 53 (.tmp 27) (.tmp 28) r27.1 r28.1 r28.2) r28.2).bind fun r29 =>
 (gif r25.1 false (vl r29.1 r29.2) r29.2).bind fun r30 =>
 (gif r30.1 true (fa P 78 r1.1 1 r30.2) r30.2).bind fun r31 =>
 (gif r30.1 true (ld P 3 r31.1 r31.2) r31.2).bind fun r32 =>
 (gif r30.1 true (bo P .neq 3 (.tmp 32) (.const (.int .i64 2)) r32.1 (.int .i64 2) r32.2) r32.2).bind fun r33 =>
 (gif r25.1 false (pickV r30.1 r33.1 (.bool false) r33.2) r33.2).bind fun r34 =>
 (pickV r25.1 (.bool true) r34.1 r34.2).bind fun r35 =>
 (vl r35.1 r35.2).bind fun r36 =>
 some (r36.1, r36.2) := by kernel_rfl
theorem impl_keyOk_fn (x0 : Value) (w : World) : fnC P (EV P) 43 #[x0] w =
 (vl (.bool false) w).bind fun r1 =>
 (vl x0 r1.2).bind fun r2 =>
 (EV P 34 #[r2.1, (.int .i64 0), (.int .i64 3)] r2.2).bind fun r3 =>
 (vl r3.1 r3.2).bind fun r4 =>
 some (r4.1, r4.2) := by kernel_rfl
theorem impl_TagOk_fn (x0 : Value) (w : World) : fnC P (EV P) 44 #[x0] w =
 (bx P 53 x0 w).bind fun r1 =>
 (vl (.bool false) r1.2).bind fun r2 =>
 (ld P 53 r1.1 r2.2).bind fun r3 =>
 (bd P 53 #[] r3.2).bind fun r4 =>
 (bo P .eql 53 (.tmp 3) (.tmp 4) r3.1 r4.1 r4.2).bind fun r5 =>
 (vl r5.1 r5.2).bind fun r6 =>
 (gif r6.1 false (fa P 53 r1.1 0 r6.2) r6.2).bind fun r7 =>
 (gif r6.1 false (ld P 3 r7.1 r7.2) r7.2).bind fun r8 =>
 (gif r6.1 false (EV P 34 #[r8.1, (.int .i64 1), (.int .i64 999)] r8.2) r8.2).bind fun r9 =>
 (gif r6.1 false (vl r9.1 r9.2) r9.2).bind fun r10 =>
 (gif r10.1 true (fa P 53 r1.1 1 r10.2) r10.2).bind fun r11 =>
 (gif r10.1 true (ld P 3 r11.1 r11.2) r11.2).bind fun r12 =>
 (gif r10.1 true (EV P 45 #[r12.1] r12.2) r12.2).bind fun r13 =>
 (gif r6.1 false (pickV r10.1 r13.1 (.bool false) r13.2) r13.2).bind fun r14 =>
 (pickV r6.1 (.bool true) r14.1 r14.2).bind fun r15 =>
 (vl r15.1 r15.2).bind fun r16 =>
 some (r16.1, r16.2) := by kernel_rfl
theorem impl_placeOk_fn (x0 : Value) (w : World) : fnC P (EV P) 45 #[x0] w =
 (vl (.bool false) w).bind fun r1 =>
 (vl x0 r1.2).bind fun r2 =>
 (EV P 34 #[r2.1, (.int .i64 0), (.int .i64 2)] r2.2).bind fun r3 =>
 (vl r3.1 r3.2).bind fun r4 =>
 some (r4.1, r4.2) := by kernel_rfl
noncomputable def impl_ChainOk_l1 (e : Env) (w : World) : Option (Value × World) := exC P (EV P) 46 71 (.loop (cA (cA (cB (cA (cB (cB (bodyOf P 46)))))))) e w (kBlock 0 (kSeq P (EV P) 46 71 (cB (cB (cB (bodyOf P 46)))) (kFn P (fnOf P 46))))
noncomputable def impl_ChainOk_l2 (e : Env) (w : World) : Option (Value × World) := exC P (EV P) 46 71 (.loop (cA (cA (cB (cA (cB (cB (cB (bodyOf P 46))))))))) e w (kBlock 2 (kSeq P (EV P) 46 71 (cB (cB (cB (cB (bodyOf P 46))))) (kFn P (fnOf P 46))))
theorem impl_ChainOk_l1_eq (e : Env) (w : World) : impl_ChainOk_l1 e w =
 (bo P .lss 3 (.tmp 15) (.tmp 14) (e 15) (e 14) w).bind fun r1 =>
 cnd r1.1 (
 (ia P 42 (e 13) (e 15) r1.2).bind fun r2 =>
 (ld P 89 r2.1 r2.2).bind fun r3 =>
 (al P 89 r3.2).bind fun r4 =>
 (st P 89 r4.1 r3.1 r4.2).bind fun r5 =>
 (fa P 89 r4.1 0 r5.2).bind fun r6 =>
 (ld P 86 r6.1 r6.2).bind fun r7 =>
 (EV P 68 #[r7.1] r7.2).bind fun r8 =>
 (uo P .not r8.1 r8.2).bind fun r9 =>
 (vl r9.1 r9.2).bind fun r10 =>
 (gif r10.1 false (fa P 89 r4.1 1 r10.2) r10.2).bind fun r11 =>
 (gif r10.1 false (ld P 45 r11.1 r11.2) r11.2).bind fun r12 =>
 (gif r10.1 false (b_len P #[45] 3 #[r12.1] r12.2) r12.2).bind fun r13 =>
 (gif r10.1 false (bo P .gtr 3 (.tmp 26) (.const (.int .i64 6)) r13.1 (.int .i64 6) r13.2) r13.2).bind fun r14 =>
 (pickV r10.1 (.bool true) r14.1 r14.2).bind fun r15 =>
 (vl r15.1 r15.2).bind fun r16 =>
 (gif r16.1 false (fa P 89 r4.1 1 r16.2) r16.2).bind fun r17 =>
 (gif r16.1 false (ld P 45 r17.1 r17.2) r17.2).bind fun r18 =>
 (gif r16.1 false (EV P 69 #[r18.1, (.func (.func 70) #[] #[])] r18.2) r18.2).bind fun r19 =>
 (pickV r16.1 (.bool true) r19.1 r19.2).bind fun r20 =>
 cnd r20.1 (
 (vl (.bool false) r20.2).bind fun r21 =>
 some (r21.1, r21.2)) (
 (bo P .add 3 (.tmp 15) (.const (.int .i64 1)) (e 15) (.int .i64 1) r20.2).bind fun r22 =>
 (vl r22.1 r22.2).bind fun r23 =>
 impl_ChainOk_l1 (ups e [(16, r1.1), (17, r2.1), (18, r3.1), (4, r4.1), (19, r6.1), (20, r7.1), (21, r8.1), (22, r9.1), (23, r10.1), (24, r11.1), (25, r12.1), (26, r13.1), (27, r14.1), (28, r15.1), (29, r16.1), (30, r17.1), (31, r18.1), (32, r19.1), (33, r20.1), (34, r22.1), (15, r23.1)]) r23.2)) (
 (fa P 44 (e 1) 0 r1.2).bind fun r24 =>
 (ld P 42 r24.1 r24.2).bind fun r25 =>
 (b_len P #[42] 3 #[r25.1] r25.2).bind fun r26 =>
 (vl (.int .i64 0) r26.2).bind fun r27 =>
 impl_ChainOk_l2 (ups e [(16, r1.1), (35, r24.1), (36, r25.1), (37, r26.1), (38, r27.1)]) r27.2) := (exC_loop P (EV P) 46 71 (cA (cA (cB (cA (cB (cB (bodyOf P 46))))))) e w (kBlock 0 (kSeq P (EV P) 46 71 (cB (cB (cB (bodyOf P 46)))) (kFn P (fnOf P 46))))).trans (by kernel_rfl)
theorem impl_ChainOk_l2_eq (e : Env) (w : World) : impl_ChainOk_l2 e w =
 (bo P .lss 3 (.tmp 38) (.tmp 37) (e 38) (e 37) w).bind fun r1 =>
 cnd r1.1 (
 (vl (e 38) r1.2).bind fun r2 =>
 (ia P 42 (e 36) (e 38) r2.2).bind fun r3 =>
 (ld P 89 r3.1 r3.2).bind fun r4 =>
 (al P 89 r4.2).bind fun r5 =>
 (vl r2.1 r5.2).bind fun r6 =>
 (st P 89 r5.1 r4.1 r6.2).bind fun r7 =>
 (ld P 44 (e 1) (dw r7.2)).bind fun r9 =>
 ifP (r9.2 = (dw r7.2)) <|
 (vl r6.1 (dw r7.2)).bind fun r10 =>
 ifP (r10.2 = (dw r7.2)) <|
 (EV P 72 #[r9.1, r10.1] (dw r7.2)).bind fun r11 =>
 ifP (True ∧ True) <|
 (vl r11.1 r11.2).bind fun r12 =>
 ifP (r12.2 = r11.2) <|
 (gif r12.1 true (fa P 89 r5.1 1 r11.2) r11.2).bind fun r13 =>
 ifP (r13.2 = r11.2) <|
 (gif r12.1 true (ld P 45 r13.1 r11.2) r11.2).bind fun r14 =>
 ifP (r14.2 = r11.2) <|
 (gif r12.1 true (b_len P #[45] 3 #[r14.1] r11.2) r11.2).bind fun r15 =>
 ifP (r15.2 = r11.2) <|
 (gif r12.1 true (bo P .gtr 3 (.tmp 49) (.const (.int .i64 0)) r15.1 (.int .i64 0) r11.2) r11.2).bind fun r16 =>
 ifP (r16.2 = r11.2) <|
 (pickV r12.1 r16.1 (.bool false) r11.2).bind fun r17 =>
 ifP (r17.2 = r11.2) <|
 (vl r17.1 r11.2).bind fun r18 =>
 ifP (r18.2 = r11.2) <|
 (gif r18.1 false (ld P 44 (e 1) r11.2) r11.2).bind fun r19 =>
 ifP (r19.2 = r11.2) <|
 (gif r18.1 false (vl r6.1 r11.2) r11.2).bind fun r20 =>
 ifP (r20.2 = r11.2) <|
 (gif r18.1 false (EV P 72 #[r19.1, r20.1] r11.2) r11.2).bind fun r21 =>
 ifP (True ∧ True ∧ True ∧ True ∧ True ∧ True ∧ True) <|
 (gif r18.1 false (uo P .not r21.1 r21.2) r21.2).bind fun r22 =>
 ifP (r22.2 = r21.2) <|
 (gif r18.1 false (vl r22.1 r21.2) r21.2).bind fun r23 =>
 ifP (r23.2 = r21.2) <|
 (gif r23.1 true (ld P 89 r5.1 r21.2) r21.2).bind fun r24 =>
 ifP (r24.2 = r21.2) <|
 (gif r23.1 true (fa P 44 (e 1) 0 r21.2) r21.2).bind fun r25 =>
 ifP (r25.2 = r21.2) <|
 (gif r23.1 true (ld P 42 r25.1 r21.2) r21.2).bind fun r26 =>
 ifP (r26.2 = r21.2) <|
 (gif r23.1 true (vl r6.1 r21.2) r21.2).bind fun r27 =>
 ifP (r27.2 = r21.2) <|
 (gif r23.1 true (bo P .add 3 (.tmp 61) (.const (.int .i64 1)) r27.1 (.int .i64 1) r21.2) r21.2).bind fun r28 =>
 ifP (r28.2 = r21.2) <|
 (gif r23.1 true (ia P 42 r26.1 r28.1 r21.2) r21.2).bind fun r29 =>
 ifP (r29.2 = r21.2) <|
 (gif r23.1 true (fa P 89 r29.1 0 r21.2) r21.2).bind fun r30 =>
 ifP (r30.2 = r21.2) <|
 (gif r23.1 true (ld P 86 r30.1 r21.2) r21.2).bind fun r31 =>
 ifP (r31.2 = r21.2) <|
 (gif r23.1 true (EV P 73 #[r24.1, r31.1] r21.2) r21.2).bind fun r32 =>
 ifP (True ∧ True ∧ True ∧ True ∧ True ∧ True ∧ True ∧ True ∧ True ∧ True ∧ True ∧ True ∧ True ∧ True ∧ True) <|
 (gif r23.1 true (uo P .not r32.1 r32.2) r32.2).bind fun r33 =>
 ifP (r33.2 = r32.2) <|
 (gif r18.1 false (pickV r23.1 r33.1 (.bool false) r32.2) r32.2).bind fun r34 =>
 ifP (r34.2 = r32.2) <|
 (pickV r18.1 (.bool true) r34.1 r32.2).bind fun r35 =>
 ifP (r35.2 = r32.2) <|
 cnd r35.1 (
 (vl (.bool false) r32.2).bind fun r36 =>
 some (r36.1, r36.2)) (
 (bo P .add 3 (.tmp 38) (.const (.int .i64 1)) (e 38) (.int .i64 1) r32.2).bind fun r37 =>
 (vl r37.1 r37.2).bind fun r38 =>
 impl_ChainOk_l2 (ups e [(39, r1.1), (40, r2.1), (41, r3.1), (42, r4.1), (6, r5.1), (5, r6.1), (43, r9.1), (44, r10.1), (45, r11.1), (46, r12.1), (47, r13.1), (48, r14.1), (49, r15.1), (50, r16.1), (51, r17.1), (52, r18.1), (53, r19.1), (54, r20.1), (55, r21.1), (56, r22.1), (57, r23.1), (58, r24.1), (59, r25.1), (60, r26.1), (61, r27.1), (62, r28.1), (63, r29.1), (64, r30.1), (65, r31.1), (66, r32.1), (67, r33.1), (68, r34.1), (69, r35.1), (70, r37.1), (38, r38.1)]) r38.2)) (
 (vl (.bool true) r1.2).bind fun r39 =>
 some (r39.1, r39.2)) := (exC_loop P (EV P) 46 71 (cA (cA (cB (cA (cB (cB (cB (bodyOf P 46)))))))) e w (kBlock 2 (kSeq P (EV P) 46 71 (cB (cB (cB (cB (bodyOf P 46))))) (kFn P (fnOf P 46))))).trans (by kernel_rfl)
theorem impl_ChainOk_fn (x0 : Value) (w : World) : fnC P (EV P) 46 #[x0] w =
 (bx P 44 x0 w).bind fun r1 =>
 (vl (.bool false) r1.2).bind fun r2 =>
 (fa P 44 r1.1 0 r2.2).bind fun r3 =>
 (ld P 42 r3.1 r3.2).bind fun r4 =>
 (b_len P #[42] 3 #[r4.1] r4.2).bind fun r5 =>
 (EV P 33 #[r5.1] r5.2).bind fun r6 =>
 (uo P .not r6.1 r6.2).bind fun r7 =>
 cnd r7.1 (
 (vl (.bool false) r7.2).bind fun r8 =>
 some (r8.1, r8.2)) (
 (fa P 44 r1.1 0 r7.2).bind fun r9 =>
 (ld P 42 r9.1 r9.2).bind fun r10 =>
 (b_len P #[42] 3 #[r10.1] r10.2).bind fun r11 =>
 (vl (.int .i64 0) r11.2).bind fun r12 =>
 impl_ChainOk_l1 (ups (env0 #[x0]) [(1, r1.1), (2, r2.1), (7, r3.1), (8, r4.1), (9, r5.1), (10, r6.1), (11, r7.1), (12, r9.1), (13, r10.1), (14, r11.1), (15, r12.1)]) r12.2) := by kernel_rfl
noncomputable def impl_logOk_l1 (e : Env) (w : World) : Option (Value × World) := exC P (EV P) 47 36 (.loop (cA (cA (cB (cA (cB (bodyOf P 47))))))) e w (kBlock 0 (kSeq P (EV P) 47 36 (cB (cB (bodyOf P 47))) (kFn P (fnOf P 47))))
theorem impl_logOk_l1_eq (e : Env) (w : World) : impl_logOk_l1 e w =
 (bo P .lss 3 (.tmp 9) (.tmp 8) (e 9) (e 8) w).bind fun r1 =>
 cnd r1.1 (
 (vl (e 9) r1.2).bind fun r2 =>
 (ia P 45 (e 7) (e 9) r2.2).bind fun r3 =>
 (ld P 58 r3.1 r3.2).bind fun r4 =>
 (al P 58 r4.2).bind fun r5 =>
 (vl r2.1 r5.2).bind fun r6 =>
 (st P 58 r5.1 r4.1 r6.2).bind fun r7 =>
 (ld P 58 r5.1 (dw r7.2)).bind fun r9 =>
 ifP (r9.2 = (dw r7.2)) <|
 (EV P 71 #[r9.1] (dw r7.2)).bind fun r10 =>
 ifP (True ∧ True) <|
 (uo P .not r10.1 r10.2).bind fun r11 =>
 ifP (r11.2 = r10.2) <|
 (vl r11.1 r10.2).bind fun r12 =>
 ifP (r12.2 = r10.2) <|
 (gif r12.1 false (fa P 58 r5.1 1 r10.2) r10.2).bind fun r13 =>
 ifP (r13.2 = r10.2) <|
 (gif r12.1 false (fa P 53 r13.1 1 r10.2) r10.2).bind fun r14 =>
 ifP (r14.2 = r10.2) <|
 (gif r12.1 false (ld P 3 r14.1 r10.2) r10.2).bind fun r15 =>
 ifP (r15.2 = r10.2) <|
 (gif r12.1 false (vl (e 1) r10.2) r10.2).bind fun r16 =>
 ifP (r16.2 = r10.2) <|
 (gif r12.1 false (bo P .neq 3 (.tmp 20) (.tmp 21) r15.1 r16.1 r10.2) r10.2).bind fun r17 =>
 ifP (r17.2 = r10.2) <|
 (pickV r12.1 (.bool true) r17.1 r10.2).bind fun r18 =>
 ifP (r18.2 = r10.2) <|
 (vl r18.1 r10.2).bind fun r19 =>
 ifP (r19.2 = r10.2) <|
 (gif r19.1 false (vl (e 0) r10.2) r10.2).bind fun r20 =>
 ifP (r20.2 = r10.2) <|
 (gif r19.1 false (vl r6.1 r10.2) r10.2).bind fun r21 =>
 ifP (r21.2 = r10.2) <|
 (gif r19.1 false (sl P 45 r20.1 none (some r21.1) none r10.2) r10.2).bind fun r22 =>
 ifP (r22.2 = r10.2) <|
 (gif r19.1 false (fa P 58 r5.1 1 r10.2) r10.2).bind fun r23 =>
 ifP (r23.2 = r10.2) <|
 (gif r19.1 false (ld P 53 r23.1 r10.2) r10.2).bind fun r24 =>
 ifP (r24.2 = r10.2) <|
 (gif r19.1 false (EV P 74 #[r22.1, r24.1] r10.2) r10.2).bind fun r25 =>
 ifP (True ∧ True ∧ True ∧ True ∧ True ∧ True ∧ True ∧ True ∧ True ∧ True) <|
 (pickV r19.1 (.bool true) r25.1 r25.2).bind fun r26 =>
 ifP (r26.2 = r25.2) <|
 cnd r26.1 (
 (vl (.bool false) r25.2).bind fun r27 =>
 some (r27.1, r27.2)) (
 (bo P .add 3 (.tmp 9) (.const (.int .i64 1)) (e 9) (.int .i64 1) r25.2).bind fun r28 =>
 (vl r28.1 r28.2).bind fun r29 =>
 impl_logOk_l1 (ups e [(10, r1.1), (11, r2.1), (12, r3.1), (13, r4.1), (6, r5.1), (5, r6.1), (14, r9.1), (15, r10.1), (16, r11.1), (17, r12.1), (18, r13.1), (19, r14.1), (20, r15.1), (21, r16.1), (22, r17.1), (23, r18.1), (24, r19.1), (25, r20.1), (26, r21.1), (27, r22.1), (28, r23.1), (29, r24.1), (30, r25.1), (31, r26.1), (32, r28.1), (9, r29.1)]) r29.2)) (
 (vl (e 0) r1.2).bind fun r30 =>
 (b_len P #[45] 3 #[r30.1] r30.2).bind fun r31 =>
 (bo P .leq 3 (.tmp 34) (.const (.int .i64 60)) r31.1 (.int .i64 60) r31.2).bind fun r32 =>
 (vl r32.1 r32.2).bind fun r33 =>
 some (r33.1, r33.2)) := (exC_loop P (EV P) 47 36 (cA (cA (cB (cA (cB (bodyOf P 47)))))) e w (kBlock 0 (kSeq P (EV P) 47 36 (cB (cB (bodyOf P 47))) (kFn P (fnOf P 47))))).trans (by kernel_rfl)
theorem impl_logOk_fn (x0 x1 : Value) (w : World) : fnC P (EV P) 47 #[x0, x1] w =
 (vl (.bool false) w).bind fun r1 =>
 (vl x0 r1.2).bind fun r2 =>
 (b_len P #[45] 3 #[r2.1] r2.2).bind fun r3 =>
 (vl (.int .i64 0) r3.2).bind fun r4 =>
 impl_logOk_l1 (ups (env0 #[x0, x1]) [(4, r1.1), (7, r2.1), (8, r3.1), (9, r4.1)]) r4.2 := by kernel_rfl
theorem impl_Chain_tail_fn (x0 : Value) (w : World) : fnC P (EV P) 48 #[x0] w =
 (al P 86 w).bind fun r1 =>
 (vl x0 (dw r1.2)).bind fun r3 =>
 ifP (r3.2 = (dw r1.2)) <|
 (nk P r3.1 (dw r1.2)).bind fun r4 =>
 ifP (r4.2 = (dw r1.2)) <|
 (fa P 44 r4.1 0 (dw r1.2)).bind fun r5 =>
 ifP (r5.2 = (dw r1.2)) <|
 (ld P 42 r5.1 (dw r1.2)).bind fun r6 =>
 ifP (r6.2 = (dw r1.2)) <|
 (vl x0 (dw r1.2)).bind fun r7 =>
 ifP (r7.2 = (dw r1.2)) <|
 (nk P r7.1 (dw r1.2)).bind fun r8 =>
 ifP (r8.2 = (dw r1.2)) <|
 (fa P 44 r8.1 0 (dw r1.2)).bind fun r9 =>
 ifP (r9.2 = (dw r1.2)) <|
 (ld P 42 r9.1 (dw r1.2)).bind fun r10 =>
 ifP (r10.2 = (dw r1.2)) <|
 (b_len P #[42] 3 #[r10.1] (dw r1.2)).bind fun r11 =>
 ifP (r11.2 = (dw r1.2)) <|
 (bo P .sub 3 (.tmp 11) (.const (.int .i64 1)) r11.1 (.int .i64 1) (dw r1.2)).bind fun r12 =>
 ifP (r12.2 = (dw r1.2)) <|
 (ia P 42 r6.1 r12.1 (dw r1.2)).bind fun r13 =>
 ifP (r13.2 = (dw r1.2)) <|
 (fa P 89 r13.1 0 (dw r1.2)).bind fun r14 =>
 ifP (r14.2 = (dw r1.2)) <|
 (ld P 86 r14.1 (dw r1.2)).bind fun r15 =>
 ifP (r15.2 = (dw r1.2)) <|
 (st P 86 r1.1 r15.1 (dw r1.2)).bind fun r16 =>
 ifP (True ∧ True ∧ True ∧ True ∧ True ∧ True ∧ True ∧ True ∧ True ∧ True ∧ True ∧ True) <|
 ((ld P 86 r1.1 r16.2).bind fun r17 => ifP (r17.2 = r16.2) (some r17.1)).bind fun v18 =>
 some (v18, r16.2) := by kernel_rfl
noncomputable def impl_Store_tags_l1 (e : Env) (w : World) : Option (Value × World) := exC P (EV P) 49 23 (.loop (cA (cA (cB (cA (cB (cB (bodyOf P 49)))))))) e w (kBlock 0 (kSeq P (EV P) 49 23 (cB (cB (cB (bodyOf P 49)))) (kFn P (fnOf P 49))))
theorem impl_Store_tags_l1_eq (e : Env) (w : World) : impl_Store_tags_l1 e w =
 (bo P .lss 3 (.tmp 10) (.tmp 9) (e 10) (e 9) w).bind fun r1 =>
 cnd r1.1 (
 (vl (e 10) r1.2).bind fun r2 =>
 (ia P 45 (e 8) (e 10) r2.2).bind fun r3 =>
 (ld P 58 r3.1 r3.2).bind fun r4 =>
 (al P 58 r4.2).bind fun r5 =>
 (vl r2.1 r5.2).bind fun r6 =>
 (st P 58 r5.1 r4.1 r6.2).bind fun r7 =>
 (fa P 51 (e 3) 0 r7.2).bind fun r8 =>
 (ld P 49 r8.1 r8.2).bind fun r9 =>
 (vl r6.1 r9.2).bind fun r10 =>
 (fa P 58 r5.1 1 r10.2).bind fun r11 =>
 (ld P 53 r11.1 r11.2).bind fun r12 =>
 (ia P 49 r9.1 r10.1 r12.2).bind fun r13 =>
 (st P 53 r13.1 r12.1 r13.2).bind fun r14 =>
 (bo P .add 3 (.tmp 10) (.const (.int .i64 1)) (e 10) (.int .i64 1) r14.2).bind fun r15 =>
 (vl r15.1 r15.2).bind fun r16 =>
 impl_Store_tags_l1 (ups e [(11, r1.1), (12, r2.1), (13, r3.1), (14, r4.1), (5, r5.1), (4, r6.1), (15, r8.1), (16, r9.1), (17, r10.1), (18, r11.1), (19, r12.1), (20, r13.1), (21, r15.1), (10, r16.1)]) r16.2) (
 (ld P 51 (e 3) r1.2).bind fun r17 =>
 (st P 51 (e 2) r17.1 r17.2).bind fun r18 =>
 ((ld P 51 (e 2) r18.2).bind fun r19 => ifP (r19.2 = r18.2) (some r19.1)).bind fun v20 =>
 some (v20, r18.2)) := (exC_loop P (EV P) 49 23 (cA (cA (cB (cA (cB (cB (bodyOf P 49))))))) e w (kBlock 0 (kSeq P (EV P) 49 23 (cB (cB (cB (bodyOf P 49)))) (kFn P (fnOf P 49))))).trans (by kernel_rfl)
theorem impl_Store_tags_fn (x0 : Value) (w : World) : fnC P (EV P) 49 #[x0] w =
 (bx P 86 x0 w).bind fun r1 =>
 (al P 51 r1.2).bind fun r2 =>
 (EV P 36 #[] r2.2).bind fun r3 =>
 (al P 51 r3.2).bind fun r4 =>
 (st P 51 r4.1 r3.1 r4.2).bind fun r5 =>
 (fa P 86 r1.1 0 r5.2).bind fun r6 =>
 (ld P 45 r6.1 r6.2).bind fun r7 =>
 (b_len P #[45] 3 #[r7.1] r7.2).bind fun r8 =>
 (vl (.int .i64 0) r8.2).bind fun r9 =>
 impl_Store_tags_l1 (ups (env0 #[x0]) [(1, r1.1), (2, r2.1), (6, r3.1), (3, r4.1), (7, r6.1), (8, r7.1), (9, r8.1), (10, r9.1)]) r9.2 := by kernel_rfl
noncomputable def slices_Concat_Ver_l1 (e : Env) (w : World) : Option (Value × World) := exC P (EV P) 50 36 (.loop (cA (cA (cB (cA (cB (cB (bodyOf P 50)))))))) e w (kBlock 0 (kSeq P (EV P) 50 36 (cB (cB (cB (bodyOf P 50)))) (kFn P (fnOf P 50))))
noncomputable def slices_Concat_Ver_j1 (e : Env) (w : World) : Option (Value × World) := exC P (EV P) 50 36 (cB (cB (cB (cA (cA (cB (cA (cB (cB (bodyOf P 50)))))))))) e w (kLoop P (EV P) 50 36 (cA (cA (cB (cA (cB (cB (bodyOf P 50))))))) (kBlock 0 (kSeq P (EV P) 50 36 (cB (cB (cB (bodyOf P 50)))) (kFn P (fnOf P 50)))))
noncomputable def slices_Concat_Ver_l2 (e : Env) (w : World) : Option (Value × World) := exC P (EV P) 50 36 (.loop (cA (cA (cB (cA (cB (cB (cB (cB (bodyOf P 50)))))))))) e w (kBlock 2 (kSeq P (EV P) 50 36 (cB (cB (cB (cB (cB (bodyOf P 50)))))) (kFn P (fnOf P 50))))
theorem slices_Concat_Ver_l1_eq (e : Env) (w : World) : slices_Concat_Ver_l1 e w =
 (bo P .lss 3 (.tmp 11) (.tmp 10) (e 11) (e 10) w).bind fun r1 =>
 cnd r1.1 (
 (ia P 46 (e 9) (e 11) r1.2).bind fun r2 =>
 (ld P 45 r2.1 r2.2).bind fun r3 =>
 (vl r3.1 r3.2).bind fun r4 =>
 (vl (e 3) r4.2).bind fun r5 =>
 (vl r4.1 r5.2).bind fun r6 =>
 (b_len P #[45] 3 #[r6.1] r6.2).bind fun r7 =>
 (bo P .add 3 (.tmp 15) (.tmp 17) r5.1 r7.1 r7.2).bind fun r8 =>
 (vl r8.1 r8.2).bind fun r9 =>
 (vl r9.1 r9.2).bind fun r10 =>
 (bo P .lss 3 (.tmp 19) (.const (.int .i64 0)) r10.1 (.int .i64 0) r10.2).bind fun r11 =>
 cnd r11.1 (
 (mi P 9 (Go.Value.string { data := #[108, 101, 110, 32, 111, 117, 116, 32, 111, 102, 32, 114, 97, 110, 103, 101] }) r11.2).bind fun r12 =>
 ((none : Option (Value × World))).bind fun r13 =>
 slices_Concat_Ver_j1 (ups e [(12, r1.1), (13, r2.1), (14, r3.1), (5, r4.1), (15, r5.1), (16, r6.1), (17, r7.1), (18, r8.1), (3, r9.1), (19, r10.1), (20, r11.1), (21, r12.1)]) r13.2) (
 slices_Concat_Ver_j1 (ups e [(12, r1.1), (13, r2.1), (14, r3.1), (5, r4.1), (15, r5.1), (16, r6.1), (17, r7.1), (18, r8.1), (3, r9.1), (19, r10.1), (20, r11.1)]) r11.2)) (
 (vl (e 3) r1.2).bind fun r14 =>
 (EV P 75 #[(Go.Value.slice none 0 0), r14.1] r14.2).bind fun r15 =>
 (vl r15.1 r15.2).bind fun r16 =>
 (vl (e 0) r16.2).bind fun r17 =>
 (b_len P #[46] 3 #[r17.1] r17.2).bind fun r18 =>
 (vl (.int .i64 0) r18.2).bind fun r19 =>
 slices_Concat_Ver_l2 (ups e [(12, r1.1), (23, r14.1), (24, r15.1), (6, r16.1), (25, r17.1), (26, r18.1), (27, r19.1)]) r19.2) := (exC_loop P (EV P) 50 36 (cA (cA (cB (cA (cB (cB (bodyOf P 50))))))) e w (kBlock 0 (kSeq P (EV P) 50 36 (cB (cB (cB (bodyOf P 50)))) (kFn P (fnOf P 50))))).trans (by kernel_rfl)
theorem slices_Concat_Ver_j1_eq (e : Env) (w : World) : slices_Concat_Ver_j1 e w =
 (bo P .add 3 (.tmp 11) (.const (.int .i64 1)) (e 11) (.int .i64 1) w).bind fun r1 =>
 (vl r1.1 r1.2).bind fun r2 =>
 slices_Concat_Ver_l1 (ups e [(22, r1.1), (11, r2.1)]) r2.2 := by kernel_rfl
theorem slices_Concat_Ver_l2_eq (e : Env) (w : World) : slices_Concat_Ver_l2 e w =
 (bo P .lss 3 (.tmp 27) (.tmp 26) (e 27) (e 26) w).bind fun r1 =>
 cnd r1.1 (
 (ia P 46 (e 25) (e 27) r1.2).bind fun r2 =>
 (ld P 45 r2.1 r2.2).bind fun r3 =>
 (vl r3.1 r3.2).bind fun r4 =>
 (vl (e 6) r4.2).bind fun r5 =>
 (vl r4.1 r5.2).bind fun r6 =>
 (b_append P #[45, 45] 45 #[r5.1, r6.1] r6.2).bind fun r7 =>
 (vl r7.1 r7.2).bind fun r8 =>
 (bo P .add 3 (.tmp 27) (.const (.int .i64 1)) (e 27) (.int .i64 1) r8.2).bind fun r9 =>
 (vl r9.1 r9.2).bind fun r10 =>
 slices_Concat_Ver_l2 (ups e [(28, r1.1), (29, r2.1), (30, r3.1), (8, r4.1), (31, r5.1), (32, r6.1), (33, r7.1), (6, r8.1), (34, r9.1), (27, r10.1)]) r10.2) (
 (vl (e 6) r1.2).bind fun r11 =>
 (vl r11.1 r11.2).bind fun r12 =>
 some (r12.1, r12.2)) := (exC_loop P (EV P) 50 36 (cA (cA (cB (cA (cB (cB (cB (cB (bodyOf P 50))))))))) e w (kBlock 2 (kSeq P (EV P) 50 36 (cB (cB (cB (cB (cB (bodyOf P 50)))))) (kFn P (fnOf P 50))))).trans (by kernel_rfl)
theorem slices_Concat_Ver_fn (x0 : Value) (w : World) : fnC P (EV P) 50 #[x0] w =
 (vl (Go.Value.slice none 0 0) w).bind fun r1 =>
 (vl (.int .i64 0) r1.2).bind fun r2 =>
 (vl x0 r2.2).bind fun r3 =>
 (b_len P #[46] 3 #[r3.1] r3.2).bind fun r4 =>
 (vl (.int .i64 0) r4.2).bind fun r5 =>
 slices_Concat_Ver_l1 (ups (env0 #[x0]) [(2, r1.1), (3, r2.1), (9, r3.1), (10, r4.1), (11, r5.1)]) r5.2 := by kernel_rfl
noncomputable def impl_Past_under_l1 (e : Env) (w : World) : Option (Value × World) := exC P (EV P) 51 23 (.loop (cA (cA (cB (cA (cB (bodyOf P 51))))))) e w (kBlock 0 (kSeq P (EV P) 51 23 (cB (cB (bodyOf P 51))) (kFn P (fnOf P 51))))
theorem impl_Past_under_l1_eq (e : Env) (w : World) : impl_Past_under_l1 e w =
 (bo P .lss 3 (.tmp 10) (.tmp 9) (e 10) (e 9) w).bind fun r1 =>
 cnd r1.1 (
 (vl (e 10) r1.2).bind fun r2 =>
 (ia P 49 (e 8) (e 10) r2.2).bind fun r3 =>
 (ld P 53 r3.1 r3.2).bind fun r4 =>
 (al P 53 r4.2).bind fun r5 =>
 (vl r2.1 r5.2).bind fun r6 =>
 (st P 53 r5.1 r4.1 r6.2).bind fun r7 =>
 (fa P 51 (e 3) 0 (dw r7.2)).bind fun r9 =>
 ifP (r9.2 = (dw r7.2)) <|
 (ld P 49 r9.1 (dw r7.2)).bind fun r10 =>
 ifP (r10.2 = (dw r7.2)) <|
 (vl r6.1 (dw r7.2)).bind fun r11 =>
 ifP (r11.2 = (dw r7.2)) <|
 (ia P 49 r10.1 r11.1 (dw r7.2)).bind fun r12 =>
 ifP (r12.2 = (dw r7.2)) <|
 (ld P 53 r12.1 (dw r7.2)).bind fun r13 =>
 ifP (r13.2 = (dw r7.2)) <|
 (ld P 53 r5.1 (dw r7.2)).bind fun r14 =>
 ifP (r14.2 = (dw r7.2)) <|
 (EV P 76 #[r13.1, r14.1] (dw r7.2)).bind fun r15 =>
 ifP (True ∧ True ∧ True ∧ True ∧ True ∧ True) <|
 cnd r15.1 (
 (vl (.bool false) r15.2).bind fun r16 =>
 some (r16.1, r16.2)) (
 (bo P .add 3 (.tmp 10) (.const (.int .i64 1)) (e 10) (.int .i64 1) r15.2).bind fun r17 =>
 (vl r17.1 r17.2).bind fun r18 =>
 impl_Past_under_l1 (ups e [(11, r1.1), (12, r2.1), (13, r3.1), (14, r4.1), (6, r5.1), (5, r6.1), (15, r9.1), (16, r10.1), (17, r11.1), (18, r12.1), (19, r13.1), (20, r14.1), (21, r15.1), (22, r17.1), (10, r18.1)]) r18.2)) (
 (vl (.bool true) r1.2).bind fun r19 =>
 some (r19.1, r19.2)) := (exC_loop P (EV P) 51 23 (cA (cA (cB (cA (cB (bodyOf P 51)))))) e w (kBlock 0 (kSeq P (EV P) 51 23 (cB (cB (bodyOf P 51))) (kFn P (fnOf P 51))))).trans (by kernel_rfl)
theorem impl_Past_under_fn (x0 x1 : Value) (w : World) : fnC P (EV P) 51 #[x0, x1] w =
 (bx P 51 x0 w).bind fun r1 =>
 (bx P 51 x1 r1.2).bind fun r2 =>
 (vl (.bool false) r2.2).bind fun r3 =>
 (fa P 51 r1.1 0 r3.2).bind fun r4 =>
 (ld P 49 r4.1 r4.2).bind fun r5 =>
 (b_len P #[49] 3 #[r5.1] r5.2).bind fun r6 =>
 (vl (.int .i64 0) r6.2).bind fun r7 =>
 impl_Past_under_l1 (ups (env0 #[x0, x1]) [(2, r1.1), (3, r2.1), (4, r3.1), (7, r4.1), (8, r5.1), (9, r6.1), (10, r7.1)]) r7.2 := by kernel_rfl
noncomputable def slices_EqualFunc_Ver_l1 (e : Env) (w : World) : Option (Value × World) := exC P (EV P) 52 32 (.loop (cA (cA (cB (cA (cB (cB (bodyOf P 52)))))))) e w (kBlock 0 (kSeq P (EV P) 52 32 (cB (cB (cB (bodyOf P 52)))) (kFn P (fnOf P 52))))
theorem slices_EqualFunc_Ver_l1_eq (e : Env) (w : World) : slices_EqualFunc_Ver_l1 e w =
 (bo P .lss 3 (.tmp 17) (.tmp 16) (e 17) (e 16) w).bind fun r1 =>
 cnd r1.1 (
 (vl (e 17) r1.2).bind fun r2 =>
 (ia P 45 (e 15) (e 17) r2.2).bind fun r3 =>
 (ld P 58 r3.1 r3.2).bind fun r4 =>
 (al P 58 r4.2).bind fun r5 =>
 (vl r2.1 r5.2).bind fun r6 =>
 (st P 58 r5.1 r4.1 r6.2).bind fun r7 =>
 (vl (e 1) r7.2).bind fun r8 =>
 (vl r6.1 r8.2).bind fun r9 =>
 (ia P 45 r8.1 r9.1 r9.2).bind fun r10 =>
 (ld P 58 r10.1 r10.2).bind fun r11 =>
 (al P 58 r11.2).bind fun r12 =>
 (st P 58 r12.1 r11.1 r12.2).bind fun r13 =>
 (vl (e 2) r13.2).bind fun r14 =>
 (ld P 58 r5.1 r14.2).bind fun r15 =>
 (ld P 58 r12.1 r15.2).bind fun r16 =>
 (clo P r14.1 #[r15.1, r16.1] r16.2).bind fun r17 =>
 (uo P .not r17.1 r17.2).bind fun r18 =>
 cnd r18.1 (
 (vl (.bool false) r18.2).bind fun r19 =>
 some (r19.1, r19.2)) (
 (bo P .add 3 (.tmp 17) (.const (.int .i64 1)) (e 17) (.int .i64 1) r18.2).bind fun r20 =>
 (vl r20.1 r20.2).bind fun r21 =>
 slices_EqualFunc_Ver_l1 (ups e [(18, r1.1), (19, r2.1), (20, r3.1), (21, r4.1), (8, r5.1), (7, r6.1), (22, r8.1), (23, r9.1), (24, r10.1), (25, r11.1), (9, r12.1), (26, r14.1), (27, r15.1), (28, r16.1), (29, r17.1), (30, r18.1), (31, r20.1), (17, r21.1)]) r21.2)) (
 (vl (.bool true) r1.2).bind fun r22 =>
 some (r22.1, r22.2)) := (exC_loop P (EV P) 52 32 (cA (cA (cB (cA (cB (cB (bodyOf P 52))))))) e w (kBlock 0 (kSeq P (EV P) 52 32 (cB (cB (cB (bodyOf P 52)))) (kFn P (fnOf P 52))))).trans (by kernel_rfl)
theorem slices_EqualFunc_Ver_fn (x0 x1 x2 : Value) (w : World) : fnC P (EV P) 52 #[x0, x1, x2] w =
 (vl (.bool false) w).bind fun r1 =>
 (vl x0 r1.2).bind fun r2 =>
 (b_len P #[45] 3 #[r2.1] r2.2).bind fun r3 =>
 (vl x1 r3.2).bind fun r4 =>
 (b_len P #[45] 3 #[r4.1] r4.2).bind fun r5 =>
 (bo P .neq 3 (.tmp 11) (.tmp 13) r3.1 r5.1 r5.2).bind fun r6 =>
 cnd r6.1 (
 (vl (.bool false) r6.2).bind fun r7 =>
 some (r7.1, r7.2)) (
 (vl x0 r6.2).bind fun r8 =>
 (b_len P #[45] 3 #[r8.1] r8.2).bind fun r9 =>
 (vl (.int .i64 0) r9.2).bind fun r10 =>
 slices_EqualFunc_Ver_l1 (ups (env0 #[x0, x1, x2]) [(6, r1.1), (10, r2.1), (11, r3.1), (12, r4.1), (13, r5.1), (14, r6.1), (15, r8.1), (16, r9.1), (17, r10.1)]) r10.2) := by kernel_rfl
theorem impl_Ver_same_fn (x0 x1 : Value) (w : World) : fnC P (EV P) 53 #[x0, x1] w =
 (bx P 58 x0 w).bind fun r1 =>
 (bx P 58 x1 r1.2).bind fun r2 =>
 (vl (.bool false) r2.2).bind fun r3 =>
 (fa P 58 r1.1 0 r3.2).bind fun r4 =>
 (ld P 3 r4.1 r4.2).bind fun r5 =>
 (fa P 58 r2.1 0 r5.2).bind fun r6 =>
 (ld P 3 r6.1 r6.2).bind fun r7 =>
 (bo P .eql 3 (.tmp 6) (.tmp 8) r5.1 r7.1 r7.2).bind fun r8 =>
 (vl r8.1 r8.2).bind fun r9 =>
 (gif r9.1 true (fa P 58 r1.1 1 r9.2) r9.2).bind fun r10 =>
 (gif r9.1 true (ld P 53 r10.1 r10.2) r10.2).bind fun r11 =>
 (gif r9.1 true (fa P 58 r2.1 1 r11.2) r11.2).bind fun r12 =>
 (gif r9.1 true (ld P 53 r12.1 r12.2) r12.2).bind fun r13 =>
 (gif r9.1 true (bo P .eql 53 (.tmp 12) (.tmp 14) r11.1 r13.1 r13.2) r13.2).bind fun r14 =>
 (pickV r9.1 r14.1 (.bool false) r14.2).bind fun r15 =>
 (vl r15.1 r15.2).bind fun r16 =>
 (gif r16.1 true (fa P 58 r1.1 2 r16.2) r16.2).bind fun r17 =>
 (gif r16.1 true (fa P 51 r17.1 0 r17.2) r17.2).bind fun r18 =>
 (gif r16.1 true (ld P 49 r18.1 r18.2) r18.2).bind fun r19 =>
 (gif r16.1 true (fa P 58 r2.1 2 r19.2) r19.2).bind fun r20 =>
 (gif r16.1 true (fa P 51 r20.1 0 r20.2) r20.2).bind fun r21 =>
 (gif r16.1 true (ld P 49 r21.1 r21.2) r21.2).bind fun r22 =>
 (gif r16.1 true (EV P 77 #[r19.1, r22.1] r22.2) r22.2).bind fun r23 =>
 (pickV r16.1 r23.1 (.bool false) r23.2).bind fun r24 =>
 (vl r24.1 r24.2).bind fun r25 =>
 (gif r25.1 true (fa P 58 r1.1 3 r25.2) r25.2).bind fun r26 =>
 (gif r25.1 true (ld P 9 r26.1 r26.2) r26.2).bind fun r27 =>
 (gif r25.1 true (fa P 58 r2.1 3 r27.2) r27.2).bind fun r28 =>
 (gif r25.1 true (ld P 9 r28.1 r28.2) r28.2).bind fun r29 =>
 (gif r25.1 true (bo P .eql 9 (.tmp 28) (.tmp 30) r27.1 r29.1 r29.2) r29.2).bind fun r30 =>
 (pickV r25.1 r30.1 (.bool false) r30.2).bind fun r31 =>
 (vl r31.1 r31.2).bind fun r32 =>
 (gif r32.1 true (fa P 58 r1.1 4 r32.2) r32.2).bind fun r33 =>
 (gif r32.1 true (ld P 4 r33.1 r33.2) r33.2).bind fun r34 =>
 (gif r32.1 true (fa P 58 r2.1 4 r34.2) r34.2).bind fun r35 =>
 (gif r32.1 true (ld P 4 r35.1 r35.2) r35.2).bind fun r36 =>
 (gif r32.1 true (bo P .eql 4 (.tmp 35) (.tmp 37) r34.1 r36.1 r36.2) r36.2).bind fun r37 =>
 (pickV r32.1 r37.1 (.bool false) r37.2).bind fun r38 =>
 (vl r38.1 r38.2).bind fun r39 =>
 some (r39.1, r39.2) := by kernel_rfl
noncomputable def slices_IndexFunc_Sess_l1 (e : Env) (w : World) : Option (Value × World) := exC P (EV P) 54 19 (.loop (cA (cA (cB (cA (cB (bodyOf P 54))))))) e w (kBlock 0 (kSeq P (EV P) 54 19 (cB (cB (bodyOf P 54))) (kFn P (fnOf P 54))))
theorem slices_IndexFunc_Sess_l1_eq (e : Env) (w : World) : slices_IndexFunc_Sess_l1 e w =
 (bo P .lss 3 (.tmp 8) (.tmp 7) (e 8) (e 7) w).bind fun r1 =>
 cnd r1.1 (
 (vl (e 8) r1.2).bind fun r2 =>
 (vl r2.1 r2.2).bind fun r3 =>
 (vl (e 1) r3.2).bind fun r4 =>
 (vl (e 0) r4.2).bind fun r5 =>
 (vl r3.1 r5.2).bind fun r6 =>
 (ia P 26 r5.1 r6.1 r6.2).bind fun r7 =>
 (ld P 55 r7.1 r7.2).bind fun r8 =>
 (clo P r4.1 #[r8.1] r8.2).bind fun r9 =>
 cnd r9.1 (
 (vl r3.1 r9.2).bind fun r10 =>
 (vl r10.1 r10.2).bind fun r11 =>
 some (r11.1, r11.2)) (
 (bo P .add 3 (.tmp 8) (.const (.int .i64 1)) (e 8) (.int .i64 1) r9.2).bind fun r12 =>
 (vl r12.1 r12.2).bind fun r13 =>
 slices_IndexFunc_Sess_l1 (ups e [(9, r1.1), (10, r2.1), (5, r3.1), (11, r4.1), (12, r5.1), (13, r6.1), (14, r7.1), (15, r8.1), (16, r9.1), (18, r12.1), (8, r13.1)]) r13.2)) (
 (vl (.int .i64 (-1)) r1.2).bind fun r14 =>
 some (r14.1, r14.2)) := (exC_loop P (EV P) 54 19 (cA (cA (cB (cA (cB (bodyOf P 54)))))) e w (kBlock 0 (kSeq P (EV P) 54 19 (cB (cB (bodyOf P 54))) (kFn P (fnOf P 54))))).trans (by kernel_rfl)
theorem slices_IndexFunc_Sess_fn (x0 x1 : Value) (w : World) : fnC P (EV P) 54 #[x0, x1] w =
 (vl (.int .i64 0) w).bind fun r1 =>
 (vl x0 r1.2).bind fun r2 =>
 (b_len P #[26] 3 #[r2.1] r2.2).bind fun r3 =>
 (vl (.int .i64 0) r3.2).bind fun r4 =>
 slices_IndexFunc_Sess_l1 (ups (env0 #[x0, x1]) [(4, r1.1), (6, r2.1), (7, r3.1), (8, r4.1)]) r4.2 := by kernel_rfl
theorem impl_PastOk_fn (x0 : Value) (w : World) : fnC P (EV P) 55 #[x0] w =
 (bx P 51 x0 w).bind fun r1 =>
 (vl (.bool false) r1.2).bind fun r2 =>
 (fa P 51 r1.1 0 r2.2).bind fun r3 =>
 (ld P 49 r3.1 r3.2).bind fun r4 =>
 (b_len P #[49] 3 #[r4.1] r4.2).bind fun r5 =>
 (bo P .eql 3 (.tmp 5) (.const (.int .i64 4)) r5.1 (.int .i64 4) r5.2).bind fun r6 =>
 (vl r6.1 r6.2).bind fun r7 =>
 (gif r7.1 true (fa P 51 r1.1 0 r7.2) r7.2).bind fun r8 =>
 (gif r7.1 true (ld P 49 r8.1 r8.2) r8.2).bind fun r9 =>
 (gif r7.1 true (EV P 78 #[r9.1, (.func (.func 79) #[] #[])] r9.2) r9.2).bind fun r10 =>
 (gif r7.1 true (uo P .not r10.1 r10.2) r10.2).bind fun r11 =>
 (pickV r7.1 r11.1 (.bool false) r11.2).bind fun r12 =>
 (vl r12.1 r12.2).bind fun r13 =>
 some (r13.1, r13.2) := by kernel_rfl
noncomputable def slices_IndexFunc_Frame_l1 (e : Env) (w : World) : Option (Value × World) := exC P (EV P) 56 19 (.loop (cA (cA (cB (cA (cB (bodyOf P 56))))))) e w (kBlock 0 (kSeq P (EV P) 56 19 (cB (cB (bodyOf P 56))) (kFn P (fnOf P 56))))
theorem slices_IndexFunc_Frame_l1_eq (e : Env) (w : World) : slices_IndexFunc_Frame_l1 e w =
 (bo P .lss 3 (.tmp 8) (.tmp 7) (e 8) (e 7) w).bind fun r1 =>
 cnd r1.1 (
 (vl (e 8) r1.2).bind fun r2 =>
 (vl r2.1 r2.2).bind fun r3 =>
 (vl (e 1) r3.2).bind fun r4 =>
 (vl (e 0) r4.2).bind fun r5 =>
 (vl r3.1 r5.2).bind fun r6 =>
 (ia P 27 r5.1 r6.1 r6.2).bind fun r7 =>
 (ld P 60 r7.1 r7.2).bind fun r8 =>
 (clo P r4.1 #[r8.1] r8.2).bind fun r9 =>
 cnd r9.1 (
 (vl r3.1 r9.2).bind fun r10 =>
 (vl r10.1 r10.2).bind fun r11 =>
 some (r11.1, r11.2)) (
 (bo P .add 3 (.tmp 8) (.const (.int .i64 1)) (e 8) (.int .i64 1) r9.2).bind fun r12 =>
 (vl r12.1 r12.2).bind fun r13 =>
 slices_IndexFunc_Frame_l1 (ups e [(9, r1.1), (10, r2.1), (5, r3.1), (11, r4.1), (12, r5.1), (13, r6.1), (14, r7.1), (15, r8.1), (16, r9.1), (18, r12.1), (8, r13.1)]) r13.2)) (
 (vl (.int .i64 (-1)) r1.2).bind fun r14 =>
 some (r14.1, r14.2)) := (exC_loop P (EV P) 56 19 (cA (cA (cB (cA (cB (bodyOf P 56)))))) e w (kBlock 0 (kSeq P (EV P) 56 19 (cB (cB (bodyOf P 56))) (kFn P (fnOf P 56))))).trans (by kernel_rfl)
theorem slices_IndexFunc_Frame_fn (x0 x1 : Value) (w : World) : fnC P (EV P) 56 #[x0, x1] w =
 (vl (.int .i64 0) w).bind fun r1 =>
 (vl x0 r1.2).bind fun r2 =>
 (b_len P #[27] 3 #[r2.1] r2.2).bind fun r3 =>
 (vl (.int .i64 0) r3.2).bind fun r4 =>
 slices_IndexFunc_Frame_l1 (ups (env0 #[x0, x1]) [(4, r1.1), (6, r2.1), (7, r3.1), (8, r4.1)]) r4.2 := by kernel_rfl
noncomputable def impl_Past_join_l1 (e : Env) (w : World) : Option (Value × World) := exC P (EV P) 58 31 (.loop (cA (cA (cB (cA (cB (cB (bodyOf P 58)))))))) e w (kBlock 0 (kSeq P (EV P) 58 31 (cB (cB (cB (bodyOf P 58)))) (kFn P (fnOf P 58))))
theorem impl_Past_join_l1_eq (e : Env) (w : World) : impl_Past_join_l1 e w =
 (bo P .lss 3 (.tmp 13) (.tmp 12) (e 13) (e 12) w).bind fun r1 =>
 cnd r1.1 (
 (vl (e 13) r1.2).bind fun r2 =>
 (ia P 49 (e 11) (e 13) r2.2).bind fun r3 =>
 (ld P 53 r3.1 r3.2).bind fun r4 =>
 (al P 53 r4.2).bind fun r5 =>
 (vl r2.1 r5.2).bind fun r6 =>
 (st P 53 r5.1 r4.1 r6.2).bind fun r7 =>
 (fa P 51 (e 5) 0 (dw r7.2)).bind fun r9 =>
 ifP (r9.2 = (dw r7.2)) <|
 (ld P 49 r9.1 (dw r7.2)).bind fun r10 =>
 ifP (r10.2 = (dw r7.2)) <|
 (vl r6.1 (dw r7.2)).bind fun r11 =>
 ifP (r11.2 = (dw r7.2)) <|
 (fa P 51 (e 5) 0 (dw r7.2)).bind fun r12 =>
 ifP (r12.2 = (dw r7.2)) <|
 (ld P 49 r12.1 (dw r7.2)).bind fun r13 =>
 ifP (r13.2 = (dw r7.2)) <|
 (vl r6.1 (dw r7.2)).bind fun r14 =>
 ifP (r14.2 = (dw r7.2)) <|
 (ia P 49 r13.1 r14.1 (dw r7.2)).bind fun r15 =>
 ifP (r15.2 = (dw r7.2)) <|
 (ld P 53 r15.1 (dw r7.2)).bind fun r16 =>
 ifP (r16.2 = (dw r7.2)) <|
 (ld P 53 r5.1 (dw r7.2)).bind fun r17 =>
 ifP (r17.2 = (dw r7.2)) <|
 (EV P 81 #[r16.1, r17.1] (dw r7.2)).bind fun r18 =>
 ifP (True ∧ True ∧ True ∧ True ∧ True ∧ ld P 49 r9.1 r18.2 = some (r10.1, r18.2) ∧ fa P 51 (e 5) 0 r18.2 = some (r9.1, r18.2) ∧ True) <|
 (ia P 49 r10.1 r11.1 r18.2).bind fun r19 =>
 ifP (r19.2 = r18.2) <|
 (st P 53 r19.1 r18.1 r18.2).bind fun r20 =>
 ifP (True ∧ True ∧ True ∧ True ∧ True ∧ True ∧ True ∧ True ∧ True) <|
 (bo P .add 3 (.tmp 13) (.const (.int .i64 1)) (e 13) (.int .i64 1) r20.2).bind fun r21 =>
 (vl r21.1 r21.2).bind fun r22 =>
 impl_Past_join_l1 (ups e [(14, r1.1), (15, r2.1), (16, r3.1), (17, r4.1), (7, r5.1), (6, r6.1), (18, r9.1), (19, r10.1), (20, r11.1), (21, r12.1), (22, r13.1), (23, r14.1), (24, r15.1), (25, r16.1), (26, r17.1), (27, r18.1), (28, r19.1), (29, r21.1), (13, r22.1)]) r22.2) (
 (ld P 51 (e 5) r1.2).bind fun r23 =>
 (st P 51 (e 4) r23.1 r23.2).bind fun r24 =>
 ((ld P 51 (e 4) r24.2).bind fun r25 => ifP (r25.2 = r24.2) (some r25.1)).bind fun v26 =>
 some (v26, r24.2)) := (exC_loop P (EV P) 58 31 (cA (cA (cB (cA (cB (cB (bodyOf P 58))))))) e w (kBlock 0 (kSeq P (EV P) 58 31 (cB (cB (cB (bodyOf P 58)))) (kFn P (fnOf P 58))))).trans (by kernel_rfl)
theorem impl_Past_join_fn (x0 x1 : Value) (w : World) : fnC P (EV P) 58 #[x0, x1] w =
 (bx P 51 x0 w).bind fun r1 =>
 (bx P 51 x1 r1.2).bind fun r2 =>
 (al P 51 r2.2).bind fun r3 =>
 (ld P 51 r1.1 r3.2).bind fun r4 =>
 (EV P 80 #[r4.1] r4.2).bind fun r5 =>
 (al P 51 r5.2).bind fun r6 =>
 (st P 51 r6.1 r5.1 r6.2).bind fun r7 =>
 (fa P 51 r2.1 0 r7.2).bind fun r8 =>
 (ld P 49 r8.1 r8.2).bind fun r9 =>
 (b_len P #[49] 3 #[r9.1] r9.2).bind fun r10 =>
 (vl (.int .i64 0) r10.2).bind fun r11 =>
 impl_Past_join_l1 (ups (env0 #[x0, x1]) [(2, r1.1), (3, r2.1), (4, r3.1), (8, r4.1), (9, r5.1), (5, r6.1), (10, r8.1), (11, r9.1), (12, r10.1), (13, r11.1)]) r11.2 := by kernel_rfl
theorem impl_HistOk_fn (x0 : Value) (w : World) : fnC P (EV P) 59 #[x0] w =
 (vl (.bool false) w).bind fun r1 =>
 (vl x0 r1.2).bind fun r2 =>
 (EV P 82 #[r2.1] r2.2).bind fun r3 =>
 (vl r3.1 r3.2).bind fun r4 =>
 (xt P r4.1 0 r4.2).bind fun r5 =>
 (xt P r4.1 1 r5.2).bind fun r6 =>
 (vl r5.1 r6.2).bind fun r7 =>
 (vl r6.1 r7.2).bind fun r8 =>
 (vl r8.1 r8.2).bind fun r9 =>
 (vl r9.1 r9.2).bind fun r10 =>
 some (r10.1, r10.2) := by kernel_rfl
theorem impl_World_safe_1_fn (x0 x1 : Value) (w : World) : fnC P (EV P) 60 #[x0, x1] w =
 (bx P 55 x0 w).bind fun r1 =>
 (vl (.bool false) r1.2).bind fun r2 =>
 (fa P 55 r1.1 1 r2.2).bind fun r3 =>
 (ld P 51 r3.1 r3.2).bind fun r4 =>
 (ld P 51 x1 r4.2).bind fun r5 =>
 (EV P 51 #[r4.1, r5.1] r5.2).bind fun r6 =>
 (uo P .not r6.1 r6.2).bind fun r7 =>
 (vl r7.1 r7.2).bind fun r8 =>
 some (r8.1, r8.2) := by kernel_rfl
theorem slices_ContainsFunc_Node_fn (x0 x1 : Value) (w : World) : fnC P (EV P) 61 #[x0, x1] w =
 (vl (.bool false) w).bind fun r1 =>
 (vl x0 r1.2).bind fun r2 =>
 (vl x1 r2.2).bind fun r3 =>
 (EV P 83 #[r2.1, r3.1] r3.2).bind fun r4 =>
 (bo P .geq 3 (.tmp 7) (.const (.int .i64 0)) r4.1 (.int .i64 0) r4.2).bind fun r5 =>
 (vl r5.1 r5.2).bind fun r6 =>
 some (r6.1, r6.2) := by kernel_rfl
theorem impl_World_alike_1_fn (x0 x1 : Value) (w : World) : fnC P (EV P) 62 #[x0, x1] w =
 (bx P 89 x0 w).bind fun r1 =>
 (vl (.bool false) r1.2).bind fun r2 =>
 (fa P 89 r1.1 0 r2.2).bind fun r3 =>
 (ld P 86 r3.1 r3.2).bind fun r4 =>
 (ld P 86 x1 r4.2).bind fun r5 =>
 (EV P 63 #[r4.1, r5.1] r5.2).bind fun r6 =>
 (uo P .not r6.1 r6.2).bind fun r7 =>
 (vl r7.1 r7.2).bind fun r8 =>
 some (r8.1, r8.2) := by kernel_rfl
theorem impl_Store_same_fn (x0 x1 : Value) (w : World) : fnC P (EV P) 63 #[x0, x1] w =
 (bx P 86 x0 w).bind fun r1 =>
 (bx P 86 x1 r1.2).bind fun r2 =>
 (vl (.bool false) r2.2).bind fun r3 =>
 (fa P 86 r1.1 0 r3.2).bind fun r4 =>
 (ld P 45 r4.1 r4.2).bind fun r5 =>
 (fa P 86 r2.1 0 r5.2).bind fun r6 =>
 (ld P 45 r6.1 r6.2).bind fun r7 =>
 (EV P 52 #[r5.1, r7.1, (.func (.func 53) #[] #[])] r7.2).bind fun r8 =>
 (vl r8.1 r8.2).bind fun r9 =>
 some (r9.1, r9.2) := by kernel_rfl
noncomputable def impl_ChainNew_l1 (e : Env) (w : World) : Option (Value × World) := exC P (EV P) 64 23 (.loop (cA (cA (cB (cA (cB (cB (cB (bodyOf P 64))))))))) e w (kBlock 0 (kSeq P (EV P) 64 23 (cB (cB (cB (cB (bodyOf P 64))))) (kFn P (fnOf P 64))))
theorem impl_ChainNew_l1_eq (e : Env) (w : World) : impl_ChainNew_l1 e w =
 (bo P .lss 3 (.tmp 12) (.tmp 11) (e 12) (e 11) w).bind fun r1 =>
 cnd r1.1 (
 (fa P 44 (e 3) 0 (dw r1.2)).bind fun r3 =>
 ifP (r3.2 = (dw r1.2)) <|
 (ld P 42 r3.1 (dw r1.2)).bind fun r4 =>
 ifP (r4.2 = (dw r1.2)) <|
 (EV P 84 #[] (dw r1.2)).bind fun r5 =>
 ifP (ld P 42 r3.1 r5.2 = some (r4.1, r5.2) ∧ fa P 44 (e 3) 0 r5.2 = some (r3.1, r5.2) ∧ True) <|
 (bd P 89 #[(0, r5.1)] r5.2).bind fun r6 =>
 ifP (r6.2 = r5.2) <|
 (bs P 42 1 #[(0, r6.1)] r5.2).bind fun r7 =>
 ifP (True ∧ ld P 42 r3.1 r7.2 = some (r4.1, r7.2) ∧ fa P 44 (e 3) 0 r7.2 = some (r3.1, r7.2) ∧ True) <|
 (b_append P #[42, 42] 42 #[r4.1, r7.1] r7.2).bind fun r8 =>
 ifP (True ∧ True ∧ True ∧ True) <|
 (fa P 44 (e 3) 0 r8.2).bind fun r9 =>
 ifP (r9.2 = r8.2) <|
 (st P 42 r9.1 r8.1 r8.2).bind fun r10 =>
 ifP (True ∧ True ∧ True ∧ True ∧ True) <|
 (bo P .add 3 (.tmp 12) (.const (.int .i64 1)) (e 12) (.int .i64 1) r10.2).bind fun r11 =>
 (vl r11.1 r11.2).bind fun r12 =>
 impl_ChainNew_l1 (ups e [(13, r1.1), (14, r3.1), (15, r4.1), (16, r5.1), (17, r6.1), (18, r7.1), (19, r8.1), (20, r9.1), (21, r11.1), (12, r12.1)]) r12.2) (
 (ld P 44 (e 3) r1.2).bind fun r13 =>
 (st P 44 (e 2) r13.1 r13.2).bind fun r14 =>
 ((ld P 44 (e 2) r14.2).bind fun r15 => ifP (r15.2 = r14.2) (some r15.1)).bind fun v16 =>
 some (v16, r14.2)) := (exC_loop P (EV P) 64 23 (cA (cA (cB (cA (cB (cB (cB (bodyOf P 64)))))))) e w (kBlock 0 (kSeq P (EV P) 64 23 (cB (cB (cB (cB (bodyOf P 64))))) (kFn P (fnOf P 64))))).trans (by kernel_rfl)
theorem impl_ChainNew_fn (x0 : Value) (w : World) : fnC P (EV P) 64 #[x0] w =
 (al P 44 w).bind fun r1 =>
 (vl x0 r1.2).bind fun r2 =>
 (EV P 33 #[r2.1] r2.2).bind fun r3 =>
 (uo P .not r3.1 r3.2).bind fun r4 =>
 cnd r4.1 (
 (bd P 44 #[] r4.2).bind fun r5 =>
 (st P 44 r1.1 r5.1 r5.2).bind fun r6 =>
 ((ld P 44 r1.1 r6.2).bind fun r7 => ifP (r7.2 = r6.2) (some r7.1)).bind fun v8 =>
 some (v8, r6.2)) (
 (vl x0 r4.2).bind fun r9 =>
 (ms P 42 (.int .i64 0) r9.1 r9.2).bind fun r10 =>
 (bd P 44 #[(0, r10.1)] r10.2).bind fun r11 =>
 (al P 44 r11.2).bind fun r12 =>
 (st P 44 r12.1 r11.1 r12.2).bind fun r13 =>
 (vl x0 r13.2).bind fun r14 =>
 (vl (.int .i64 0) r14.2).bind fun r15 =>
 impl_ChainNew_l1 (ups (env0 #[x0]) [(2, r1.1), (4, r2.1), (5, r3.1), (6, r4.1), (8, r9.1), (9, r10.1), (10, r11.1), (3, r12.1), (11, r14.1), (12, r15.1)]) r15.2) := by kernel_rfl
noncomputable def laws_cfStore_l1 (e : Env) (w : World) : Option (Value × World) := exC P (EV P) 65 32 (.loop (cA (cA (cB (cA (cB (cB (bodyOf P 65)))))))) e w (kBlock 0 (kSeq P (EV P) 65 32 (cB (cB (cB (bodyOf P 65)))) (kFn P (fnOf P 65))))
theorem laws_cfStore_l1_eq (e : Env) (w : World) : laws_cfStore_l1 e w =
 (vl (e 5) w).bind fun r1 =>
 (fa P 86 (e 2) 0 r1.2).bind fun r2 =>
 (ld P 45 r2.1 r2.2).bind fun r3 =>
 (b_len P #[45] 3 #[r3.1] r3.2).bind fun r4 =>
 (bo P .lss 3 (.tmp 13) (.tmp 16) r1.1 r4.1 r4.2).bind fun r5 =>
 cnd r5.1 (
 (fa P 86 (e 2) 0 (dw r5.2)).bind fun r7 =>
 ifP (r7.2 = (dw r5.2)) <|
 (ld P 45 r7.1 (dw r5.2)).bind fun r8 =>
 ifP (r8.2 = (dw r5.2)) <|
 (vl (e 5) (dw r5.2)).bind fun r9 =>
 ifP (r9.2 = (dw r5.2)) <|
 (ia P 45 r8.1 r9.1 (dw r5.2)).bind fun r10 =>
 ifP (r10.2 = (dw r5.2)) <|
 (ld P 58 r10.1 (dw r5.2)).bind fun r11 =>
 ifP (r11.2 = (dw r5.2)) <|
 (fa P 86 (e 3) 0 (dw r5.2)).bind fun r12 =>
 ifP (r12.2 = (dw r5.2)) <|
 (ld P 45 r12.1 (dw r5.2)).bind fun r13 =>
 ifP (r13.2 = (dw r5.2)) <|
 (vl (e 5) (dw r5.2)).bind fun r14 =>
 ifP (r14.2 = (dw r5.2)) <|
 (ia P 45 r13.1 r14.1 (dw r5.2)).bind fun r15 =>
 ifP (r15.2 = (dw r5.2)) <|
 (ld P 58 r15.1 (dw r5.2)).bind fun r16 =>
 ifP (r16.2 = (dw r5.2)) <|
 (EV P 18 #[r11.1, r16.1] (dw r5.2)).bind fun r17 =>
 ifP (True ∧ True ∧ True ∧ True ∧ True ∧ True ∧ True ∧ True ∧ True) <|
 (uo P .not r17.1 r17.2).bind fun r18 =>
 ifP (r18.2 = r17.2) <|
 cnd r18.1 (
 (vl (.bool false) r17.2).bind fun r19 =>
 some (r19.1, r19.2)) (
 (vl (e 5) r17.2).bind fun r20 =>
 (bo P .add 3 (.tmp 18) (.const (.int .i64 1)) r20.1 (.int .i64 1) r20.2).bind fun r21 =>
 (vl r21.1 r21.2).bind fun r22 =>
 laws_cfStore_l1 (ups e [(13, r1.1), (14, r2.1), (15, r3.1), (16, r4.1), (17, r5.1), (20, r7.1), (21, r8.1), (22, r9.1), (23, r10.1), (24, r11.1), (25, r12.1), (26, r13.1), (27, r14.1), (28, r15.1), (29, r16.1), (30, r17.1), (31, r18.1), (18, r20.1), (19, r21.1), (5, r22.1)]) r22.2)) (
 (vl (.bool true) r5.2).bind fun r23 =>
 some (r23.1, r23.2)) := (exC_loop P (EV P) 65 32 (cA (cA (cB (cA (cB (cB (bodyOf P 65))))))) e w (kBlock 0 (kSeq P (EV P) 65 32 (cB (cB (cB (bodyOf P 65)))) (kFn P (fnOf P 65))))).trans (by kernel_rfl)
theorem laws_cfStore_fn (x0 x1 : Value) (w : World) : fnC P (EV P) 65 #[x0, x1] w =
 (bx P 86 x0 w).bind fun r1 =>
 (bx P 86 x1 r1.2).bind fun r2 =>
 (vl (.bool false) r2.2).bind fun r3 =>
 (fa P 86 r1.1 0 r3.2).bind fun r4 =>
 (ld P 45 r4.1 r4.2).bind fun r5 =>
 (b_len P #[45] 3 #[r5.1] r5.2).bind fun r6 =>
 (fa P 86 r2.1 0 r6.2).bind fun r7 =>
 (ld P 45 r7.1 r7.2).bind fun r8 =>
 (b_len P #[45] 3 #[r8.1] r8.2).bind fun r9 =>
 (bo P .neq 3 (.tmp 8) (.tmp 11) r6.1 r9.1 r9.2).bind fun r10 =>
 cnd r10.1 (
 (vl (.bool false) r10.2).bind fun r11 =>
 some (r11.1, r11.2)) (
 (vl (.int .i64 0) r10.2).bind fun r12 =>
 laws_cfStore_l1 (ups (env0 #[x0, x1]) [(2, r1.1), (3, r2.1), (4, r3.1), (6, r4.1), (7, r5.1), (8, r6.1), (9, r7.1), (10, r8.1), (11, r9.1), (12, r10.1), (5, r12.1)]) r12.2) := by kernel_rfl
noncomputable def spec_ChainNew_l1 (e : Env) (w : World) : Option (Value × World) := exC P (EV P) 66 23 (.loop (cA (cA (cB (cA (cB (cB (cB (bodyOf P 66))))))))) e w (kBlock 0 (kSeq P (EV P) 66 23 (cB (cB (cB (cB (bodyOf P 66))))) (kFn P (fnOf P 66))))
theorem spec_ChainNew_l1_eq (e : Env) (w : World) : spec_ChainNew_l1 e w =
 (vl (e 4) w).bind fun r1 =>
 (vl (e 0) r1.2).bind fun r2 =>
 (bo P .lss 3 (.tmp 10) (.tmp 11) r1.1 r2.1 r2.2).bind fun r3 =>
 cnd r3.1 (
 (fa P 44 (e 3) 0 (dw r3.2)).bind fun r5 =>
 ifP (r5.2 = (dw r3.2)) <|
 (ld P 42 r5.1 (dw r3.2)).bind fun r6 =>
 ifP (r6.2 = (dw r3.2)) <|
 (EV P 85 #[] (dw r3.2)).bind fun r7 =>
 ifP (ld P 42 r5.1 r7.2 = some (r6.1, r7.2) ∧ fa P 44 (e 3) 0 r7.2 = some (r5.1, r7.2) ∧ True) <|
 (bd P 89 #[(0, r7.1)] r7.2).bind fun r8 =>
 ifP (r8.2 = r7.2) <|
 (bs P 42 1 #[(0, r8.1)] r7.2).bind fun r9 =>
 ifP (True ∧ ld P 42 r5.1 r9.2 = some (r6.1, r9.2) ∧ fa P 44 (e 3) 0 r9.2 = some (r5.1, r9.2) ∧ True) <|
 (b_append P #[42, 42] 42 #[r6.1, r9.1] r9.2).bind fun r10 =>
 ifP (True ∧ True ∧ True ∧ True) <|
 (fa P 44 (e 3) 0 r10.2).bind fun r11 =>
 ifP (r11.2 = r10.2) <|
 (st P 42 r11.1 r10.1 r10.2).bind fun r12 =>
 ifP (True ∧ True ∧ True ∧ True ∧ True) <|
 (vl (e 4) r12.2).bind fun r13 =>
 (bo P .add 3 (.tmp 13) (.const (.int .i64 1)) r13.1 (.int .i64 1) r13.2).bind fun r14 =>
 (vl r14.1 r14.2).bind fun r15 =>
 spec_ChainNew_l1 (ups e [(10, r1.1), (11, r2.1), (12, r3.1), (15, r5.1), (16, r6.1), (17, r7.1), (18, r8.1), (19, r9.1), (20, r10.1), (21, r11.1), (13, r13.1), (14, r14.1), (4, r15.1)]) r15.2) (
 (ld P 44 (e 3) r3.2).bind fun r16 =>
 (st P 44 (e 2) r16.1 r16.2).bind fun r17 =>
 ((ld P 44 (e 2) r17.2).bind fun r18 => ifP (r18.2 = r17.2) (some r18.1)).bind fun v19 =>
 some (v19, r17.2)) := (exC_loop P (EV P) 66 23 (cA (cA (cB (cA (cB (cB (cB (bodyOf P 66)))))))) e w (kBlock 0 (kSeq P (EV P) 66 23 (cB (cB (cB (cB (bodyOf P 66))))) (kFn P (fnOf P 66))))).trans (by kernel_rfl)
theorem spec_ChainNew_fn (x0 : Value) (w : World) : fnC P (EV P) 66 #[x0] w =
 (al P 44 w).bind fun r1 =>
 (bd P 44 #[] r1.2).bind fun r2 =>
 (al P 44 r2.2).bind fun r3 =>
 (st P 44 r3.1 r2.1 r3.2).bind fun r4 =>
 (vl x0 r4.2).bind fun r5 =>
 (EV P 19 #[r5.1, (.int .i64 1), (.int .i64 4)] r5.2).bind fun r6 =>
 (uo P .not r6.1 r6.2).bind fun r7 =>
 cnd r7.1 (
 (ld P 44 r3.1 r7.2).bind fun r8 =>
 (st P 44 r1.1 r8.1 r8.2).bind fun r9 =>
 ((ld P 44 r1.1 r9.2).bind fun r10 => ifP (r10.2 = r9.2) (some r10.1)).bind fun v11 =>
 some (v11, r9.2)) (
 (vl (.int .i64 0) r7.2).bind fun r12 =>
 spec_ChainNew_l1 (ups (env0 #[x0]) [(2, r1.1), (5, r2.1), (3, r3.1), (6, r5.1), (7, r6.1), (8, r7.1), (4, r12.1)]) r12.2) := by kernel_rfl
noncomputable def slices_IndexFunc_Done_l1 (e : Env) (w : World) : Option (Value × World) := exC P (EV P) 67 19 (.loop (cA (cA (cB (cA (cB (bodyOf P 67))))))) e w (kBlock 0 (kSeq P (EV P) 67 19 (cB (cB (bodyOf P 67))) (kFn P (fnOf P 67))))
theorem slices_IndexFunc_Done_l1_eq (e : Env) (w : World) : slices_IndexFunc_Done_l1 e w =
 (bo P .lss 3 (.tmp 8) (.tmp 7) (e 8) (e 7) w).bind fun r1 =>
 cnd r1.1 (
 (vl (e 8) r1.2).bind fun r2 =>
 (vl r2.1 r2.2).bind fun r3 =>
 (vl (e 1) r3.2).bind fun r4 =>
 (vl (e 0) r4.2).bind fun r5 =>
 (vl r3.1 r5.2).bind fun r6 =>
 (ia P 28 r5.1 r6.1 r6.2).bind fun r7 =>
 (ld P 78 r7.1 r7.2).bind fun r8 =>
 (clo P r4.1 #[r8.1] r8.2).bind fun r9 =>
 cnd r9.1 (
 (vl r3.1 r9.2).bind fun r10 =>
 (vl r10.1 r10.2).bind fun r11 =>
 some (r11.1, r11.2)) (
 (bo P .add 3 (.tmp 8) (.const (.int .i64 1)) (e 8) (.int .i64 1) r9.2).bind fun r12 =>
 (vl r12.1 r12.2).bind fun r13 =>
 slices_IndexFunc_Done_l1 (ups e [(9, r1.1), (10, r2.1), (5, r3.1), (11, r4.1), (12, r5.1), (13, r6.1), (14, r7.1), (15, r8.1), (16, r9.1), (18, r12.1), (8, r13.1)]) r13.2)) (
 (vl (.int .i64 (-1)) r1.2).bind fun r14 =>
 some (r14.1, r14.2)) := (exC_loop P (EV P) 67 19 (cA (cA (cB (cA (cB (bodyOf P 67)))))) e w (kBlock 0 (kSeq P (EV P) 67 19 (cB (cB (bodyOf P 67))) (kFn P (fnOf P 67))))).trans (by kernel_rfl)
theorem slices_IndexFunc_Done_fn (x0 x1 : Value) (w : World) : fnC P (EV P) 67 #[x0, x1] w =
 (vl (.int .i64 0) w).bind fun r1 =>
 (vl x0 r1.2).bind fun r2 =>
 (b_len P #[28] 3 #[r2.1] r2.2).bind fun r3 =>
 (vl (.int .i64 0) r3.2).bind fun r4 =>
 slices_IndexFunc_Done_l1 (ups (env0 #[x0, x1]) [(4, r1.1), (6, r2.1), (7, r3.1), (8, r4.1)]) r4.2 := by kernel_rfl
noncomputable def impl_StoreOk_l1 (e : Env) (w : World) : Option (Value × World) := exC P (EV P) 68 33 (.loop (cA (cA (cB (cA (cB (bodyOf P 68))))))) e w (kBlock 0 (kSeq P (EV P) 68 33 (cB (cB (bodyOf P 68))) (kFn P (fnOf P 68))))
theorem impl_StoreOk_l1_eq (e : Env) (w : World) : impl_StoreOk_l1 e w =
 (bo P .lss 3 (.tmp 8) (.tmp 7) (e 8) (e 7) w).bind fun r1 =>
 cnd r1.1 (
 (vl (e 8) r1.2).bind fun r2 =>
 (ia P 45 (e 6) (e 8) r2.2).bind fun r3 =>
 (ld P 58 r3.1 r3.2).bind fun r4 =>
 (al P 58 r4.2).bind fun r5 =>
 (vl r2.1 r5.2).bind fun r6 =>
 (st P 58 r5.1 r4.1 r6.2).bind fun r7 =>
 (ld P 58 r5.1 r7.2).bind fun r8 =>
 (bd P 58 #[] r8.2).bind fun r9 =>
 (EV P 53 #[r8.1, r9.1] r9.2).bind fun r10 =>
 (uo P .not r10.1 r10.2).bind fun r11 =>
 (vl r11.1 r11.2).bind fun r12 =>
 (gif r12.1 true (ld P 58 r5.1 r12.2) r12.2).bind fun r13 =>
 (gif r12.1 true (EV P 71 #[r13.1] r13.2) r13.2).bind fun r14 =>
 (gif r12.1 true (uo P .not r14.1 r14.2) r14.2).bind fun r15 =>
 (gif r12.1 true (vl r15.1 r15.2) r15.2).bind fun r16 =>
 (gif r16.1 false (fa P 58 r5.1 0 r16.2) r16.2).bind fun r17 =>
 (gif r16.1 false (ld P 3 r17.1 r17.2) r17.2).bind fun r18 =>
 (gif r16.1 false (vl r6.1 r18.2) r18.2).bind fun r19 =>
 (gif r16.1 false (bo P .neq 3 (.tmp 23) (.tmp 24) r18.1 r19.1 r19.2) r19.2).bind fun r20 =>
 (gif r12.1 true (pickV r16.1 (.bool true) r20.1 r20.2) r20.2).bind fun r21 =>
 (pickV r12.1 r21.1 (.bool false) r21.2).bind fun r22 =>
 cnd r22.1 (
 (vl (.bool false) r22.2).bind fun r23 =>
 some (r23.1, r23.2)) (
 (bo P .add 3 (.tmp 8) (.const (.int .i64 1)) (e 8) (.int .i64 1) r22.2).bind fun r24 =>
 (vl r24.1 r24.2).bind fun r25 =>
 impl_StoreOk_l1 (ups e [(9, r1.1), (10, r2.1), (11, r3.1), (12, r4.1), (4, r5.1), (3, r6.1), (13, r8.1), (14, r9.1), (15, r10.1), (16, r11.1), (17, r12.1), (18, r13.1), (19, r14.1), (20, r15.1), (21, r16.1), (22, r17.1), (23, r18.1), (24, r19.1), (25, r20.1), (26, r21.1), (27, r22.1), (28, r24.1), (8, r25.1)]) r25.2)) (
 (fa P 86 (e 1) 0 r1.2).bind fun r26 =>
 (ld P 45 r26.1 r26.2).bind fun r27 =>
 (b_len P #[45] 3 #[r27.1] r27.2).bind fun r28 =>
 (bo P .eql 3 (.tmp 31) (.const (.int .i64 4)) r28.1 (.int .i64 4) r28.2).bind fun r29 =>
 (vl r29.1 r29.2).bind fun r30 =>
 some (r30.1, r30.2)) := (exC_loop P (EV P) 68 33 (cA (cA (cB (cA (cB (bodyOf P 68)))))) e w (kBlock 0 (kSeq P (EV P) 68 33 (cB (cB (bodyOf P 68))) (kFn P (fnOf P 68))))).trans (by kernel_rfl)
theorem impl_StoreOk_fn (x0 : Value) (w : World) : fnC P (EV P) 68 #[x0] w =
 (bx P 86 x0 w).bind fun r1 =>
 (vl (.bool false) r1.2).bind fun r2 =>
 (fa P 86 r1.1 0 r2.2).bind fun r3 =>
 (ld P 45 r3.1 r3.2).bind fun r4 =>
 (b_len P #[45] 3 #[r4.1] r4.2).bind fun r5 =>
 (vl (.int .i64 0) r5.2).bind fun r6 =>
 impl_StoreOk_l1 (ups (env0 #[x0]) [(1, r1.1), (2, r2.1), (5, r3.1), (6, r4.1), (7, r5.1), (8, r6.1)]) r6.2 := by kernel_rfl
theorem slices_ContainsFunc_Ver_fn (x0 x1 : Value) (w : World) : fnC P (EV P) 69 #[x0, x1] w =
 (vl (.bool false) w).bind fun r1 =>
 (vl x0 r1.2).bind fun r2 =>
 (vl x1 r2.2).bind fun r3 =>
 (EV P 86 #[r2.1, r3.1] r3.2).bind fun r4 =>
 (bo P .geq 3 (.tmp 7) (.const (.int .i64 0)) r4.1 (.int .i64 0) r4.2).bind fun r5 =>
 (vl r5.1 r5.2).bind fun r6 =>
 some (r6.1, r6.2) := by kernel_rfl
theorem impl_ChainOk_1_fn (x0 : Value) (w : World) : fnC P (EV P) 70 #[x0] w =
 (bx P 58 x0 w).bind fun r1 =>
 (vl (.bool false) r1.2).bind fun r2 =>
 (ld P 58 r1.1 r2.2).bind fun r3 =>
 (EV P 71 #[r3.1] r3.2).bind fun r4 =>
 (uo P .not r4.1 r4.2).bind fun r5 =>
 (vl r5.1 r5.2).bind fun r6 =>
 some (r6.1, r6.2) := by kernel_rfl
theorem impl_VerOk_fn (x0 : Value) (w : World) : fnC P (EV P) 71 #[x0] w =
 (bx P 58 x0 w).bind fun r1 =>
 (vl (.bool false) r1.2).bind fun r2 =>
 (ld P 58 r1.1 (dw r2.2)).bind fun r4 =>
 ifP (r4.2 = (dw r2.2)) <|
 (EV P 87 #[r4.1] (dw r2.2)).bind fun r5 =>
 ifP (True ∧ True) <|
 (vl r5.1 r5.2).bind fun r6 =>
 ifP (r6.2 = r5.2) <|
 (gif r6.1 true (fa P 58 r1.1 1 r5.2) r5.2).bind fun r7 =>
 ifP (r7.2 = r5.2) <|
 (gif r6.1 true (ld P 53 r7.1 r5.2) r5.2).bind fun r8 =>
 ifP (r8.2 = r5.2) <|
 (gif r6.1 true (EV P 44 #[r8.1] r5.2) r5.2).bind fun r9 =>
 ifP (True ∧ True ∧ True ∧ True) <|
 (pickV r6.1 r9.1 (.bool false) r9.2).bind fun r10 =>
 ifP (r10.2 = r9.2) <|
 (vl r10.1 r9.2).bind fun r11 =>
 ifP (r11.2 = r9.2) <|
 (gif r11.1 true (fa P 58 r1.1 1 r9.2) r9.2).bind fun r12 =>
 ifP (r12.2 = r9.2) <|
 (gif r11.1 true (fa P 53 r12.1 0 r9.2) r9.2).bind fun r13 =>
 ifP (r13.2 = r9.2) <|
 (gif r11.1 true (ld P 3 r13.1 r9.2) r9.2).bind fun r14 =>
 ifP (r14.2 = r9.2) <|
 (gif r11.1 true (fa P 58 r1.1 2 r9.2) r9.2).bind fun r15 =>
 ifP (r15.2 = r9.2) <|
 (gif r11.1 true (ld P 51 r15.1 r9.2) r9.2).bind fun r16 =>
 ifP (r16.2 = r9.2) <|
 (gif r11.1 true (EV P 88 #[r16.1] r9.2) r9.2).bind fun r17 =>
 ifP (True ∧ True ∧ gif r11.1 true (ld P 3 r13.1 r17.2) r17.2 = some (r14.1, r17.2) ∧ gif r11.1 true (fa P 53 r12.1 0 r17.2) r17.2 = some (r13.1, r17.2) ∧ gif r11.1 true (fa P 58 r1.1 1 r17.2) r17.2 = some (r12.1, r17.2) ∧ True ∧ True ∧ True ∧ True) <|
 (gif r11.1 true (bo P .gtr 3 (.tmp 13) (.tmp 16) r14.1 r17.1 r17.2) r17.2).bind fun r18 =>
 ifP (r18.2 = r17.2) <|
 (pickV r11.1 r18.1 (.bool false) r17.2).bind fun r19 =>
 ifP (r19.2 = r17.2) <|
 (vl r19.1 r17.2).bind fun r20 =>
 ifP (r20.2 = r17.2) <|
 some (r20.1, r17.2) := by kernel_rfl
theorem impl_Chain_last_fn (x0 x1 : Value) (w : World) : fnC P (EV P) 72 #[x0, x1] w =
 (bx P 44 x0 w).bind fun r1 =>
 (vl (.bool false) r1.2).bind fun r2 =>
 (vl x1 r2.2).bind fun r3 =>
 (fa P 44 r1.1 0 r3.2).bind fun r4 =>
 (ld P 42 r4.1 r4.2).bind fun r5 =>
 (b_len P #[42] 3 #[r5.1] r5.2).bind fun r6 =>
 (bo P .sub 3 (.tmp 8) (.const (.int .i64 1)) r6.1 (.int .i64 1) r6.2).bind fun r7 =>
 (bo P .eql 3 (.tmp 5) (.tmp 9) r3.1 r7.1 r7.2).bind fun r8 =>
 (vl r8.1 r8.2).bind fun r9 =>
 some (r9.1, r9.2) := by kernel_rfl
noncomputable def impl_Node_fits_l1 (e : Env) (w : World) : Option (Value × World) := exC P (EV P) 73 32 (.loop (cA (cA (cB (cA (cB (cB (bodyOf P 73)))))))) e w (kBlock 0 (kSeq P (EV P) 73 32 (cB (cB (cB (bodyOf P 73)))) (kFn P (fnOf P 73))))
theorem impl_Node_fits_l1_eq (e : Env) (w : World) : impl_Node_fits_l1 e w =
 (bo P .lss 3 (.tmp 13) (.tmp 12) (e 13) (e 12) w).bind fun r1 =>
 cnd r1.1 (
 (ia P 45 (e 11) (e 13) r1.2).bind fun r2 =>
 (ld P 58 r2.1 r2.2).bind fun r3 =>
 (al P 58 r3.2).bind fun r4 =>
 (st P 58 r4.1 r3.1 r4.2).bind fun r5 =>
 (ld P 86 (e 5) r5.2).bind fun r6 =>
 (ld P 58 r4.1 r6.2).bind fun r7 =>
 (EV P 90 #[r6.1, r7.1] r7.2).bind fun r8 =>
 (uo P .not r8.1 r8.2).bind fun r9 =>
 cnd r9.1 (
 (vl (.bool false) r9.2).bind fun r10 =>
 some (r10.1, r10.2)) (
 (fa P 86 (e 5) 0 r9.2).bind fun r11 =>
 (ld P 45 r11.1 r11.2).bind fun r12 =>
 (fa P 58 r4.1 0 r12.2).bind fun r13 =>
 (ld P 3 r13.1 r13.2).bind fun r14 =>
 (ld P 58 r4.1 r14.2).bind fun r15 =>
 (ia P 45 r12.1 r14.1 r15.2).bind fun r16 =>
 (st P 58 r16.1 r15.1 r16.2).bind fun r17 =>
 (bo P .add 3 (.tmp 13) (.const (.int .i64 1)) (e 13) (.int .i64 1) r17.2).bind fun r18 =>
 (vl r18.1 r18.2).bind fun r19 =>
 impl_Node_fits_l1 (ups e [(14, r1.1), (15, r2.1), (16, r3.1), (7, r4.1), (17, r6.1), (18, r7.1), (19, r8.1), (20, r9.1), (21, r11.1), (22, r12.1), (23, r13.1), (24, r14.1), (25, r15.1), (26, r16.1), (27, r18.1), (13, r19.1)]) r19.2)) (
 (ld P 86 (e 5) r1.2).bind fun r20 =>
 (fa P 89 (e 2) 0 r20.2).bind fun r21 =>
 (ld P 86 r21.1 r21.2).bind fun r22 =>
 (EV P 63 #[r20.1, r22.1] r22.2).bind fun r23 =>
 (vl r23.1 r23.2).bind fun r24 =>
 some (r24.1, r24.2)) := (exC_loop P (EV P) 73 32 (cA (cA (cB (cA (cB (cB (bodyOf P 73))))))) e w (kBlock 0 (kSeq P (EV P) 73 32 (cB (cB (cB (bodyOf P 73)))) (kFn P (fnOf P 73))))).trans (by kernel_rfl)
theorem impl_Node_fits_fn (x0 x1 : Value) (w : World) : fnC P (EV P) 73 #[x0, x1] w =
 (bx P 89 x0 w).bind fun r1 =>
 (bx P 86 x1 r1.2).bind fun r2 =>
 (vl (.bool false) r2.2).bind fun r3 =>
 (ld P 86 r2.1 r3.2).bind fun r4 =>
 (EV P 89 #[r4.1] r4.2).bind fun r5 =>
 (al P 86 r5.2).bind fun r6 =>
 (st P 86 r6.1 r5.1 r6.2).bind fun r7 =>
 (fa P 89 r1.1 1 r7.2).bind fun r8 =>
 (ld P 45 r8.1 r8.2).bind fun r9 =>
 (b_len P #[45] 3 #[r9.1] r9.2).bind fun r10 =>
 (vl (.int .i64 0) r10.2).bind fun r11 =>
 impl_Node_fits_l1 (ups (env0 #[x0, x1]) [(2, r1.1), (3, r2.1), (4, r3.1), (8, r4.1), (9, r5.1), (5, r6.1), (10, r8.1), (11, r9.1), (12, r10.1), (13, r11.1)]) r11.2 := by kernel_rfl
theorem impl_hasTag_fn (x0 x1 : Value) (w : World) : fnC P (EV P) 74 #[x0, x1] w =
 (bx P 53 x1 w).bind fun r1 =>
 (vl (.bool false) r1.2).bind fun r2 =>
 (vl x0 r2.2).bind fun r3 =>
 (vl (.func (Go.Fn.func 91) #[] #[r1.1]) r3.2).bind fun r4 =>
 (EV P 69 #[r3.1, r4.1] r4.2).bind fun r5 =>
 (vl r5.1 r5.2).bind fun r6 =>
 some (r6.1, r6.2) := by kernel_rfl
noncomputable def slices_Grow_Ver_j1 (e : Env) (w : World) : Option (Value × World) := exC P (EV P) 75 27 (cB (cB (bodyOf P 75))) e w (kFn P (fnOf P 75))
noncomputable def slices_Grow_Ver_j2 (e : Env) (w : World) : Option (Value × World) := exC P (EV P) 75 27 (cB (cB (cB (bodyOf P 75)))) e w (kFn P (fnOf P 75))
theorem slices_Grow_Ver_j1_eq (e : Env) (w : World) : slices_Grow_Ver_j1 e w =
 (vl (e 1) w).bind fun r1 =>
 (vl (e 0) r1.2).bind fun r2 =>
 (b_cap P #[45] 3 #[r2.1] r2.2).bind fun r3 =>
 (vl (e 0) r3.2).bind fun r4 =>
 (b_len P #[45] 3 #[r4.1] r4.2).bind fun r5 =>
 (bo P .sub 3 (.tmp 10) (.tmp 12) r3.1 r5.1 r5.2).bind fun r6 =>
 (bo P .sub 3 (.tmp 8) (.tmp 13) r1.1 r6.1 r6.2).bind fun r7 =>
 (vl r7.1 r7.2).bind fun r8 =>
 (vl r8.1 r8.2).bind fun r9 =>
 (bo P .gtr 3 (.tmp 15) (.const (.int .i64 0)) r9.1 (.int .i64 0) r9.2).bind fun r10 =>
 cnd r10.1 (
 (vl (e 0) r10.2).bind fun r11 =>
 (vl (e 0) r11.2).bind fun r12 =>
 (b_cap P #[45] 3 #[r12.1] r12.2).bind fun r13 =>
 (sl P 45 r11.1 none (some r13.1) none r13.2).bind fun r14 =>
 (vl r8.1 r14.2).bind fun r15 =>
 (b_append P #[45, 3] 45 #[r14.1, r15.1] r15.2).bind fun r16 =>
 (vl (e 0) r16.2).bind fun r17 =>
 (b_len P #[45] 3 #[r17.1] r17.2).bind fun r18 =>
 (sl P 45 r16.1 none (some r18.1) none r18.2).bind fun r19 =>
 (vl r19.1 r19.2).bind fun r20 =>
 slices_Grow_Ver_j2 (ups e [(8, r1.1), (9, r2.1), (10, r3.1), (11, r4.1), (12, r5.1), (13, r6.1), (14, r7.1), (1, r8.1), (15, r9.1), (16, r10.1), (17, r11.1), (18, r12.1), (19, r13.1), (20, r14.1), (21, r15.1), (22, r16.1), (23, r17.1), (24, r18.1), (25, r19.1), (0, r20.1)]) r20.2) (
 slices_Grow_Ver_j2 (ups e [(8, r1.1), (9, r2.1), (10, r3.1), (11, r4.1), (12, r5.1), (13, r6.1), (14, r7.1), (1, r8.1), (15, r9.1), (16, r10.1)]) r10.2) := by kernel_rfl
theorem slices_Grow_Ver_j2_eq (e : Env) (w : World) : slices_Grow_Ver_j2 e w =
 (vl (e 0) w).bind fun r1 =>
 (vl r1.1 r1.2).bind fun r2 =>
 some (r2.1, r2.2) := by kernel_rfl
theorem slices_Grow_Ver_fn (x0 x1 : Value) (w : World) : fnC P (EV P) 75 #[x0, x1] w =
 (vl (Go.Value.slice none 0 0) w).bind fun r1 =>
 (vl x1 r1.2).bind fun r2 =>
 (bo P .lss 3 (.tmp 5) (.const (.int .i64 0)) r2.1 (.int .i64 0) r2.2).bind fun r3 =>
 cnd r3.1 (
 (mi P 9 (Go.Value.string { data := #[99, 97, 110, 110, 111, 116, 32, 98, 101, 32, 110, 101, 103, 97, 116, 105, 118, 101] }) r3.2).bind fun r4 =>
 ((none : Option (Value × World))).bind fun r5 =>
 slices_Grow_Ver_j1 (ups (env0 #[x0, x1]) [(4, r1.1), (5, r2.1), (6, r3.1), (7, r4.1)]) r5.2) (
 slices_Grow_Ver_j1 (ups (env0 #[x0, x1]) [(4, r1.1), (5, r2.1), (6, r3.1)]) r3.2) := by kernel_rfl
theorem impl_TagLess_fn (x0 x1 : Value) (w : World) : fnC P (EV P) 76 #[x0, x1] w =
 (bx P 53 x0 w).bind fun r1 =>
 (bx P 53 x1 r1.2).bind fun r2 =>
 (vl (.bool false) r2.2).bind fun r3 =>
 (ld P 53 r1.1 r3.2).bind fun r4 =>
 (ld P 53 r2.1 r4.2).bind fun r5 =>
 (EV P 92 #[r4.1, r5.1] r5.2).bind fun r6 =>
 (bo P .lss 3 (.tmp 7) (.const (.int .i64 0)) r6.1 (.int .i64 0) r6.2).bind fun r7 =>
 (vl r7.1 r7.2).bind fun r8 =>
 some (r8.1, r8.2) := by kernel_rfl
noncomputable def slices_Equal_Tag_l1 (e : Env) (w : World) : Option (Value × World) := exC P (EV P) 77 26 (.loop (cA (cA (cB (cA (cB (cB (bodyOf P 77)))))))) e w (kBlock 0 (kSeq P (EV P) 77 26 (cB (cB (cB (bodyOf P 77)))) (kFn P (fnOf P 77))))
theorem slices_Equal_Tag_l1_eq (e : Env) (w : World) : slices_Equal_Tag_l1 e w =
 (bo P .lss 3 (.tmp 13) (.tmp 12) (e 13) (e 12) w).bind fun r1 =>
 cnd r1.1 (
 (vl (e 13) r1.2).bind fun r2 =>
 (vl r2.1 r2.2).bind fun r3 =>
 (vl (e 0) (dw r3.2)).bind fun r5 =>
 ifP (r5.2 = (dw r3.2)) <|
 (vl r3.1 (dw r3.2)).bind fun r6 =>
 ifP (r6.2 = (dw r3.2)) <|
 (ia P 49 r5.1 r6.1 (dw r3.2)).bind fun r7 =>
 ifP (r7.2 = (dw r3.2)) <|
 (ld P 53 r7.1 (dw r3.2)).bind fun r8 =>
 ifP (r8.2 = (dw r3.2)) <|
 (vl (e 1) (dw r3.2)).bind fun r9 =>
 ifP (r9.2 = (dw r3.2)) <|
 (vl r3.1 (dw r3.2)).bind fun r10 =>
 ifP (r10.2 = (dw r3.2)) <|
 (ia P 49 r9.1 r10.1 (dw r3.2)).bind fun r11 =>
 ifP (r11.2 = (dw r3.2)) <|
 (ld P 53 r11.1 (dw r3.2)).bind fun r12 =>
 ifP (r12.2 = (dw r3.2)) <|
 (bo P .neq 53 (.tmp 19) (.tmp 23) r8.1 r12.1 (dw r3.2)).bind fun r13 =>
 ifP (r13.2 = (dw r3.2)) <|
 cnd r13.1 (
 (vl (.bool false) (dw r3.2)).bind fun r14 =>
 some (r14.1, r14.2)) (
 (bo P .add 3 (.tmp 13) (.const (.int .i64 1)) (e 13) (.int .i64 1) (dw r3.2)).bind fun r15 =>
 (vl r15.1 r15.2).bind fun r16 =>
 slices_Equal_Tag_l1 (ups e [(14, r1.1), (15, r2.1), (5, r3.1), (16, r5.1), (17, r6.1), (18, r7.1), (19, r8.1), (20, r9.1), (21, r10.1), (22, r11.1), (23, r12.1), (24, r13.1), (25, r15.1), (13, r16.1)]) r16.2)) (
 (vl (.bool true) r1.2).bind fun r17 =>
 some (r17.1, r17.2)) := (exC_loop P (EV P) 77 26 (cA (cA (cB (cA (cB (cB (bodyOf P 77))))))) e w (kBlock 0 (kSeq P (EV P) 77 26 (cB (cB (cB (bodyOf P 77)))) (kFn P (fnOf P 77))))).trans (by kernel_rfl)
theorem slices_Equal_Tag_fn (x0 x1 : Value) (w : World) : fnC P (EV P) 77 #[x0, x1] w =
 (vl (.bool false) w).bind fun r1 =>
 (vl x0 r1.2).bind fun r2 =>
 (b_len P #[49] 3 #[r2.1] r2.2).bind fun r3 =>
 (vl x1 r3.2).bind fun r4 =>
 (b_len P #[49] 3 #[r4.1] r4.2).bind fun r5 =>
 (bo P .neq 3 (.tmp 7) (.tmp 9) r3.1 r5.1 r5.2).bind fun r6 =>
 cnd r6.1 (
 (vl (.bool false) r6.2).bind fun r7 =>
 some (r7.1, r7.2)) (
 (vl x0 r6.2).bind fun r8 =>
 (b_len P #[49] 3 #[r8.1] r8.2).bind fun r9 =>
 (vl (.int .i64 0) r9.2).bind fun r10 =>
 slices_Equal_Tag_l1 (ups (env0 #[x0, x1]) [(4, r1.1), (6, r2.1), (7, r3.1), (8, r4.1), (9, r5.1), (10, r6.1), (11, r8.1), (12, r9.1), (13, r10.1)]) r10.2) := by kernel_rfl
theorem slices_ContainsFunc_Tag_fn (x0 x1 : Value) (w : World) : fnC P (EV P) 78 #[x0, x1] w =
 (vl (.bool false) w).bind fun r1 =>
 (vl x0 r1.2).bind fun r2 =>
 (vl x1 r2.2).bind fun r3 =>
 (EV P 93 #[r2.1, r3.1] r3.2).bind fun r4 =>
 (bo P .geq 3 (.tmp 7) (.const (.int .i64 0)) r4.1 (.int .i64 0) r4.2).bind fun r5 =>
 (vl r5.1 r5.2).bind fun r6 =>
 some (r6.1, r6.2) := by kernel_rfl
theorem impl_PastOk_1_fn (x0 : Value) (w : World) : fnC P (EV P) 79 #[x0] w =
 (bx P 53 x0 w).bind fun r1 =>
 (vl (.bool false) r1.2).bind fun r2 =>
 (ld P 53 r1.1 r2.2).bind fun r3 =>
 (EV P 44 #[r3.1] r3.2).bind fun r4 =>
 (uo P .not r4.1 r4.2).bind fun r5 =>
 (vl r5.1 r5.2).bind fun r6 =>
 some (r6.1, r6.2) := by kernel_rfl
theorem impl_Past_copied_fn (x0 : Value) (w : World) : fnC P (EV P) 80 #[x0] w =
 (bx P 51 x0 w).bind fun r1 =>
 (al P 51 r1.2).bind fun r2 =>
 (fa P 51 r1.1 0 r2.2).bind fun r3 =>
 (ld P 49 r3.1 r3.2).bind fun r4 =>
 (EV P 95 #[r4.1] r4.2).bind fun r5 =>
 (EV P 94 #[r5.1] r5.2).bind fun r6 =>
 (bd P 51 #[(0, r6.1)] r6.2).bind fun r7 =>
 (st P 51 r2.1 r7.1 r7.2).bind fun r8 =>
 ((ld P 51 r2.1 r8.2).bind fun r9 => ifP (r9.2 = r8.2) (some r9.1)).bind fun v10 =>
 some (v10, r8.2) := by kernel_rfl
theorem impl_TagMax_fn (x0 x1 : Value) (w : World) : fnC P (EV P) 81 #[x0, x1] w =
 (bx P 53 x0 w).bind fun r1 =>
 (bx P 53 x1 r1.2).bind fun r2 =>
 (al P 53 r2.2).bind fun r3 =>
 (ld P 53 r1.1 r3.2).bind fun r4 =>
 (ld P 53 r2.1 r4.2).bind fun r5 =>
 (EV P 76 #[r4.1, r5.1] r5.2).bind fun r6 =>
 cnd r6.1 (
 (ld P 53 r2.1 r6.2).bind fun r7 =>
 (st P 53 r3.1 r7.1 r7.2).bind fun r8 =>
 ((ld P 53 r3.1 r8.2).bind fun r9 => ifP (r9.2 = r8.2) (some r9.1)).bind fun v10 =>
 some (v10, r8.2)) (
 (ld P 53 r1.1 r6.2).bind fun r11 =>
 (st P 53 r3.1 r11.1 r11.2).bind fun r12 =>
 ((ld P 53 r3.1 r12.2).bind fun r13 => ifP (r13.2 = r12.2) (some r13.1)).bind fun v14 =>
 some (v14, r12.2)) := by kernel_rfl
theorem impl_checked_fn (x0 : Value) (w : World) : fnC P (EV P) 82 #[x0] w =
 (vl (Go.Value.pointer none) w).bind fun r1 =>
 (vl (.bool false) r1.2).bind fun r2 =>
 (vl x0 r2.2).bind fun r3 =>
 (EV P 21 #[r3.1] r3.2).bind fun r4 =>
 (uo P .not r4.1 r4.2).bind fun r5 =>
 cnd r5.1 (
 (vl (Go.Value.pointer none) r5.2).bind fun r6 =>
 (vl (.bool false) r6.2).bind fun r7 =>
 some (.tuple #[r6.1, r7.1], r7.2)) (
 (vl x0 r5.2).bind fun r8 =>
 (EV P 96 #[r8.1] r8.2).bind fun r9 =>
 (vl r9.1 r9.2).bind fun r10 =>
 (xt P r10.1 0 r10.2).bind fun r11 =>
 (xt P r10.1 1 r11.2).bind fun r12 =>
 (vl r11.1 r12.2).bind fun r13 =>
 (vl r12.1 r13.2).bind fun r14 =>
 (vl r13.1 r14.2).bind fun r15 =>
 (vl r14.1 r15.2).bind fun r16 =>
 (vl x0 r16.2).bind fun r17 =>
 (b_len P #[28] 3 #[r17.1] r17.2).bind fun r18 =>
 (bo P .eql 3 (.tmp 15) (.tmp 17) r16.1 r18.1 r18.2).bind fun r19 =>
 (vl r15.1 r19.2).bind fun r20 =>
 (vl r19.1 r20.2).bind fun r21 =>
 some (.tuple #[r20.1, r21.1], r21.2)) := by kernel_rfl
noncomputable def slices_IndexFunc_Node_l1 (e : Env) (w : World) : Option (Value × World) := exC P (EV P) 83 19 (.loop (cA (cA (cB (cA (cB (bodyOf P 83))))))) e w (kBlock 0 (kSeq P (EV P) 83 19 (cB (cB (bodyOf P 83))) (kFn P (fnOf P 83))))
theorem slices_IndexFunc_Node_l1_eq (e : Env) (w : World) : slices_IndexFunc_Node_l1 e w =
 (bo P .lss 3 (.tmp 8) (.tmp 7) (e 8) (e 7) w).bind fun r1 =>
 cnd r1.1 (
 (vl (e 8) r1.2).bind fun r2 =>
 (vl r2.1 r2.2).bind fun r3 =>
 (vl (e 1) r3.2).bind fun r4 =>
 (vl (e 0) r4.2).bind fun r5 =>
 (vl r3.1 r5.2).bind fun r6 =>
 (ia P 42 r5.1 r6.1 r6.2).bind fun r7 =>
 (ld P 89 r7.1 r7.2).bind fun r8 =>
 (clo P r4.1 #[r8.1] r8.2).bind fun r9 =>
 cnd r9.1 (
 (vl r3.1 r9.2).bind fun r10 =>
 (vl r10.1 r10.2).bind fun r11 =>
 some (r11.1, r11.2)) (
 (bo P .add 3 (.tmp 8) (.const (.int .i64 1)) (e 8) (.int .i64 1) r9.2).bind fun r12 =>
 (vl r12.1 r12.2).bind fun r13 =>
 slices_IndexFunc_Node_l1 (ups e [(9, r1.1), (10, r2.1), (5, r3.1), (11, r4.1), (12, r5.1), (13, r6.1), (14, r7.1), (15, r8.1), (16, r9.1), (18, r12.1), (8, r13.1)]) r13.2)) (
 (vl (.int .i64 (-1)) r1.2).bind fun r14 =>
 some (r14.1, r14.2)) := (exC_loop P (EV P) 83 19 (cA (cA (cB (cA (cB (bodyOf P 83)))))) e w (kBlock 0 (kSeq P (EV P) 83 19 (cB (cB (bodyOf P 83))) (kFn P (fnOf P 83))))).trans (by kernel_rfl)
theorem slices_IndexFunc_Node_fn (x0 x1 : Value) (w : World) : fnC P (EV P) 83 #[x0, x1] w =
 (vl (.int .i64 0) w).bind fun r1 =>
 (vl x0 r1.2).bind fun r2 =>
 (b_len P #[42] 3 #[r2.1] r2.2).bind fun r3 =>
 (vl (.int .i64 0) r3.2).bind fun r4 =>
 slices_IndexFunc_Node_l1 (ups (env0 #[x0, x1]) [(4, r1.1), (6, r2.1), (7, r3.1), (8, r4.1)]) r4.2 := by kernel_rfl
theorem impl_StoreNew_fn (w : World) : fnC P (EV P) 84 #[] w =
 (al P 86 w).bind fun r1 =>
 (ms P 45 (.int .i64 4) (.int .i64 4) r1.2).bind fun r2 =>
 (bd P 86 #[(0, r2.1)] r2.2).bind fun r3 =>
 (st P 86 r1.1 r3.1 r3.2).bind fun r4 =>
 ((ld P 86 r1.1 r4.2).bind fun r5 => ifP (r5.2 = r4.2) (some r5.1)).bind fun v6 =>
 some (v6, r4.2) := by kernel_rfl
theorem spec_l2New_fn (w : World) : fnC P (EV P) 85 #[] w =
 (al P 86 w).bind fun r1 =>
 (ms P 45 (.int .i64 4) (.int .i64 4) r1.2).bind fun r2 =>
 (bd P 86 #[(0, r2.1)] r2.2).bind fun r3 =>
 (st P 86 r1.1 r3.1 r3.2).bind fun r4 =>
 ((ld P 86 r1.1 r4.2).bind fun r5 => ifP (r5.2 = r4.2) (some r5.1)).bind fun v6 =>
 some (v6, r4.2) := by kernel_rfl
noncomputable def slices_IndexFunc_Ver_l1 (e : Env) (w : World) : Option (Value × World) := exC P (EV P) 86 19 (.loop (cA (cA (cB (cA (cB (bodyOf P 86))))))) e w (kBlock 0 (kSeq P (EV P) 86 19 (cB (cB (bodyOf P 86))) (kFn P (fnOf P 86))))
theorem slices_IndexFunc_Ver_l1_eq (e : Env) (w : World) : slices_IndexFunc_Ver_l1 e w =
 (bo P .lss 3 (.tmp 8) (.tmp 7) (e 8) (e 7) w).bind fun r1 =>
 cnd r1.1 (
 (vl (e 8) r1.2).bind fun r2 =>
 (vl r2.1 r2.2).bind fun r3 =>
 (vl (e 1) r3.2).bind fun r4 =>
 (vl (e 0) r4.2).bind fun r5 =>
 (vl r3.1 r5.2).bind fun r6 =>
 (ia P 45 r5.1 r6.1 r6.2).bind fun r7 =>
 (ld P 58 r7.1 r7.2).bind fun r8 =>
 (clo P r4.1 #[r8.1] r8.2).bind fun r9 =>
 cnd r9.1 (
 (vl r3.1 r9.2).bind fun r10 =>
 (vl r10.1 r10.2).bind fun r11 =>
 some (r11.1, r11.2)) (
 (bo P .add 3 (.tmp 8) (.const (.int .i64 1)) (e 8) (.int .i64 1) r9.2).bind fun r12 =>
 (vl r12.1 r12.2).bind fun r13 =>
 slices_IndexFunc_Ver_l1 (ups e [(9, r1.1), (10, r2.1), (5, r3.1), (11, r4.1), (12, r5.1), (13, r6.1), (14, r7.1), (15, r8.1), (16, r9.1), (18, r12.1), (8, r13.1)]) r13.2)) (
 (vl (.int .i64 (-1)) r1.2).bind fun r14 =>
 some (r14.1, r14.2)) := (exC_loop P (EV P) 86 19 (cA (cA (cB (cA (cB (bodyOf P 86)))))) e w (kBlock 0 (kSeq P (EV P) 86 19 (cB (cB (bodyOf P 86))) (kFn P (fnOf P 86))))).trans (by kernel_rfl)
theorem slices_IndexFunc_Ver_fn (x0 x1 : Value) (w : World) : fnC P (EV P) 86 #[x0, x1] w =
 (vl (.int .i64 0) w).bind fun r1 =>
 (vl x0 r1.2).bind fun r2 =>
 (b_len P #[45] 3 #[r2.1] r2.2).bind fun r3 =>
 (vl (.int .i64 0) r3.2).bind fun r4 =>
 slices_IndexFunc_Ver_l1 (ups (env0 #[x0, x1]) [(4, r1.1), (6, r2.1), (7, r3.1), (8, r4.1)]) r4.2 := by kernel_rfl
theorem impl_Ver_written_fn (x0 : Value) (w : World) : fnC P (EV P) 87 #[x0] w =
 (bx P 58 x0 w).bind fun r1 =>
 (vl (.bool false) r1.2).bind fun r2 =>
 (fa P 58 r1.1 0 r2.2).bind fun r3 =>
 (ld P 3 r3.1 r3.2).bind fun r4 =>
 (EV P 43 #[r4.1] r4.2).bind fun r5 =>
 (vl r5.1 r5.2).bind fun r6 =>
 (gif r6.1 true (fa P 58 r1.1 3 r6.2) r6.2).bind fun r7 =>
 (gif r6.1 true (ld P 9 r7.1 r7.2) r7.2).bind fun r8 =>
 (gif r6.1 true (EV P 97 #[r8.1] r8.2) r8.2).bind fun r9 =>
 (pickV r6.1 r9.1 (.bool false) r9.2).bind fun r10 =>
 (vl r10.1 r10.2).bind fun r11 =>
 (gif r11.1 true (fa P 58 r1.1 4 r11.2) r11.2).bind fun r12 =>
 (gif r11.1 true (ld P 4 r12.1 r12.2) r12.2).bind fun r13 =>
 (gif r11.1 true (uo P .not r13.1 r13.2) r13.2).bind fun r14 =>
 (gif r11.1 true (vl r14.1 r14.2) r14.2).bind fun r15 =>
 (gif r15.1 false (fa P 58 r1.1 3 r15.2) r15.2).bind fun r16 =>
 (gif r15.1 false (ld P 9 r16.1 r16.2) r16.2).bind fun r17 =>
 (gif r15.1 false (bo P .eql 9 (.tmp 17) (.const (Go.Value.string { data := #[] })) r17.1 (Go.Value.string { data := #[] }) r17.2) r17.2).bind fun r18 =>
 (gif r11.1 true (pickV r15.1 (.bool true) r18.1 r18.2) r18.2).bind fun r19 =>
 (pickV r11.1 r19.1 (.bool false) r19.2).bind fun r20 =>
 (vl r20.1 r20.2).bind fun r21 =>
 (gif r21.1 true (fa P 58 r1.1 2 r21.2) r21.2).bind fun r22 =>
 (gif r21.1 true (ld P 51 r22.1 r22.2) r22.2).bind fun r23 =>
 (gif r21.1 true (EV P 55 #[r23.1] r23.2) r23.2).bind fun r24 =>
 (pickV r21.1 r24.1 (.bool false) r24.2).bind fun r25 =>
 (vl r25.1 r25.2).bind fun r26 =>
 some (r26.1, r26.2) := by kernel_rfl
noncomputable def impl_Past_latest_l1 (e : Env) (w : World) : Option (Value × World) := exC P (EV P) 88 19 (.loop (cA (cA (cB (cA (cB (cB (bodyOf P 88)))))))) e w (kBlock 0 (kSeq P (EV P) 88 19 (cB (cB (cB (bodyOf P 88)))) (kFn P (fnOf P 88))))
theorem impl_Past_latest_l1_eq (e : Env) (w : World) : impl_Past_latest_l1 e w =
 (bo P .lss 3 (.tmp 9) (.tmp 8) (e 9) (e 8) w).bind fun r1 =>
 cnd r1.1 (
 (ia P 49 (e 7) (e 9) r1.2).bind fun r2 =>
 (ld P 53 r2.1 r2.2).bind fun r3 =>
 (al P 53 r3.2).bind fun r4 =>
 (st P 53 r4.1 r3.1 r4.2).bind fun r5 =>
 (vl (e 3) r5.2).bind fun r6 =>
 (fa P 53 r4.1 0 r6.2).bind fun r7 =>
 (ld P 3 r7.1 r7.2).bind fun r8 =>
 (b_max P #[3, 3] 3 #[r6.1, r8.1] r8.2).bind fun r9 =>
 (vl r9.1 r9.2).bind fun r10 =>
 (bo P .add 3 (.tmp 9) (.const (.int .i64 1)) (e 9) (.int .i64 1) r10.2).bind fun r11 =>
 (vl r11.1 r11.2).bind fun r12 =>
 impl_Past_latest_l1 (ups e [(10, r1.1), (11, r2.1), (12, r3.1), (5, r4.1), (13, r6.1), (14, r7.1), (15, r8.1), (16, r9.1), (3, r10.1), (17, r11.1), (9, r12.1)]) r12.2) (
 (vl (e 3) r1.2).bind fun r13 =>
 (vl r13.1 r13.2).bind fun r14 =>
 some (r14.1, r14.2)) := (exC_loop P (EV P) 88 19 (cA (cA (cB (cA (cB (cB (bodyOf P 88))))))) e w (kBlock 0 (kSeq P (EV P) 88 19 (cB (cB (cB (bodyOf P 88)))) (kFn P (fnOf P 88))))).trans (by kernel_rfl)
theorem impl_Past_latest_fn (x0 : Value) (w : World) : fnC P (EV P) 88 #[x0] w =
 (bx P 51 x0 w).bind fun r1 =>
 (vl (.int .i64 0) r1.2).bind fun r2 =>
 (vl (.int .i64 0) r2.2).bind fun r3 =>
 (fa P 51 r1.1 0 r3.2).bind fun r4 =>
 (ld P 49 r4.1 r4.2).bind fun r5 =>
 (b_len P #[49] 3 #[r5.1] r5.2).bind fun r6 =>
 (vl (.int .i64 0) r6.2).bind fun r7 =>
 impl_Past_latest_l1 (ups (env0 #[x0]) [(1, r1.1), (2, r2.1), (3, r3.1), (6, r4.1), (7, r5.1), (8, r6.1), (9, r7.1)]) r7.2 := by kernel_rfl
theorem impl_Store_copied_fn (x0 : Value) (w : World) : fnC P (EV P) 89 #[x0] w =
 (bx P 86 x0 w).bind fun r1 =>
 (al P 86 r1.2).bind fun r2 =>
 (fa P 86 r1.1 0 r2.2).bind fun r3 =>
 (ld P 45 r3.1 r3.2).bind fun r4 =>
 (EV P 98 #[r4.1] r4.2).bind fun r5 =>
 (bd P 86 #[(0, r5.1)] r5.2).bind fun r6 =>
 (st P 86 r2.1 r6.1 r6.2).bind fun r7 =>
 ((ld P 86 r2.1 r7.2).bind fun r8 => ifP (r8.2 = r7.2) (some r8.1)).bind fun v9 =>
 some (v9, r7.2) := by kernel_rfl
theorem impl_Store_later_fn (x0 x1 : Value) (w : World) : fnC P (EV P) 90 #[x0, x1] w =
 (bx P 86 x0 w).bind fun r1 =>
 (bx P 58 x1 r1.2).bind fun r2 =>
 (vl (.bool false) r2.2).bind fun r3 =>
 (fa P 86 r1.1 0 (dw r3.2)).bind fun r5 =>
 ifP (r5.2 = (dw r3.2)) <|
 (ld P 45 r5.1 (dw r3.2)).bind fun r6 =>
 ifP (r6.2 = (dw r3.2)) <|
 (fa P 58 r2.1 0 (dw r3.2)).bind fun r7 =>
 ifP (r7.2 = (dw r3.2)) <|
 (ld P 3 r7.1 (dw r3.2)).bind fun r8 =>
 ifP (r8.2 = (dw r3.2)) <|
 (ia P 45 r6.1 r8.1 (dw r3.2)).bind fun r9 =>
 ifP (r9.2 = (dw r3.2)) <|
 (fa P 58 r9.1 1 (dw r3.2)).bind fun r10 =>
 ifP (r10.2 = (dw r3.2)) <|
 (ld P 53 r10.1 (dw r3.2)).bind fun r11 =>
 ifP (r11.2 = (dw r3.2)) <|
 (fa P 58 r2.1 1 (dw r3.2)).bind fun r12 =>
 ifP (r12.2 = (dw r3.2)) <|
 (ld P 53 r12.1 (dw r3.2)).bind fun r13 =>
 ifP (r13.2 = (dw r3.2)) <|
 (EV P 76 #[r11.1, r13.1] (dw r3.2)).bind fun r14 =>
 ifP (True ∧ True ∧ True ∧ True ∧ True ∧ True ∧ True ∧ True ∧ True ∧ True) <|
 (vl r14.1 r14.2).bind fun r15 =>
 ifP (r15.2 = r14.2) <|
 some (r15.1, r14.2) := by kernel_rfl
theorem impl_hasTag_1_fn (x0 x1 : Value) (w : World) : fnC P (EV P) 91 #[x0, x1] w =
 (bx P 58 x0 w).bind fun r1 =>
 (vl (.bool false) r1.2).bind fun r2 =>
 (fa P 58 r1.1 1 r2.2).bind fun r3 =>
 (ld P 53 r3.1 r3.2).bind fun r4 =>
 (ld P 53 x1 r4.2).bind fun r5 =>
 (bo P .eql 53 (.tmp 5) (.tmp 6) r4.1 r5.1 r5.2).bind fun r6 =>
 (vl r6.1 r6.2).bind fun r7 =>
 some (r7.1, r7.2) := by kernel_rfl
theorem impl_Tag_compare_fn (x0 x1 : Value) (w : World) : fnC P (EV P) 92 #[x0, x1] w =
 (bx P 53 x0 w).bind fun r1 =>
 (bx P 53 x1 r1.2).bind fun r2 =>
 (vl (.int .i64 0) r2.2).bind fun r3 =>
 (fa P 53 r1.1 0 (dw r3.2)).bind fun r5 =>
 ifP (r5.2 = (dw r3.2)) <|
 (ld P 3 r5.1 (dw r3.2)).bind fun r6 =>
 ifP (r6.2 = (dw r3.2)) <|
 (fa P 53 r2.1 0 (dw r3.2)).bind fun r7 =>
 ifP (r7.2 = (dw r3.2)) <|
 (ld P 3 r7.1 (dw r3.2)).bind fun r8 =>
 ifP (r8.2 = (dw r3.2)) <|
 (fa P 53 r1.1 1 (dw r3.2)).bind fun r9 =>
 ifP (r9.2 = (dw r3.2)) <|
 (ld P 3 r9.1 (dw r3.2)).bind fun r10 =>
 ifP (r10.2 = (dw r3.2)) <|
 (fa P 53 r2.1 1 (dw r3.2)).bind fun r11 =>
 ifP (r11.2 = (dw r3.2)) <|
 (ld P 3 r11.1 (dw r3.2)).bind fun r12 =>
 ifP (r12.2 = (dw r3.2)) <|
 (EV P 100 #[r6.1, r8.1] (dw r3.2)).bind fun r13 =>
 ifP (ld P 3 r11.1 r13.2 = some (r12.1, r13.2) ∧ fa P 53 r2.1 1 r13.2 = some (r11.1, r13.2) ∧ ld P 3 r9.1 r13.2 = some (r10.1, r13.2) ∧ fa P 53 r1.1 1 r13.2 = some (r9.1, r13.2) ∧ True ∧ True ∧ True ∧ True ∧ True) <|
 (EV P 100 #[r10.1, r12.1] r13.2).bind fun r14 =>
 ifP (True ∧ True ∧ True ∧ True ∧ True ∧ True ∧ True ∧ True ∧ True) <|
 (bs P 38 2 #[(0, r13.1), (1, r14.1)] r14.2).bind fun r15 =>
 ifP (True ∧ True ∧ True ∧ True ∧ True ∧ True ∧ True ∧ True ∧ True) <|
 (EV P 99 #[r15.1] r15.2).bind fun r16 =>
 ifP (True ∧ True ∧ True ∧ True ∧ True ∧ True ∧ True ∧ True ∧ True) <|
 (vl r16.1 r16.2).bind fun r17 =>
 ifP (r17.2 = r16.2) <|
 some (r17.1, r16.2) := by kernel_rfl
noncomputable def slices_IndexFunc_Tag_l1 (e : Env) (w : World) : Option (Value × World) := exC P (EV P) 93 19 (.loop (cA (cA (cB (cA (cB (bodyOf P 93))))))) e w (kBlock 0 (kSeq P (EV P) 93 19 (cB (cB (bodyOf P 93))) (kFn P (fnOf P 93))))
theorem slices_IndexFunc_Tag_l1_eq (e : Env) (w : World) : slices_IndexFunc_Tag_l1 e w =
 (bo P .lss 3 (.tmp 8) (.tmp 7) (e 8) (e 7) w).bind fun r1 =>
 cnd r1.1 (
 (vl (e 8) r1.2).bind fun r2 =>
 (vl r2.1 r2.2).bind fun r3 =>
 (vl (e 1) r3.2).bind fun r4 =>
 (vl (e 0) r4.2).bind fun r5 =>
 (vl r3.1 r5.2).bind fun r6 =>
 (ia P 49 r5.1 r6.1 r6.2).bind fun r7 =>
 (ld P 53 r7.1 r7.2).bind fun r8 =>
 (clo P r4.1 #[r8.1] r8.2).bind fun r9 =>
 cnd r9.1 (
 (vl r3.1 r9.2).bind fun r10 =>
 (vl r10.1 r10.2).bind fun r11 =>
 some (r11.1, r11.2)) (
 (bo P .add 3 (.tmp 8) (.const (.int .i64 1)) (e 8) (.int .i64 1) r9.2).bind fun r12 =>
 (vl r12.1 r12.2).bind fun r13 =>
 slices_IndexFunc_Tag_l1 (ups e [(9, r1.1), (10, r2.1), (5, r3.1), (11, r4.1), (12, r5.1), (13, r6.1), (14, r7.1), (15, r8.1), (16, r9.1), (18, r12.1), (8, r13.1)]) r13.2)) (
 (vl (.int .i64 (-1)) r1.2).bind fun r14 =>
 some (r14.1, r14.2)) := (exC_loop P (EV P) 93 19 (cA (cA (cB (cA (cB (bodyOf P 93)))))) e w (kBlock 0 (kSeq P (EV P) 93 19 (cB (cB (bodyOf P 93))) (kFn P (fnOf P 93))))).trans (by kernel_rfl)
theorem slices_IndexFunc_Tag_fn (x0 x1 : Value) (w : World) : fnC P (EV P) 93 #[x0, x1] w =
 (vl (.int .i64 0) w).bind fun r1 =>
 (vl x0 r1.2).bind fun r2 =>
 (b_len P #[49] 3 #[r2.1] r2.2).bind fun r3 =>
 (vl (.int .i64 0) r3.2).bind fun r4 =>
 slices_IndexFunc_Tag_l1 (ups (env0 #[x0, x1]) [(4, r1.1), (6, r2.1), (7, r3.1), (8, r4.1)]) r4.2 := by kernel_rfl
theorem slices_Clip_Tag_fn (x0 : Value) (w : World) : fnC P (EV P) 94 #[x0] w =
 (vl (Go.Value.slice none 0 0) w).bind fun r1 =>
 (vl x0 r1.2).bind fun r2 =>
 (vl x0 r2.2).bind fun r3 =>
 (b_len P #[49] 3 #[r3.1] r3.2).bind fun r4 =>
 (vl x0 r4.2).bind fun r5 =>
 (b_len P #[49] 3 #[r5.1] r5.2).bind fun r6 =>
 (sl P 49 r2.1 none (some r4.1) (some r6.1) r6.2).bind fun r7 =>
 (vl r7.1 r7.2).bind fun r8 =>
 some (r8.1, r8.2) := by kernel_rfl
theorem slices_Clone_Tag_fn (x0 : Value) (w : World) : fnC P (EV P) 95 #[x0] w =
 (vl (Go.Value.slice none 0 0) w).bind fun r1 =>
 (vl x0 r1.2).bind fun r2 =>
 (bo P .eql 49 (.tmp 3) (.const (Go.Value.slice none 0 0)) r2.1 (Go.Value.slice none 0 0) r2.2).bind fun r3 =>
 cnd r3.1 (
 (vl (Go.Value.slice none 0 0) r3.2).bind fun r4 =>
 some (r4.1, r4.2)) (
 (bs P 49 0 #[] r3.2).bind fun r5 =>
 (vl x0 r5.2).bind fun r6 =>
 (b_append P #[49, 49] 49 #[r5.1, r6.1] r6.2).bind fun r7 =>
 (vl r7.1 r7.2).bind fun r8 =>
 some (r8.1, r8.2)) := by kernel_rfl
noncomputable def impl_bookOf_l1 (e : Env) (w : World) : Option (Value × World) := exC P (EV P) 96 25 (.loop (cA (cA (cB (cA (cB (cB (bodyOf P 96)))))))) e w (kBlock 0 (kSeq P (EV P) 96 25 (cB (cB (cB (bodyOf P 96)))) (kFn P (fnOf P 96))))
theorem impl_bookOf_l1_eq (e : Env) (w : World) : impl_bookOf_l1 e w =
 (bo P .lss 3 (.tmp 10) (.tmp 9) (e 10) (e 9) w).bind fun r1 =>
 cnd r1.1 (
 (vl (e 10) r1.2).bind fun r2 =>
 (ia P 28 (e 8) (e 10) r2.2).bind fun r3 =>
 (ld P 78 r3.1 r3.2).bind fun r4 =>
 (al P 78 r4.2).bind fun r5 =>
 (vl r2.1 r5.2).bind fun r6 =>
 (st P 78 r5.1 r4.1 r6.2).bind fun r7 =>
 (vl (e 4) r7.2).bind fun r8 =>
 (ld P 78 r5.1 r8.2).bind fun r9 =>
 (EV P 102 #[r8.1, r9.1] r9.2).bind fun r10 =>
 (uo P .not r10.1 r10.2).bind fun r11 =>
 cnd r11.1 (
 (vl (e 4) r11.2).bind fun r12 =>
 (vl r6.1 r12.2).bind fun r13 =>
 (vl r12.1 r13.2).bind fun r14 =>
 (vl r13.1 r14.2).bind fun r15 =>
 some (.tuple #[r14.1, r15.1], r15.2)) (
 (bo P .add 3 (.tmp 10) (.const (.int .i64 1)) (e 10) (.int .i64 1) r11.2).bind fun r16 =>
 (vl r16.1 r16.2).bind fun r17 =>
 impl_bookOf_l1 (ups e [(11, r1.1), (12, r2.1), (13, r3.1), (14, r4.1), (6, r5.1), (5, r6.1), (15, r8.1), (16, r9.1), (17, r10.1), (18, r11.1), (21, r16.1), (10, r17.1)]) r17.2)) (
 (vl (e 4) r1.2).bind fun r18 =>
 (vl (e 0) r18.2).bind fun r19 =>
 (b_len P #[28] 3 #[r19.1] r19.2).bind fun r20 =>
 (vl r18.1 r20.2).bind fun r21 =>
 (vl r20.1 r21.2).bind fun r22 =>
 some (.tuple #[r21.1, r22.1], r22.2)) := (exC_loop P (EV P) 96 25 (cA (cA (cB (cA (cB (cB (bodyOf P 96))))))) e w (kBlock 0 (kSeq P (EV P) 96 25 (cB (cB (cB (bodyOf P 96)))) (kFn P (fnOf P 96))))).trans (by kernel_rfl)
theorem impl_bookOf_fn (x0 : Value) (w : World) : fnC P (EV P) 96 #[x0] w =
 (vl (Go.Value.pointer none) w).bind fun r1 =>
 (vl (.int .i64 0) r1.2).bind fun r2 =>
 (EV P 101 #[] r2.2).bind fun r3 =>
 (vl r3.1 r3.2).bind fun r4 =>
 (vl x0 r4.2).bind fun r5 =>
 (b_len P #[28] 3 #[r5.1] r5.2).bind fun r6 =>
 (vl (.int .i64 0) r6.2).bind fun r7 =>
 impl_bookOf_l1 (ups (env0 #[x0]) [(2, r1.1), (3, r2.1), (7, r3.1), (4, r4.1), (8, r5.1), (9, r6.1), (10, r7.1)]) r7.2 := by kernel_rfl
noncomputable def impl_textOk_l1 (e : Env) (w : World) : Option (Value × World) := exC P (EV P) 97 19 (.loop (cA (cA (cB (cA (cB (bodyOf P 97))))))) e w (kBlock 0 (kSeq P (EV P) 97 19 (cB (cB (bodyOf P 97))) (kFn P (fnOf P 97))))
theorem impl_textOk_l1_eq (e : Env) (w : World) : impl_textOk_l1 e w =
 (bo P .lss 3 (.tmp 6) (.tmp 5) (e 6) (e 5) w).bind fun r1 =>
 cnd r1.1 (
 (vl (e 6) r1.2).bind fun r2 =>
 (vl r2.1 r2.2).bind fun r3 =>
 (vl (e 0) r3.2).bind fun r4 =>
 (vl r3.1 r4.2).bind fun r5 =>
 (ix P 9 r4.1 r5.1 r5.2).bind fun r6 =>
 (cv P 5 3 r6.1 r6.2).bind fun r7 =>
 (EV P 34 #[r7.1, (.int .i64 33), (.int .i64 126)] r7.2).bind fun r8 =>
 (uo P .not r8.1 r8.2).bind fun r9 =>
 cnd r9.1 (
 (vl (.bool false) r9.2).bind fun r10 =>
 some (r10.1, r10.2)) (
 (bo P .add 3 (.tmp 6) (.const (.int .i64 1)) (e 6) (.int .i64 1) r9.2).bind fun r11 =>
 (vl r11.1 r11.2).bind fun r12 =>
 impl_textOk_l1 (ups e [(7, r1.1), (8, r2.1), (3, r3.1), (9, r4.1), (10, r5.1), (11, r6.1), (12, r7.1), (13, r8.1), (14, r9.1), (15, r11.1), (6, r12.1)]) r12.2)) (
 (vl (e 0) r1.2).bind fun r13 =>
 (b_len P #[9] 3 #[r13.1] r13.2).bind fun r14 =>
 (bo P .leq 3 (.tmp 17) (.const (.int .i64 8)) r14.1 (.int .i64 8) r14.2).bind fun r15 =>
 (vl r15.1 r15.2).bind fun r16 =>
 some (r16.1, r16.2)) := (exC_loop P (EV P) 97 19 (cA (cA (cB (cA (cB (bodyOf P 97)))))) e w (kBlock 0 (kSeq P (EV P) 97 19 (cB (cB (bodyOf P 97))) (kFn P (fnOf P 97))))).trans (by kernel_rfl)
theorem impl_textOk_fn (x0 : Value) (w : World) : fnC P (EV P) 97 #[x0] w =
 (vl (.bool false) w).bind fun r1 =>
 (vl x0 r1.2).bind fun r2 =>
 (b_len P #[9] 3 #[r2.1] r2.2).bind fun r3 =>
 (vl (.int .i64 0) r3.2).bind fun r4 =>
 impl_textOk_l1 (ups (env0 #[x0]) [(2, r1.1), (4, r2.1), (5, r3.1), (6, r4.1)]) r4.2 := by kernel_rfl
noncomputable def impl_versCopied_l1 (e : Env) (w : World) : Option (Value × World) := exC P (EV P) 98 22 (.loop (cA (cA (cB (cA (cB (cB (bodyOf P 98)))))))) e w (kBlock 0 (kSeq P (EV P) 98 22 (cB (cB (cB (bodyOf P 98)))) (kFn P (fnOf P 98))))
theorem impl_versCopied_l1_eq (e : Env) (w : World) : impl_versCopied_l1 e w =
 (bo P .lss 3 (.tmp 11) (.tmp 10) (e 11) (e 10) w).bind fun r1 =>
 cnd r1.1 (
 (ia P 45 (e 9) (e 11) r1.2).bind fun r2 =>
 (ld P 58 r2.1 r2.2).bind fun r3 =>
 (al P 58 r3.2).bind fun r4 =>
 (st P 58 r4.1 r3.1 r4.2).bind fun r5 =>
 (vl (e 3) r5.2).bind fun r6 =>
 (ld P 58 r4.1 r6.2).bind fun r7 =>
 (EV P 103 #[r7.1] r7.2).bind fun r8 =>
 (bs P 45 1 #[(0, r8.1)] r8.2).bind fun r9 =>
 (b_append P #[45, 45] 45 #[r6.1, r9.1] r9.2).bind fun r10 =>
 (vl r10.1 r10.2).bind fun r11 =>
 (bo P .add 3 (.tmp 11) (.const (.int .i64 1)) (e 11) (.int .i64 1) r11.2).bind fun r12 =>
 (vl r12.1 r12.2).bind fun r13 =>
 impl_versCopied_l1 (ups e [(12, r1.1), (13, r2.1), (14, r3.1), (5, r4.1), (15, r6.1), (16, r7.1), (17, r8.1), (18, r9.1), (19, r10.1), (3, r11.1), (20, r12.1), (11, r13.1)]) r13.2) (
 (vl (e 3) r1.2).bind fun r14 =>
 (vl r14.1 r14.2).bind fun r15 =>
 some (r15.1, r15.2)) := (exC_loop P (EV P) 98 22 (cA (cA (cB (cA (cB (cB (bodyOf P 98))))))) e w (kBlock 0 (kSeq P (EV P) 98 22 (cB (cB (cB (bodyOf P 98)))) (kFn P (fnOf P 98))))).trans (by kernel_rfl)
theorem impl_versCopied_fn (x0 : Value) (w : World) : fnC P (EV P) 98 #[x0] w =
 (vl (Go.Value.slice none 0 0) w).bind fun r1 =>
 (vl x0 r1.2).bind fun r2 =>
 (b_len P #[45] 3 #[r2.1] r2.2).bind fun r3 =>
 (ms P 45 (.int .i64 0) r3.1 r3.2).bind fun r4 =>
 (vl r4.1 r4.2).bind fun r5 =>
 (vl x0 r5.2).bind fun r6 =>
 (b_len P #[45] 3 #[r6.1] r6.2).bind fun r7 =>
 (vl (.int .i64 0) r7.2).bind fun r8 =>
 impl_versCopied_l1 (ups (env0 #[x0]) [(2, r1.1), (6, r2.1), (7, r3.1), (8, r4.1), (3, r5.1), (9, r6.1), (10, r7.1), (11, r8.1)]) r8.2 := by kernel_rfl
noncomputable def cmp_Or_int_l1 (e : Env) (w : World) : Option (Value × World) := exC P (EV P) 99 18 (.loop (cA (cA (cB (cA (cB (cB (bodyOf P 99)))))))) e w (kBlock 0 (kSeq P (EV P) 99 18 (cB (cB (cB (bodyOf P 99)))) (kFn P (fnOf P 99))))
theorem cmp_Or_int_l1_eq (e : Env) (w : World) : cmp_Or_int_l1 e w =
 (bo P .lss 3 (.tmp 8) (.tmp 7) (e 8) (e 7) w).bind fun r1 =>
 cnd r1.1 (
 (ia P 38 (e 6) (e 8) r1.2).bind fun r2 =>
 (ld P 3 r2.1 r2.2).bind fun r3 =>
 (vl r3.1 r3.2).bind fun r4 =>
 (vl r4.1 r4.2).bind fun r5 =>
 (vl (e 3) r5.2).bind fun r6 =>
 (bo P .neq 3 (.tmp 12) (.tmp 13) r5.1 r6.1 r6.2).bind fun r7 =>
 cnd r7.1 (
 (vl r4.1 r7.2).bind fun r8 =>
 (vl r8.1 r8.2).bind fun r9 =>
 some (r9.1, r9.2)) (
 (bo P .add 3 (.tmp 8) (.const (.int .i64 1)) (e 8) (.int .i64 1) r7.2).bind fun r10 =>
 (vl r10.1 r10.2).bind fun r11 =>
 cmp_Or_int_l1 (ups e [(9, r1.1), (10, r2.1), (11, r3.1), (5, r4.1), (12, r5.1), (13, r6.1), (14, r7.1), (16, r10.1), (8, r11.1)]) r11.2)) (
 (vl (e 3) r1.2).bind fun r12 =>
 (vl r12.1 r12.2).bind fun r13 =>
 some (r13.1, r13.2)) := (exC_loop P (EV P) 99 18 (cA (cA (cB (cA (cB (cB (bodyOf P 99))))))) e w (kBlock 0 (kSeq P (EV P) 99 18 (cB (cB (cB (bodyOf P 99)))) (kFn P (fnOf P 99))))).trans (by kernel_rfl)
theorem cmp_Or_int_fn (x0 : Value) (w : World) : fnC P (EV P) 99 #[x0] w =
 (vl (.int .i64 0) w).bind fun r1 =>
 (vl (.int .i64 0) r1.2).bind fun r2 =>
 (vl x0 r2.2).bind fun r3 =>
 (b_len P #[38] 3 #[r3.1] r3.2).bind fun r4 =>
 (vl (.int .i64 0) r4.2).bind fun r5 =>
 cmp_Or_int_l1 (ups (env0 #[x0]) [(2, r1.1), (3, r2.1), (6, r3.1), (7, r4.1), (8, r5.1)]) r5.2 := by kernel_rfl
theorem cmp_Compare_int_fn (x0 x1 : Value) (w : World) : fnC P (EV P) 100 #[x0, x1] w =
 (vl (.int .i64 0) w).bind fun r1 =>
 (vl x0 r1.2).bind fun r2 =>
 (EV P 104 #[r2.1] r2.2).bind fun r3 =>
 (vl r3.1 r3.2).bind fun r4 =>
 (vl x1 r4.2).bind fun r5 =>
 (EV P 104 #[r5.1] r5.2).bind fun r6 =>
 (vl r6.1 r6.2).bind fun r7 =>
 (vl r4.1 r7.2).bind fun r8 =>
 cnd r8.1 (
 (vl r7.1 r8.2).bind fun r9 =>
 cnd r9.1 (
 (vl (.int .i64 0) r9.2).bind fun r10 =>
 some (r10.1, r10.2)) (
 (vl (.int .i64 (-1)) r9.2).bind fun r11 =>
 some (r11.1, r11.2))) (
 (vl r7.1 r8.2).bind fun r12 =>
 cnd r12.1 (
 (vl (.int .i64 1) r12.2).bind fun r13 =>
 some (r13.1, r13.2)) (
 (vl x0 r12.2).bind fun r14 =>
 (vl x1 r14.2).bind fun r15 =>
 (bo P .lss 3 (.tmp 14) (.tmp 15) r14.1 r15.1 r15.2).bind fun r16 =>
 cnd r16.1 (
 (vl (.int .i64 (-1)) r16.2).bind fun r17 =>
 some (r17.1, r17.2)) (
 (vl x0 r16.2).bind fun r18 =>
 (vl x1 r18.2).bind fun r19 =>
 (bo P .gtr 3 (.tmp 17) (.tmp 18) r18.1 r19.1 r19.2).bind fun r20 =>
 cnd r20.1 (
 (vl (.int .i64 1) r20.2).bind fun r21 =>
 some (r21.1, r21.2)) (
 (vl (.int .i64 0) r20.2).bind fun r22 =>
 some (r22.1, r22.2))))) := by kernel_rfl
noncomputable def impl_bookNew_l1 (e : Env) (w : World) : Option (Value × World) := exC P (EV P) 101 17 (.loop (cA (cA (cB (cA (cB (cB (bodyOf P 101)))))))) e w (kBlock 0 (kSeq P (EV P) 101 17 (cB (cB (cB (bodyOf P 101)))) (kFn P (fnOf P 101))))
theorem impl_bookNew_l1_eq (e : Env) (w : World) : impl_bookNew_l1 e w =
 (bo P .lss 3 (.tmp 6) (.const (.int .i64 4)) (e 6) (.int .i64 4) w).bind fun r1 =>
 cnd r1.1 (
 (vl (e 6) r1.2).bind fun r2 =>
 (vl r2.1 r2.2).bind fun r3 =>
 (vl (e 1) (dw r3.2)).bind fun r5 =>
 ifP (r5.2 = (dw r3.2)) <|
 (vl r3.1 (dw r3.2)).bind fun r6 =>
 ifP (r6.2 = (dw r3.2)) <|
 (nk P r5.1 (dw r3.2)).bind fun r7 =>
 ifP (r7.2 = (dw r3.2)) <|
 (fa P 132 r7.1 0 (dw r3.2)).bind fun r8 =>
 ifP (r8.2 = (dw r3.2)) <|
 (EV P 36 #[] (dw r3.2)).bind fun r9 =>
 ifP (fa P 132 r7.1 0 r9.2 = some (r8.1, r9.2) ∧ nk P r5.1 r9.2 = some (r7.1, r9.2) ∧ True) <|
 (ia P 130 r8.1 r6.1 r9.2).bind fun r10 =>
 ifP (r10.2 = r9.2) <|
 (st P 51 r10.1 r9.1 r9.2).bind fun r11 =>
 ifP (True ∧ True ∧ True ∧ True) <|
 (bo P .add 3 (.tmp 6) (.const (.int .i64 1)) (e 6) (.int .i64 1) r11.2).bind fun r12 =>
 (vl r12.1 r12.2).bind fun r13 =>
 impl_bookNew_l1 (ups e [(7, r1.1), (8, r2.1), (2, r3.1), (9, r5.1), (10, r6.1), (12, r7.1), (13, r8.1), (11, r9.1), (14, r10.1), (15, r12.1), (6, r13.1)]) r13.2) (
 (vl (e 1) r1.2).bind fun r14 =>
 (vl r14.1 r14.2).bind fun r15 =>
 some (r15.1, r15.2)) := (exC_loop P (EV P) 101 17 (cA (cA (cB (cA (cB (cB (bodyOf P 101))))))) e w (kBlock 0 (kSeq P (EV P) 101 17 (cB (cB (cB (bodyOf P 101)))) (kFn P (fnOf P 101))))).trans (by kernel_rfl)
theorem impl_bookNew_fn (w : World) : fnC P (EV P) 101 #[] w =
 (vl (Go.Value.pointer none) w).bind fun r1 =>
 (mm P 129 none r1.2).bind fun r2 =>
 (bd P 132 #[(1, r2.1)] r2.2).bind fun r3 =>
 (bx P 132 r3.1 r3.2).bind fun r4 =>
 (vl r4.1 r4.2).bind fun r5 =>
 (vl (.int .i64 0) r5.2).bind fun r6 =>
 impl_bookNew_l1 (ups (env0 #[]) [(0, r1.1), (3, r2.1), (4, r3.1), (5, r4.1), (1, r5.1), (6, r6.1)]) r6.2 := by kernel_rfl
theorem impl_book_add_fn (x0 x1 : Value) (w : World) : fnC P (EV P) 102 #[x0, x1] w =
 (bx P 78 x1 w).bind fun r1 =>
 (vl (.bool false) r1.2).bind fun r2 =>
 (vl x0 (dw r2.2)).bind fun r4 =>
 ifP (r4.2 = (dw r2.2)) <|
 (fa P 78 r1.1 0 (dw r2.2)).bind fun r5 =>
 ifP (r5.2 = (dw r2.2)) <|
 (ld P 3 r5.1 (dw r2.2)).bind fun r6 =>
 ifP (r6.2 = (dw r2.2)) <|
 (nk P r4.1 (dw r2.2)).bind fun r7 =>
 ifP (r7.2 = (dw r2.2)) <|
 (fa P 132 r7.1 0 (dw r2.2)).bind fun r8 =>
 ifP (r8.2 = (dw r2.2)) <|
 (ia P 130 r8.1 r6.1 (dw r2.2)).bind fun r9 =>
 ifP (r9.2 = (dw r2.2)) <|
 (ld P 51 r9.1 (dw r2.2)).bind fun r10 =>
 ifP (r10.2 = (dw r2.2)) <|
 (al P 51 (dw r2.2)).bind fun r11 =>
 ifP (ld P 51 r9.1 r11.2 = some (r10.1, r11.2) ∧ ia P 130 r8.1 r6.1 r11.2 = some (r9.1, r11.2) ∧ fa P 132 r7.1 0 r11.2 = some (r8.1, r11.2) ∧ nk P r4.1 r11.2 = some (r7.1, r11.2) ∧ ld P 3 r5.1 r11.2 = some (r6.1, r11.2) ∧ fa P 78 r1.1 0 r11.2 = some (r5.1, r11.2) ∧ True) <|
 (st P 51 r11.1 r10.1 r11.2).bind fun r12 =>
 ifP (True ∧ True ∧ True ∧ True ∧ True ∧ True ∧ True) <|
 (vl x0 (dw r12.2)).bind fun r14 =>
 ifP (r14.2 = (dw r12.2)) <|
 (nk P r14.1 (dw r12.2)).bind fun r15 =>
 ifP (r15.2 = (dw r12.2)) <|
 (fa P 132 r15.1 1 (dw r12.2)).bind fun r16 =>
 ifP (r16.2 = (dw r12.2)) <|
 (ld P 129 r16.1 (dw r12.2)).bind fun r17 =>
 ifP (r17.2 = (dw r12.2)) <|
 (fa P 78 r1.1 3 (dw r12.2)).bind fun r18 =>
 ifP (r18.2 = (dw r12.2)) <|
 (ld P 53 r18.1 (dw r12.2)).bind fun r19 =>
 ifP (r19.2 = (dw r12.2)) <|
 (lk P 129 r17.1 r19.1 true (dw r12.2)).bind fun r20 =>
 ifP (r20.2 = (dw r12.2)) <|
 (vl r20.1 (dw r12.2)).bind fun r21 =>
 ifP (r21.2 = (dw r12.2)) <|
 (xt P r21.1 0 (dw r12.2)).bind fun r22 =>
 ifP (r22.2 = (dw r12.2)) <|
 (xt P r21.1 1 (dw r12.2)).bind fun r23 =>
 ifP (r23.2 = (dw r12.2)) <|
 (al P 134 (dw r12.2)).bind fun r24 =>
 ifP (xt P r21.1 1 r24.2 = some (r23.1, r24.2) ∧ xt P r21.1 0 r24.2 = some (r22.1, r24.2) ∧ lk P 129 r17.1 r19.1 true r24.2 = some (r20.1, r24.2) ∧ ld P 53 r18.1 r24.2 = some (r19.1, r24.2) ∧ fa P 78 r1.1 3 r24.2 = some (r18.1, r24.2) ∧ ld P 129 r16.1 r24.2 = some (r17.1, r24.2) ∧ fa P 132 r15.1 1 r24.2 = some (r16.1, r24.2) ∧ nk P r14.1 r24.2 = some (r15.1, r24.2) ∧ True) <|
 (st P 134 r24.1 r22.1 r24.2).bind fun r25 =>
 ifP (xt P r21.1 1 r25.2 = some (r23.1, r25.2) ∧ True ∧ True ∧ True ∧ True ∧ True ∧ True ∧ True ∧ True) <|
 (vl r23.1 r25.2).bind fun r26 =>
 ifP (r26.2 = r25.2) <|
 (fa P 78 r1.1 1 r25.2).bind fun r27 =>
 (ld P 3 r27.1 r27.2).bind fun r28 =>
 (bo P .eql 3 (.tmp 26) (.const (.int .i64 1)) r28.1 (.int .i64 1) r28.2).bind fun r29 =>
 cnd r29.1 (
 (vl r26.1 (dw r29.2)).bind fun r31 =>
 ifP (r31.2 = (dw r29.2)) <|
 (vl r31.1 (dw r29.2)).bind fun r32 =>
 ifP (r32.2 = (dw r29.2)) <|
 (gif r32.1 false (fa P 78 r1.1 3 (dw r29.2)) (dw r29.2)).bind fun r33 =>
 ifP (r33.2 = (dw r29.2)) <|
 (gif r32.1 false (fa P 53 r33.1 0 (dw r29.2)) (dw r29.2)).bind fun r34 =>
 ifP (r34.2 = (dw r29.2)) <|
 (gif r32.1 false (ld P 3 r34.1 (dw r29.2)) (dw r29.2)).bind fun r35 =>
 ifP (r35.2 = (dw r29.2)) <|
 (gif r32.1 false (ld P 51 r11.1 (dw r29.2)) (dw r29.2)).bind fun r36 =>
 ifP (r36.2 = (dw r29.2)) <|
 (gif r32.1 false (EV P 88 #[r36.1] (dw r29.2)) (dw r29.2)).bind fun r37 =>
 ifP (True ∧ gif r32.1 false (ld P 3 r34.1 r37.2) r37.2 = some (r35.1, r37.2) ∧ gif r32.1 false (fa P 53 r33.1 0 r37.2) r37.2 = some (r34.1, r37.2) ∧ gif r32.1 false (fa P 78 r1.1 3 r37.2) r37.2 = some (r33.1, r37.2) ∧ True) <|
 (gif r32.1 false (bo P .leq 3 (.tmp 32) (.tmp 34) r35.1 r37.1 r37.2) r37.2).bind fun r38 =>
 ifP (r38.2 = r37.2) <|
 (pickV r32.1 (.bool true) r38.1 r37.2).bind fun r39 =>
 ifP (r39.2 = r37.2) <|
 cnd r39.1 (
 (vl (.bool false) r37.2).bind fun r40 =>
 some (r40.1, r40.2)) (
 (vl x0 (dw r37.2)).bind fun r42 =>
 ifP (r42.2 = (dw r37.2)) <|
 (nk P r42.1 (dw r37.2)).bind fun r43 =>
 ifP (r43.2 = (dw r37.2)) <|
 (fa P 132 r43.1 1 (dw r37.2)).bind fun r44 =>
 ifP (r44.2 = (dw r37.2)) <|
 (ld P 129 r44.1 (dw r37.2)).bind fun r45 =>
 ifP (r45.2 = (dw r37.2)) <|
 (fa P 78 r1.1 3 (dw r37.2)).bind fun r46 =>
 ifP (r46.2 = (dw r37.2)) <|
 (ld P 53 r46.1 (dw r37.2)).bind fun r47 =>
 ifP (r47.2 = (dw r37.2)) <|
 (fa P 78 r1.1 0 (dw r37.2)).bind fun r48 =>
 ifP (r48.2 = (dw r37.2)) <|
 (ld P 3 r48.1 (dw r37.2)).bind fun r49 =>
 ifP (r49.2 = (dw r37.2)) <|
 (fa P 78 r1.1 2 (dw r37.2)).bind fun r50 =>
 ifP (r50.2 = (dw r37.2)) <|
 (ld P 3 r50.1 (dw r37.2)).bind fun r51 =>
 ifP (r51.2 = (dw r37.2)) <|
 (ld P 51 r11.1 (dw r37.2)).bind fun r52 =>
 ifP (r52.2 = (dw r37.2)) <|
 (bd P 134 #[(0, r49.1), (1, r51.1), (2, r52.1)] (dw r37.2)).bind fun r53 =>
 ifP (r53.2 = (dw r37.2)) <|
 (mu P 129 r45.1 r47.1 r53.1 (dw r37.2)).bind fun r54 =>
 ifP (True ∧ True ∧ True ∧ True ∧ True ∧ True ∧ True ∧ True ∧ True ∧ True ∧ True ∧ True) <|
 (vl (.bool true) r54.2).bind fun r55 =>
 some (r55.1, r55.2))) (
 (fa P 78 r1.1 3 (dw r29.2)).bind fun r57 =>
 ifP (r57.2 = (dw r29.2)) <|
 (ld P 53 r57.1 (dw r29.2)).bind fun r58 =>
 ifP (r58.2 = (dw r29.2)) <|
 (fa P 51 r11.1 0 (dw r29.2)).bind fun r59 =>
 ifP (r59.2 = (dw r29.2)) <|
 (ld P 49 r59.1 (dw r29.2)).bind fun r60 =>
 ifP (r60.2 = (dw r29.2)) <|
 (fa P 78 r1.1 2 (dw r29.2)).bind fun r61 =>
 ifP (r61.2 = (dw r29.2)) <|
 (ld P 3 r61.1 (dw r29.2)).bind fun r62 =>
 ifP (r62.2 = (dw r29.2)) <|
 (ia P 49 r60.1 r62.1 (dw r29.2)).bind fun r63 =>
 ifP (r63.2 = (dw r29.2)) <|
 (ld P 53 r63.1 (dw r29.2)).bind fun r64 =>
 ifP (r64.2 = (dw r29.2)) <|
 (EV P 76 #[r58.1, r64.1] (dw r29.2)).bind fun r65 =>
 ifP (True ∧ True ∧ True ∧ True ∧ True ∧ True ∧ True ∧ True ∧ True) <|
 cnd r65.1 (
 (vl (.bool false) r65.2).bind fun r66 =>
 some (r66.1, r66.2)) (
 (fa P 78 r1.1 3 r65.2).bind fun r67 =>
 (ld P 53 r67.1 r67.2).bind fun r68 =>
 (bd P 53 #[] r68.2).bind fun r69 =>
 (bo P .eql 53 (.tmp 59) (.tmp 60) r68.1 r69.1 r69.2).bind fun r70 =>
 cnd r70.1 (
 (vl (.bool true) r70.2).bind fun r71 =>
 some (r71.1, r71.2)) (
 (vl r26.1 r70.2).bind fun r72 =>
 (uo P .not r72.1 r72.2).bind fun r73 =>
 (vl r73.1 r73.2).bind fun r74 =>
 (gif r74.1 false (fa P 134 r24.1 1 r74.2) r74.2).bind fun r75 =>
 (gif r74.1 false (ld P 3 r75.1 r75.2) r75.2).bind fun r76 =>
 (gif r74.1 false (fa P 78 r1.1 2 r76.2) r76.2).bind fun r77 =>
 (gif r74.1 false (ld P 3 r77.1 r77.2) r77.2).bind fun r78 =>
 (gif r74.1 false (bo P .neq 3 (.tmp 66) (.tmp 68) r76.1 r78.1 r78.2) r78.2).bind fun r79 =>
 (pickV r74.1 (.bool true) r79.1 r79.2).bind fun r80 =>
 (vl r80.1 r80.2).bind fun r81 =>
 (gif r81.1 false (fa P 78 r1.1 1 r81.2) r81.2).bind fun r82 =>
 (gif r81.1 false (ld P 3 r82.1 r82.2) r82.2).bind fun r83 =>
 (gif r81.1 false (bo P .eql 3 (.tmp 73) (.const (.int .i64 3)) r83.1 (.int .i64 3) r83.2) r83.2).bind fun r84 =>
 (gif r81.1 false (vl r84.1 r84.2) r84.2).bind fun r85 =>
 (gif r85.1 true (fa P 134 r24.1 0 r85.2) r85.2).bind fun r86 =>
 (gif r85.1 true (ld P 3 r86.1 r86.2) r86.2).bind fun r87 =>
 (gif r85.1 true (fa P 78 r1.1 0 r87.2) r87.2).bind fun r88 =>
 (gif r85.1 true (ld P 3 r88.1 r88.2) r88.2).bind fun r89 =>
 (gif r85.1 true (bo P .neq 3 (.tmp 77) (.tmp 79) r87.1 r89.1 r89.2) r89.2).bind fun r90 =>
 (gif r81.1 false (pickV r85.1 r90.1 (.bool false) r90.2) r90.2).bind fun r91 =>
 (pickV r81.1 (.bool true) r91.1 r91.2).bind fun r92 =>
 cnd r92.1 (
 (vl (.bool false) r92.2).bind fun r93 =>
 some (r93.1, r93.2)) (
 (vl x0 (dw r92.2)).bind fun r95 =>
 ifP (r95.2 = (dw r92.2)) <|
 (fa P 78 r1.1 0 (dw r92.2)).bind fun r96 =>
 ifP (r96.2 = (dw r92.2)) <|
 (ld P 3 r96.1 (dw r92.2)).bind fun r97 =>
 ifP (r97.2 = (dw r92.2)) <|
 (ld P 51 r11.1 (dw r92.2)).bind fun r98 =>
 ifP (r98.2 = (dw r92.2)) <|
 (fa P 134 r24.1 2 (dw r92.2)).bind fun r99 =>
 ifP (r99.2 = (dw r92.2)) <|
 (ld P 51 r99.1 (dw r92.2)).bind fun r100 =>
 ifP (r100.2 = (dw r92.2)) <|
 (fa P 78 r1.1 2 (dw r92.2)).bind fun r101 =>
 ifP (r101.2 = (dw r92.2)) <|
 (ld P 3 r101.1 (dw r92.2)).bind fun r102 =>
 ifP (r102.2 = (dw r92.2)) <|
 (fa P 78 r1.1 3 (dw r92.2)).bind fun r103 =>
 ifP (r103.2 = (dw r92.2)) <|
 (ld P 53 r103.1 (dw r92.2)).bind fun r104 =>
 ifP (r104.2 = (dw r92.2)) <|
 (nk P r95.1 (dw r92.2)).bind fun r105 =>
 ifP (r105.2 = (dw r92.2)) <|
 (fa P 132 r105.1 0 (dw r92.2)).bind fun r106 =>
 ifP (r106.2 = (dw r92.2)) <|
 (EV P 58 #[r98.1, r100.1] (dw r92.2)).bind fun r107 =>
 ifP (fa P 132 r105.1 0 r107.2 = some (r106.1, r107.2) ∧ nk P r95.1 r107.2 = some (r105.1, r107.2) ∧ ld P 53 r103.1 r107.2 = some (r104.1, r107.2) ∧ fa P 78 r1.1 3 r107.2 = some (r103.1, r107.2) ∧ ld P 3 r101.1 r107.2 = some (r102.1, r107.2) ∧ fa P 78 r1.1 2 r107.2 = some (r101.1, r107.2) ∧ True ∧ True ∧ True ∧ ld P 3 r96.1 r107.2 = some (r97.1, r107.2) ∧ fa P 78 r1.1 0 r107.2 = some (r96.1, r107.2) ∧ True) <|
 (EV P 105 #[r107.1, r102.1, r104.1] r107.2).bind fun r108 =>
 ifP (fa P 132 r105.1 0 r108.2 = some (r106.1, r108.2) ∧ nk P r95.1 r108.2 = some (r105.1, r108.2) ∧ True ∧ True ∧ True ∧ True ∧ True ∧ True ∧ True ∧ ld P 3 r96.1 r108.2 = some (r97.1, r108.2) ∧ fa P 78 r1.1 0 r108.2 = some (r96.1, r108.2) ∧ True) <|
 (ia P 130 r106.1 r97.1 r108.2).bind fun r109 =>
 ifP (r109.2 = r108.2) <|
 (st P 51 r109.1 r108.1 r108.2).bind fun r110 =>
 ifP (True ∧ True ∧ True ∧ True ∧ True ∧ True ∧ True ∧ True ∧ True ∧ True ∧ True ∧ True ∧ True) <|
 (vl (.bool true) r110.2).bind fun r111 =>
 some (r111.1, r111.2))))) := by kernel_rfl
theorem impl_Ver_copied_fn (x0 : Value) (w : World) : fnC P (EV P) 103 #[x0] w =
 (bx P 58 x0 w).bind fun r1 =>
 (al P 58 r1.2).bind fun r2 =>
 (fa P 58 r1.1 2 r2.2).bind fun r3 =>
 (ld P 51 r3.1 r3.2).bind fun r4 =>
 (EV P 80 #[r4.1] r4.2).bind fun r5 =>
 (fa P 58 r1.1 2 r5.2).bind fun r6 =>
 (st P 51 r6.1 r5.1 r6.2).bind fun r7 =>
 (ld P 58 r1.1 r7.2).bind fun r8 =>
 (st P 58 r2.1 r8.1 r8.2).bind fun r9 =>
 ((ld P 58 r2.1 r9.2).bind fun r10 => ifP (r10.2 = r9.2) (some r10.1)).bind fun v11 =>
 some (v11, r9.2) := by kernel_rfl
theorem cmp_isNaN_int_fn (x0 : Value) (w : World) : fnC P (EV P) 104 #[x0] w =
 (vl (.bool false) w).bind fun r1 =>
 (vl x0 r1.2).bind fun r2 =>
 (vl x0 r2.2).bind fun r3 =>
 (bo P .neq 3 (.tmp 3) (.tmp 4) r2.1 r3.1 r3.2).bind fun r4 =>
 (vl r4.1 r4.2).bind fun r5 =>
 some (r5.1, r5.2) := by kernel_rfl
theorem impl_Past_with_fn (x0 x1 x2 : Value) (w : World) : fnC P (EV P) 105 #[x0, x1, x2] w =
 (bx P 51 x0 w).bind fun r1 =>
 (bx P 53 x2 r1.2).bind fun r2 =>
 (al P 51 r2.2).bind fun r3 =>
 (ld P 51 r1.1 r3.2).bind fun r4 =>
 (EV P 80 #[r4.1] r4.2).bind fun r5 =>
 (al P 51 r5.2).bind fun r6 =>
 (st P 51 r6.1 r5.1 r6.2).bind fun r7 =>
 (fa P 51 r6.1 0 (dw r7.2)).bind fun r9 =>
 ifP (r9.2 = (dw r7.2)) <|
 (ld P 49 r9.1 (dw r7.2)).bind fun r10 =>
 ifP (r10.2 = (dw r7.2)) <|
 (vl x1 (dw r7.2)).bind fun r11 =>
 ifP (r11.2 = (dw r7.2)) <|
 (fa P 51 r6.1 0 (dw r7.2)).bind fun r12 =>
 ifP (r12.2 = (dw r7.2)) <|
 (ld P 49 r12.1 (dw r7.2)).bind fun r13 =>
 ifP (r13.2 = (dw r7.2)) <|
 (vl x1 (dw r7.2)).bind fun r14 =>
 ifP (r14.2 = (dw r7.2)) <|
 (ia P 49 r13.1 r14.1 (dw r7.2)).bind fun r15 =>
 ifP (r15.2 = (dw r7.2)) <|
 (ld P 53 r15.1 (dw r7.2)).bind fun r16 =>
 ifP (r16.2 = (dw r7.2)) <|
 (ld P 53 r2.1 (dw r7.2)).bind fun r17 =>
 ifP (r17.2 = (dw r7.2)) <|
 (EV P 81 #[r16.1, r17.1] (dw r7.2)).bind fun r18 =>
 ifP (True ∧ True ∧ True ∧ True ∧ True ∧ ld P 49 r9.1 r18.2 = some (r10.1, r18.2) ∧ fa P 51 r6.1 0 r18.2 = some (r9.1, r18.2) ∧ True) <|
 (ia P 49 r10.1 r11.1 r18.2).bind fun r19 =>
 ifP (r19.2 = r18.2) <|
 (st P 53 r19.1 r18.1 r18.2).bind fun r20 =>
 ifP (True ∧ True ∧ True ∧ True ∧ True ∧ True ∧ True ∧ True ∧ True) <|
 (ld P 51 r6.1 r20.2).bind fun r21 =>
 (st P 51 r3.1 r21.1 r21.2).bind fun r22 =>
 ((ld P 51 r3.1 r22.2).bind fun r23 => ifP (r23.2 = r22.2) (some r23.1)).bind fun v24 =>
 some (v24, r22.2) := by kernel_rfl
end Go.Proofs.YtligcpabhddggaaGreat.X
