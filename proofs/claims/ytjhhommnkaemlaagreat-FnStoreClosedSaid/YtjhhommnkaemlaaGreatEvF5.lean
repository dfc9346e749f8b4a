/- A part of the proof, without conditions. -/
import Derived.Test.YtjhhommnkaemlaaGreatEvT
set_option linter.unusedVariables false
set_option linter.unusedSimpArgs false
set_option linter.deprecated false
set_option maxRecDepth 100000
namespace Go.Proofs.YtjhhommnkaemlaaGreat.X
open Go Go.Ev
noncomputable def DS (e : Env) (w : World) : Option (Value × World) := Bu P (EV P) 122 109 (cB (cB (cB (cB (cB (cB (cB (cB (Ai P 122))))))))) e w (Be P (AA P 122))
theorem Ju (e : Env) (w : World) : DS e w =
 (fa P 77 (e 2) 1 w).bind fun r1 =>
 (ld P 74 r1.1 r1.2).bind fun r2 =>
 (fa P 137 (e 3) 1 r2.2).bind fun r3 =>
 (ld P 3 r3.1 r3.2).bind fun r4 =>
 (bd P 36 #[] r4.2).bind fun r5 =>
 (ia P 74 r2.1 r4.1 r5.2).bind fun r6 =>
 (fa P 129 r6.1 2 r6.2).bind fun r7 =>
 (st P 36 r7.1 r5.1 r7.2).bind fun r8 =>
 (fa P 77 (e 2) 1 r8.2).bind fun r9 =>
 (ld P 74 r9.1 r9.2).bind fun r10 =>
 (fa P 137 (e 3) 1 r10.2).bind fun r11 =>
 (ld P 3 r11.1 r11.2).bind fun r12 =>
 (ia P 74 r10.1 r12.1 r12.2).bind fun r13 =>
 (fa P 129 r13.1 3 r13.2).bind fun r14 =>
 (st P 3 r14.1 (.int .i64 0) r14.2).bind fun r15 =>
 (ld P 77 (e 2) r15.2).bind fun r16 =>
 (st P 77 (e 4) r16.1 r16.2).bind fun r17 =>
 (vl (.bool true) r17.2).bind fun r18 =>
 ((ld P 77 (e 4) r18.2).bind fun r19 => Aj (r19.2 = r18.2) (some r19.1)).bind fun v20 =>
 some (.tuple #[v20, r18.1], r18.2) := by kernel_rfl
theorem Md (x0 x1 : Value) (w : World) : Bl P (EV P) 122 #[x0, x1] w =
 (bx P 77 x0 w).bind fun r1 =>
 (bx P 137 x1 r1.2).bind fun r2 =>
 (al P 77 r2.2).bind fun r3 =>
 (vl (.bool false) r3.2).bind fun r4 =>
 (fa P 77 r1.1 1 r4.2).bind fun r5 =>
 (ld P 74 r5.1 r5.2).bind fun r6 =>
 (fa P 137 r2.1 1 r6.2).bind fun r7 =>
 (ld P 3 r7.1 r7.2).bind fun r8 =>
 (ia P 74 r6.1 r8.1 r8.2).bind fun r9 =>
 (ld P 129 r9.1 r9.2).bind fun r10 =>
 (al P 129 r10.2).bind fun r11 =>
 (st P 129 r11.1 r10.1 r11.2).bind fun r12 =>
 (fa P 129 r11.1 2 r12.2).bind fun r13 =>
 (fa P 36 r13.1 0 r13.2).bind fun r14 =>
 (ld P 3 r14.1 r14.2).bind fun r15 =>
 (bo P .eql 3 (.tmp 18) (.const (.int .i64 0)) r15.1 (.int .i64 0) r15.2).bind fun r16 =>
 AP r16.1 (
 (ld P 77 r1.1 r16.2).bind fun r17 =>
 (st P 77 r3.1 r17.1 r17.2).bind fun r18 =>
 (vl (.bool false) r18.2).bind fun r19 =>
 ((ld P 77 r3.1 r19.2).bind fun r20 => Aj (r20.2 = r19.2) (some r20.1)).bind fun v21 =>
 some (.tuple #[v21, r19.1], r19.2)) (
 (fa P 77 r1.1 0 r16.2).bind fun r22 =>
 (ld P 73 r22.1 r22.2).bind fun r23 =>
 (fa P 129 r11.1 0 r23.2).bind fun r24 =>
 (ld P 3 r24.1 r24.2).bind fun r25 =>
 (ia P 73 r23.1 r25.1 r25.2).bind fun r26 =>
 (fa P 84 r26.1 2 r26.2).bind fun r27 =>
 (ld P 81 r27.1 r27.2).bind fun r28 =>
 (al P 81 r28.2).bind fun r29 =>
 (st P 81 r29.1 r28.1 r29.2).bind fun r30 =>
 (ld P 81 r29.1 r30.2).bind fun r31 =>
 (fa P 129 r11.1 3 r31.2).bind fun r32 =>
 (ld P 3 r32.1 r32.2).bind fun r33 =>
 (EV P 137 #[r31.1, (.int .i64 0), r33.1] r33.2).bind fun r34 =>
 (fv P 49 r34.1 1 r34.2).bind fun r35 =>
 (al P 36 r35.2).bind fun r36 =>
 (st P 36 r36.1 r35.1 r36.2).bind fun r37 =>
 (fa P 81 r29.1 0 (dw r37.2)).bind fun r39 =>
 Aj (r39.2 = (dw r37.2)) <|
 (ld P 79 r39.1 (dw r37.2)).bind fun r40 =>
 Aj (r40.2 = (dw r37.2)) <|
 (ia P 79 r40.1 (.int .i64 0) (dw r37.2)).bind fun r41 =>
 Aj (r41.2 = (dw r37.2)) <|
 (fa P 86 r41.1 0 (dw r37.2)).bind fun r42 =>
 Aj (r42.2 = (dw r37.2)) <|
 (fa P 44 r42.1 0 (dw r37.2)).bind fun r43 =>
 Aj (r43.2 = (dw r37.2)) <|
 (ld P 42 r43.1 (dw r37.2)).bind fun r44 =>
 Aj (r44.2 = (dw r37.2)) <|
 (fa P 129 r11.1 3 (dw r37.2)).bind fun r45 =>
 Aj (r45.2 = (dw r37.2)) <|
 (ld P 3 r45.1 (dw r37.2)).bind fun r46 =>
 Aj (r46.2 = (dw r37.2)) <|
 (ia P 42 r44.1 r46.1 (dw r37.2)).bind fun r47 =>
 Aj (r47.2 = (dw r37.2)) <|
 (fa P 49 r47.1 1 (dw r37.2)).bind fun r48 =>
 Aj (r48.2 = (dw r37.2)) <|
 (ld P 36 r48.1 (dw r37.2)).bind fun r49 =>
 Aj (r49.2 = (dw r37.2)) <|
 (al P 36 (dw r37.2)).bind fun r50 =>
 Aj (ld P 36 r48.1 r50.2 = some (r49.1, r50.2) ∧ fa P 49 r47.1 1 r50.2 = some (r48.1, r50.2) ∧ ia P 42 r44.1 r46.1 r50.2 = some (r47.1, r50.2) ∧ ld P 3 r45.1 r50.2 = some (r46.1, r50.2) ∧ fa P 129 r11.1 3 r50.2 = some (r45.1, r50.2) ∧ ld P 42 r43.1 r50.2 = some (r44.1, r50.2) ∧ fa P 44 r42.1 0 r50.2 = some (r43.1, r50.2) ∧ fa P 86 r41.1 0 r50.2 = some (r42.1, r50.2) ∧ ia P 79 r40.1 (.int .i64 0) r50.2 = some (r41.1, r50.2) ∧ ld P 79 r39.1 r50.2 = some (r40.1, r50.2) ∧ fa P 81 r29.1 0 r50.2 = some (r39.1, r50.2) ∧ True) <|
 (st P 36 r50.1 r49.1 r50.2).bind fun r51 =>
 Aj (True ∧ True ∧ True ∧ True ∧ True ∧ True ∧ True ∧ True ∧ True ∧ True ∧ True ∧ True) <|
 (ld P 36 r36.1 r51.2).bind fun r52 =>
 (fa P 129 r11.1 2 r52.2).bind fun r53 =>
 (ld P 36 r53.1 r53.2).bind fun r54 =>
 (EV P 63 #[r52.1, r54.1] r54.2).bind fun r55 =>
 (vl r55.1 r55.2).bind fun r56 =>
 (An r56.1 true (ld P 36 r50.1 r56.2) r56.2).bind fun r57 =>
 (An r56.1 true (fa P 129 r11.1 2 r57.2) r57.2).bind fun r58 =>
 (An r56.1 true (ld P 36 r58.1 r58.2) r58.2).bind fun r59 =>
 (An r56.1 true (EV P 63 #[r57.1, r59.1] r59.2) r59.2).bind fun r60 =>
 (An r56.1 true (uo P .not r60.1 r60.2) r60.2).bind fun r61 =>
 (Av r56.1 r61.1 (.bool false) r61.2).bind fun r62 =>
 (vl r62.1 r62.2).bind fun r63 =>
 (An r63.1 false (ld P 36 r36.1 r63.2) r63.2).bind fun r64 =>
 (An r63.1 false (fa P 129 r11.1 2 r64.2) r64.2).bind fun r65 =>
 (An r63.1 false (ld P 36 r65.1 r65.2) r65.2).bind fun r66 =>
 (An r63.1 false (EV P 63 #[r64.1, r66.1] r66.2) r66.2).bind fun r67 =>
 (An r63.1 false (uo P .not r67.1 r67.2) r67.2).bind fun r68 =>
 (An r63.1 false (vl r68.1 r68.2) r68.2).bind fun r69 =>
 (An r69.1 true (fa P 77 r1.1 3 r69.2) r69.2).bind fun r70 =>
 (An r69.1 true (ld P 23 r70.1 r70.2) r70.2).bind fun r71 =>
 (An r69.1 true (Au P #[23] 3 #[r71.1] r71.2) r71.2).bind fun r72 =>
 (An r69.1 true (bo P .geq 3 (.tmp 64) (.const (.int .i64 80)) r72.1 (.int .i64 80) r72.2) r72.2).bind fun r73 =>
 (An r63.1 false (Av r69.1 r73.1 (.bool false) r73.2) r73.2).bind fun r74 =>
 (Av r63.1 (.bool true) r74.1 r74.2).bind fun r75 =>
 AP r75.1 (
 (ld P 77 r1.1 r75.2).bind fun r76 =>
 (st P 77 r3.1 r76.1 r76.2).bind fun r77 =>
 (vl (.bool false) r77.2).bind fun r78 =>
 ((ld P 77 r3.1 r78.2).bind fun r79 => Aj (r79.2 = r78.2) (some r79.1)).bind fun v80 =>
 some (.tuple #[v80, r78.1], r78.2)) (
 (ld P 36 r36.1 r75.2).bind fun r81 =>
 (fa P 129 r11.1 2 r81.2).bind fun r82 =>
 (ld P 36 r82.1 r82.2).bind fun r83 =>
 (EV P 63 #[r81.1, r83.1] r83.2).bind fun r84 =>
 (uo P .not r84.1 r84.2).bind fun r85 =>
 AP r85.1 (
 (fa P 77 r1.1 1 (dw r85.2)).bind fun r87 =>
 Aj (r87.2 = (dw r85.2)) <|
 (ld P 74 r87.1 (dw r85.2)).bind fun r88 =>
 Aj (r88.2 = (dw r85.2)) <|
 (fa P 137 r2.1 1 (dw r85.2)).bind fun r89 =>
 Aj (r89.2 = (dw r85.2)) <|
 (ld P 3 r89.1 (dw r85.2)).bind fun r90 =>
 Aj (r90.2 = (dw r85.2)) <|
 (fa P 129 r11.1 1 (dw r85.2)).bind fun r91 =>
 Aj (r91.2 = (dw r85.2)) <|
 (ld P 32 r91.1 (dw r85.2)).bind fun r92 =>
 Aj (r92.2 = (dw r85.2)) <|
 (fa P 129 r11.1 3 (dw r85.2)).bind fun r93 =>
 Aj (r93.2 = (dw r85.2)) <|
 (ld P 3 r93.1 (dw r85.2)).bind fun r94 =>
 Aj (r94.2 = (dw r85.2)) <|
 (fa P 129 r11.1 2 (dw r85.2)).bind fun r95 =>
 Aj (r95.2 = (dw r85.2)) <|
 (ld P 36 r95.1 (dw r85.2)).bind fun r96 =>
 Aj (r96.2 = (dw r85.2)) <|
 (EV P 66 #[r92.1, r94.1, r96.1] (dw r85.2)).bind fun r97 =>
 Aj (True ∧ True ∧ True ∧ True ∧ True ∧ True ∧ ld P 3 r89.1 r97.2 = some (r90.1, r97.2) ∧ fa P 137 r2.1 1 r97.2 = some (r89.1, r97.2) ∧ ld P 74 r87.1 r97.2 = some (r88.1, r97.2) ∧ fa P 77 r1.1 1 r97.2 = some (r87.1, r97.2) ∧ True) <|
 (ia P 74 r88.1 r90.1 r97.2).bind fun r98 =>
 Aj (r98.2 = r97.2) <|
 (fa P 129 r98.1 1 r97.2).bind fun r99 =>
 Aj (r99.2 = r97.2) <|
 (st P 32 r99.1 r97.1 r97.2).bind fun r100 =>
 Aj (True ∧ True ∧ True ∧ True ∧ True ∧ True ∧ True ∧ True ∧ True ∧ True ∧ True ∧ True ∧ True) <|
 (ld P 77 r1.1 r100.2).bind fun r101 =>
 (fa P 137 r2.1 1 r101.2).bind fun r102 =>
 (ld P 3 r102.1 r102.2).bind fun r103 =>
 (fa P 129 r11.1 3 r103.2).bind fun r104 =>
 (ld P 3 r104.1 r104.2).bind fun r105 =>
 (fa P 129 r11.1 2 r105.2).bind fun r106 =>
 (ld P 36 r106.1 r106.2).bind fun r107 =>
 (EV P 136 #[r101.1, r103.1, (.int .i64 3), r105.1, r107.1] r107.2).bind fun r108 =>
 (st P 77 r1.1 r108.1 r108.2).bind fun r109 =>
 DS (AJ (AL #[x0, x1]) [(2, r1.1), (3, r2.1), (4, r3.1), (5, r4.1), (10, r5.1), (11, r6.1), (12, r7.1), (13, r8.1), (14, r9.1), (15, r10.1), (6, r11.1), (16, r13.1), (17, r14.1), (18, r15.1), (19, r16.1), (21, r22.1), (22, r23.1), (23, r24.1), (24, r25.1), (25, r26.1), (26, r27.1), (27, r28.1), (7, r29.1), (28, r31.1), (29, r32.1), (30, r33.1), (31, r34.1), (32, r35.1), (8, r36.1), (33, r39.1), (34, r40.1), (35, r41.1), (36, r42.1), (37, r43.1), (38, r44.1), (39, r45.1), (40, r46.1), (41, r47.1), (42, r48.1), (43, r49.1), (9, r50.1), (44, r52.1), (45, r53.1), (46, r54.1), (47, r55.1), (48, r56.1), (49, r57.1), (50, r58.1), (51, r59.1), (52, r60.1), (53, r61.1), (54, r62.1), (55, r63.1), (56, r64.1), (57, r65.1), (58, r66.1), (59, r67.1), (60, r68.1), (61, r69.1), (62, r70.1), (63, r71.1), (64, r72.1), (65, r73.1), (66, r74.1), (67, r75.1), (69, r81.1), (70, r82.1), (71, r83.1), (72, r84.1), (73, r85.1), (74, r87.1), (75, r88.1), (76, r89.1), (77, r90.1), (78, r91.1), (79, r92.1), (80, r93.1), (81, r94.1), (82, r95.1), (83, r96.1), (84, r97.1), (85, r98.1), (86, r99.1), (87, r101.1), (88, r102.1), (89, r103.1), (90, r104.1), (91, r105.1), (92, r106.1), (93, r107.1), (94, r108.1)]) r109.2) (
 DS (AJ (AL #[x0, x1]) [(2, r1.1), (3, r2.1), (4, r3.1), (5, r4.1), (10, r5.1), (11, r6.1), (12, r7.1), (13, r8.1), (14, r9.1), (15, r10.1), (6, r11.1), (16, r13.1), (17, r14.1), (18, r15.1), (19, r16.1), (21, r22.1), (22, r23.1), (23, r24.1), (24, r25.1), (25, r26.1), (26, r27.1), (27, r28.1), (7, r29.1), (28, r31.1), (29, r32.1), (30, r33.1), (31, r34.1), (32, r35.1), (8, r36.1), (33, r39.1), (34, r40.1), (35, r41.1), (36, r42.1), (37, r43.1), (38, r44.1), (39, r45.1), (40, r46.1), (41, r47.1), (42, r48.1), (43, r49.1), (9, r50.1), (44, r52.1), (45, r53.1), (46, r54.1), (47, r55.1), (48, r56.1), (49, r57.1), (50, r58.1), (51, r59.1), (52, r60.1), (53, r61.1), (54, r62.1), (55, r63.1), (56, r64.1), (57, r65.1), (58, r66.1), (59, r67.1), (60, r68.1), (61, r69.1), (62, r70.1), (63, r71.1), (64, r72.1), (65, r73.1), (66, r74.1), (67, r75.1), (69, r81.1), (70, r82.1), (71, r83.1), (72, r84.1), (73, r85.1)]) r85.2))) := by kernel_rfl
noncomputable def Dc (e : Env) (w : World) : Option (Value × World) := Bu P (EV P) 123 94 (cB (cB (cB (cB (cB (cB (cB (Ai P 123)))))))) e w (Be P (AA P 123))
theorem ID (e : Env) (w : World) : Dc e w =
 (ld P 77 (e 2) w).bind fun r1 =>
 (fa P 137 (e 3) 1 r1.2).bind fun r2 =>
 (ld P 3 r2.1 r2.2).bind fun r3 =>
 (fa P 137 (e 3) 3 r3.2).bind fun r4 =>
 (ld P 3 r4.1 r4.2).bind fun r5 =>
 (fa P 49 (e 8) 1 r5.2).bind fun r6 =>
 (ld P 36 r6.1 r6.2).bind fun r7 =>
 (EV P 136 #[r1.1, r3.1, (.int .i64 2), r5.1, r7.1] r7.2).bind fun r8 =>
 (st P 77 (e 4) r8.1 r8.2).bind fun r9 =>
 (vl (.bool true) r9.2).bind fun r10 =>
 ((ld P 77 (e 4) r10.2).bind fun r11 => Aj (r11.2 = r10.2) (some r11.1)).bind fun v12 =>
 some (.tuple #[v12, r10.1], r10.2) := by kernel_rfl
theorem KM (x0 x1 : Value) (w : World) : Bl P (EV P) 123 #[x0, x1] w =
 (bx P 77 x0 w).bind fun r1 =>
 (bx P 137 x1 r1.2).bind fun r2 =>
 (al P 77 r2.2).bind fun r3 =>
 (vl (.bool false) r3.2).bind fun r4 =>
 (fa P 77 r1.1 1 r4.2).bind fun r5 =>
 (ld P 74 r5.1 r5.2).bind fun r6 =>
 (fa P 137 r2.1 1 r6.2).bind fun r7 =>
 (ld P 3 r7.1 r7.2).bind fun r8 =>
 (ia P 74 r6.1 r8.1 r8.2).bind fun r9 =>
 (ld P 129 r9.1 r9.2).bind fun r10 =>
 (al P 129 r10.2).bind fun r11 =>
 (st P 129 r11.1 r10.1 r11.2).bind fun r12 =>
 (fa P 77 r1.1 0 r12.2).bind fun r13 =>
 (ld P 73 r13.1 r13.2).bind fun r14 =>
 (fa P 129 r11.1 0 r14.2).bind fun r15 =>
 (ld P 3 r15.1 r15.2).bind fun r16 =>
 (ia P 73 r14.1 r16.1 r16.2).bind fun r17 =>
 (fa P 84 r17.1 2 r17.2).bind fun r18 =>
 (ld P 81 r18.1 r18.2).bind fun r19 =>
 (al P 81 r19.2).bind fun r20 =>
 (st P 81 r20.1 r19.1 r20.2).bind fun r21 =>
 (fa P 129 r11.1 2 r21.2).bind fun r22 =>
 (fa P 36 r22.1 0 r22.2).bind fun r23 =>
 (ld P 3 r23.1 r23.2).bind fun r24 =>
 (bo P .gtr 3 (.tmp 24) (.const (.int .i64 0)) r24.1 (.int .i64 0) r24.2).bind fun r25 =>
 (vl r25.1 r25.2).bind fun r26 =>
 (An r26.1 false (fa P 137 r2.1 3 r26.2) r26.2).bind fun r27 =>
 (An r26.1 false (ld P 3 r27.1 r27.2) r27.2).bind fun r28 =>
 (An r26.1 false (EV P 37 #[r28.1, (.int .i64 0), (.int .i64 3)] r28.2) r28.2).bind fun r29 =>
 (An r26.1 false (uo P .not r29.1 r29.2) r29.2).bind fun r30 =>
 (Av r26.1 (.bool true) r30.1 r30.2).bind fun r31 =>
 (vl r31.1 r31.2).bind fun r32 =>
 (An r32.1 false (fa P 137 r2.1 2 r32.2) r32.2).bind fun r33 =>
 (An r32.1 false (ld P 3 r33.1 r33.2) r33.2).bind fun r34 =>
 (An r32.1 false (fa P 81 r20.1 0 r34.2) r34.2).bind fun r35 =>
 (An r32.1 false (ld P 79 r35.1 r35.2) r35.2).bind fun r36 =>
 (An r32.1 false (Au P #[79] 3 #[r36.1] r36.2) r36.2).bind fun r37 =>
 (An r32.1 false (bo P .sub 3 (.tmp 37) (.const (.int .i64 1)) r37.1 (.int .i64 1) r37.2) r37.2).bind fun r38 =>
 (An r32.1 false (EV P 37 #[r34.1, (.int .i64 0), r38.1] r38.2) r38.2).bind fun r39 =>
 (An r32.1 false (uo P .not r39.1 r39.2) r39.2).bind fun r40 =>
 (Av r32.1 (.bool true) r40.1 r40.2).bind fun r41 =>
 (vl r41.1 r41.2).bind fun r42 =>
 (An r42.1 false (fa P 77 r1.1 3 r42.2) r42.2).bind fun r43 =>
 (An r42.1 false (ld P 23 r43.1 r43.2) r43.2).bind fun r44 =>
 (An r42.1 false (Au P #[23] 3 #[r44.1] r44.2) r44.2).bind fun r45 =>
 (An r42.1 false (bo P .geq 3 (.tmp 45) (.const (.int .i64 80)) r45.1 (.int .i64 80) r45.2) r45.2).bind fun r46 =>
 (Av r42.1 (.bool true) r46.1 r46.2).bind fun r47 =>
 AP r47.1 (
 (ld P 77 r1.1 r47.2).bind fun r48 =>
 (st P 77 r3.1 r48.1 r48.2).bind fun r49 =>
 (vl (.bool false) r49.2).bind fun r50 =>
 ((ld P 77 r3.1 r50.2).bind fun r51 => Aj (r51.2 = r50.2) (some r51.1)).bind fun v52 =>
 some (.tuple #[v52, r50.1], r50.2)) (
 (ld P 81 r20.1 r47.2).bind fun r53 =>
 (fa P 137 r2.1 2 r53.2).bind fun r54 =>
 (ld P 3 r54.1 r54.2).bind fun r55 =>
 (fa P 137 r2.1 3 r55.2).bind fun r56 =>
 (ld P 3 r56.1 r56.2).bind fun r57 =>
 (EV P 137 #[r53.1, r55.1, r57.1] r57.2).bind fun r58 =>
 (al P 49 r58.2).bind fun r59 =>
 (st P 49 r59.1 r58.1 r59.2).bind fun r60 =>
 (fa P 49 r59.1 1 (dw r60.2)).bind fun r62 =>
 Aj (r62.2 = (dw r60.2)) <|
 (ld P 36 r62.1 (dw r60.2)).bind fun r63 =>
 Aj (r63.2 = (dw r60.2)) <|
 (fa P 129 r11.1 1 (dw r60.2)).bind fun r64 =>
 Aj (r64.2 = (dw r60.2)) <|
 (fa P 32 r64.1 0 (dw r60.2)).bind fun r65 =>
 Aj (r65.2 = (dw r60.2)) <|
 (ld P 30 r65.1 (dw r60.2)).bind fun r66 =>
 Aj (r66.2 = (dw r60.2)) <|
 (fa P 137 r2.1 3 (dw r60.2)).bind fun r67 =>
 Aj (r67.2 = (dw r60.2)) <|
 (ld P 3 r67.1 (dw r60.2)).bind fun r68 =>
 Aj (r68.2 = (dw r60.2)) <|
 (ia P 30 r66.1 r68.1 (dw r60.2)).bind fun r69 =>
 Aj (r69.2 = (dw r60.2)) <|
 (ld P 36 r69.1 (dw r60.2)).bind fun r70 =>
 Aj (r70.2 = (dw r60.2)) <|
 (EV P 63 #[r63.1, r70.1] (dw r60.2)).bind fun r71 =>
 Aj (True ∧ True ∧ True ∧ True ∧ True ∧ True ∧ True ∧ True ∧ True ∧ True) <|
 AP r71.1 (
 (ld P 77 r1.1 r71.2).bind fun r72 =>
 (st P 77 r3.1 r72.1 r72.2).bind fun r73 =>
 (vl (.bool false) r73.2).bind fun r74 =>
 ((ld P 77 r3.1 r74.2).bind fun r75 => Aj (r75.2 = r74.2) (some r75.1)).bind fun v76 =>
 some (.tuple #[v76, r74.1], r74.2)) (
 (fa P 49 r59.1 1 r71.2).bind fun r77 =>
 (fa P 36 r77.1 0 r77.2).bind fun r78 =>
 (ld P 3 r78.1 r78.2).bind fun r79 =>
 (bo P .gtr 3 (.tmp 68) (.const (.int .i64 0)) r79.1 (.int .i64 0) r79.2).bind fun r80 =>
 AP r80.1 (
 (fa P 77 r1.1 1 (dw r80.2)).bind fun r82 =>
 Aj (r82.2 = (dw r80.2)) <|
 (ld P 74 r82.1 (dw r80.2)).bind fun r83 =>
 Aj (r83.2 = (dw r80.2)) <|
 (fa P 137 r2.1 1 (dw r80.2)).bind fun r84 =>
 Aj (r84.2 = (dw r80.2)) <|
 (ld P 3 r84.1 (dw r80.2)).bind fun r85 =>
 Aj (r85.2 = (dw r80.2)) <|
 (fa P 129 r11.1 1 (dw r80.2)).bind fun r86 =>
 Aj (r86.2 = (dw r80.2)) <|
 (ld P 32 r86.1 (dw r80.2)).bind fun r87 =>
 Aj (r87.2 = (dw r80.2)) <|
 (fa P 49 r59.1 2 (dw r80.2)).bind fun r88 =>
 Aj (r88.2 = (dw r80.2)) <|
 (ld P 32 r88.1 (dw r80.2)).bind fun r89 =>
 Aj (r89.2 = (dw r80.2)) <|
 (fa P 137 r2.1 3 (dw r80.2)).bind fun r90 =>
 Aj (r90.2 = (dw r80.2)) <|
 (ld P 3 r90.1 (dw r80.2)).bind fun r91 =>
 Aj (r91.2 = (dw r80.2)) <|
 (fa P 49 r59.1 1 (dw r80.2)).bind fun r92 =>
 Aj (r92.2 = (dw r80.2)) <|
 (ld P 36 r92.1 (dw r80.2)).bind fun r93 =>
 Aj (r93.2 = (dw r80.2)) <|
 (EV P 67 #[r87.1, r89.1] (dw r80.2)).bind fun r94 =>
 Aj (ld P 36 r92.1 r94.2 = some (r93.1, r94.2) ∧ fa P 49 r59.1 1 r94.2 = some (r92.1, r94.2) ∧ ld P 3 r90.1 r94.2 = some (r91.1, r94.2) ∧ fa P 137 r2.1 3 r94.2 = some (r90.1, r94.2) ∧ True ∧ True ∧ True ∧ True ∧ ld P 3 r84.1 r94.2 = some (r85.1, r94.2) ∧ fa P 137 r2.1 1 r94.2 = some (r84.1, r94.2) ∧ ld P 74 r82.1 r94.2 = some (r83.1, r94.2) ∧ fa P 77 r1.1 1 r94.2 = some (r82.1, r94.2) ∧ True) <|
 (EV P 66 #[r94.1, r91.1, r93.1] r94.2).bind fun r95 =>
 Aj (True ∧ True ∧ True ∧ True ∧ True ∧ True ∧ True ∧ True ∧ ld P 3 r84.1 r95.2 = some (r85.1, r95.2) ∧ fa P 137 r2.1 1 r95.2 = some (r84.1, r95.2) ∧ ld P 74 r82.1 r95.2 = some (r83.1, r95.2) ∧ fa P 77 r1.1 1 r95.2 = some (r82.1, r95.2) ∧ True) <|
 (ia P 74 r83.1 r85.1 r95.2).bind fun r96 =>
 Aj (r96.2 = r95.2) <|
 (fa P 129 r96.1 1 r95.2).bind fun r97 =>
 Aj (r97.2 = r95.2) <|
 (st P 32 r97.1 r95.1 r95.2).bind fun r98 =>
 Aj (True ∧ True ∧ True ∧ True ∧ True ∧ True ∧ True ∧ True ∧ True ∧ True ∧ True ∧ True ∧ True ∧ True ∧ True) <|
 Dc (AJ (AL #[x0, x1]) [(2, r1.1), (3, r2.1), (4, r3.1), (5, r4.1), (9, r5.1), (10, r6.1), (11, r7.1), (12, r8.1), (13, r9.1), (14, r10.1), (6, r11.1), (15, r13.1), (16, r14.1), (17, r15.1), (18, r16.1), (19, r17.1), (20, r18.1), (21, r19.1), (7, r20.1), (22, r22.1), (23, r23.1), (24, r24.1), (25, r25.1), (26, r26.1), (27, r27.1), (28, r28.1), (29, r29.1), (30, r30.1), (31, r31.1), (32, r32.1), (33, r33.1), (34, r34.1), (35, r35.1), (36, r36.1), (37, r37.1), (38, r38.1), (39, r39.1), (40, r40.1), (41, r41.1), (42, r42.1), (43, r43.1), (44, r44.1), (45, r45.1), (46, r46.1), (47, r47.1), (49, r53.1), (50, r54.1), (51, r55.1), (52, r56.1), (53, r57.1), (54, r58.1), (8, r59.1), (55, r62.1), (56, r63.1), (57, r64.1), (58, r65.1), (59, r66.1), (60, r67.1), (61, r68.1), (62, r69.1), (63, r70.1), (64, r71.1), (66, r77.1), (67, r78.1), (68, r79.1), (69, r80.1), (70, r82.1), (71, r83.1), (72, r84.1), (73, r85.1), (74, r86.1), (75, r87.1), (76, r88.1), (77, r89.1), (79, r90.1), (80, r91.1), (81, r92.1), (82, r93.1), (78, r94.1), (83, r95.1), (84, r96.1), (85, r97.1)]) r98.2) (
 Dc (AJ (AL #[x0, x1]) [(2, r1.1), (3, r2.1), (4, r3.1), (5, r4.1), (9, r5.1), (10, r6.1), (11, r7.1), (12, r8.1), (13, r9.1), (14, r10.1), (6, r11.1), (15, r13.1), (16, r14.1), (17, r15.1), (18, r16.1), (19, r17.1), (20, r18.1), (21, r19.1), (7, r20.1), (22, r22.1), (23, r23.1), (24, r24.1), (25, r25.1), (26, r26.1), (27, r27.1), (28, r28.1), (29, r29.1), (30, r30.1), (31, r31.1), (32, r32.1), (33, r33.1), (34, r34.1), (35, r35.1), (36, r36.1), (37, r37.1), (38, r38.1), (39, r39.1), (40, r40.1), (41, r41.1), (42, r42.1), (43, r43.1), (44, r44.1), (45, r45.1), (46, r46.1), (47, r47.1), (49, r53.1), (50, r54.1), (51, r55.1), (52, r56.1), (53, r57.1), (54, r58.1), (8, r59.1), (55, r62.1), (56, r63.1), (57, r64.1), (58, r65.1), (59, r66.1), (60, r67.1), (61, r68.1), (62, r69.1), (63, r70.1), (64, r71.1), (66, r77.1), (67, r78.1), (68, r79.1), (69, r80.1)]) r80.2))) := by kernel_rfl
noncomputable def DT (e : Env) (w : World) : Option (Value × World) := Bu P (EV P) 124 89 (.loop (cA (cA (cB (cA (cB (cB (cB (cB (cB (Ai P 124))))))))))) e w (Ao 0 (AD P (EV P) 124 89 (cB (cB (cB (cB (cB (cB (Ai P 124))))))) (Be P (AA P 124))))
theorem FO (e : Env) (w : World) : DT e w =
 (vl (e 9) w).bind fun r1 =>
 (bo P .lss 3 (.tmp 52) (.const (.int .i64 4)) r1.1 (.int .i64 4) r1.2).bind fun r2 =>
 AP r2.1 (
 (fa P 77 (e 2) 1 (dw r2.2)).bind fun r4 =>
 Aj (r4.2 = (dw r2.2)) <|
 (ld P 74 r4.1 (dw r2.2)).bind fun r5 =>
 Aj (r5.2 = (dw r2.2)) <|
 (fa P 137 (e 3) 1 (dw r2.2)).bind fun r6 =>
 Aj (r6.2 = (dw r2.2)) <|
 (ld P 3 r6.1 (dw r2.2)).bind fun r7 =>
 Aj (r7.2 = (dw r2.2)) <|
 (fa P 77 (e 2) 1 (dw r2.2)).bind fun r8 =>
 Aj (r8.2 = (dw r2.2)) <|
 (ld P 74 r8.1 (dw r2.2)).bind fun r9 =>
 Aj (r9.2 = (dw r2.2)) <|
 (fa P 137 (e 3) 1 (dw r2.2)).bind fun r10 =>
 Aj (r10.2 = (dw r2.2)) <|
 (ld P 3 r10.1 (dw r2.2)).bind fun r11 =>
 Aj (r11.2 = (dw r2.2)) <|
 (ia P 74 r9.1 r11.1 (dw r2.2)).bind fun r12 =>
 Aj (r12.2 = (dw r2.2)) <|
 (fa P 129 r12.1 1 (dw r2.2)).bind fun r13 =>
 Aj (r13.2 = (dw r2.2)) <|
 (ld P 32 r13.1 (dw r2.2)).bind fun r14 =>
 Aj (r14.2 = (dw r2.2)) <|
 (vl (e 9) (dw r2.2)).bind fun r15 =>
 Aj (r15.2 = (dw r2.2)) <|
 (fa P 44 (e 8) 0 (dw r2.2)).bind fun r16 =>
 Aj (r16.2 = (dw r2.2)) <|
 (ld P 42 r16.1 (dw r2.2)).bind fun r17 =>
 Aj (r17.2 = (dw r2.2)) <|
 (vl (e 9) (dw r2.2)).bind fun r18 =>
 Aj (r18.2 = (dw r2.2)) <|
 (ia P 42 r17.1 r18.1 (dw r2.2)).bind fun r19 =>
 Aj (r19.2 = (dw r2.2)) <|
 (fa P 49 r19.1 1 (dw r2.2)).bind fun r20 =>
 Aj (r20.2 = (dw r2.2)) <|
 (ld P 36 r20.1 (dw r2.2)).bind fun r21 =>
 Aj (r21.2 = (dw r2.2)) <|
 (EV P 66 #[r14.1, r15.1, r21.1] (dw r2.2)).bind fun r22 =>
 Aj (True ∧ True ∧ True ∧ True ∧ True ∧ True ∧ True ∧ True ∧ True ∧ True ∧ True ∧ True ∧ ld P 3 r6.1 r22.2 = some (r7.1, r22.2) ∧ fa P 137 (e 3) 1 r22.2 = some (r6.1, r22.2) ∧ ld P 74 r4.1 r22.2 = some (r5.1, r22.2) ∧ fa P 77 (e 2) 1 r22.2 = some (r4.1, r22.2) ∧ True) <|
 (ia P 74 r5.1 r7.1 r22.2).bind fun r23 =>
 Aj (r23.2 = r22.2) <|
 (fa P 129 r23.1 1 r22.2).bind fun r24 =>
 Aj (r24.2 = r22.2) <|
 (st P 32 r24.1 r22.1 r22.2).bind fun r25 =>
 Aj (True ∧ True ∧ True ∧ True ∧ True ∧ True ∧ True ∧ True ∧ True ∧ True ∧ True ∧ True ∧ True ∧ True ∧ True ∧ True ∧ True ∧ True ∧ True) <|
 (ld P 77 (e 2) (dw r25.2)).bind fun r27 =>
 Aj (r27.2 = (dw r25.2)) <|
 (fa P 137 (e 3) 1 (dw r25.2)).bind fun r28 =>
 Aj (r28.2 = (dw r25.2)) <|
 (ld P 3 r28.1 (dw r25.2)).bind fun r29 =>
 Aj (r29.2 = (dw r25.2)) <|
 (vl (e 9) (dw r25.2)).bind fun r30 =>
 Aj (r30.2 = (dw r25.2)) <|
 (fa P 44 (e 8) 0 (dw r25.2)).bind fun r31 =>
 Aj (r31.2 = (dw r25.2)) <|
 (ld P 42 r31.1 (dw r25.2)).bind fun r32 =>
 Aj (r32.2 = (dw r25.2)) <|
 (vl (e 9) (dw r25.2)).bind fun r33 =>
 Aj (r33.2 = (dw r25.2)) <|
 (ia P 42 r32.1 r33.1 (dw r25.2)).bind fun r34 =>
 Aj (r34.2 = (dw r25.2)) <|
 (fa P 49 r34.1 1 (dw r25.2)).bind fun r35 =>
 Aj (r35.2 = (dw r25.2)) <|
 (ld P 36 r35.1 (dw r25.2)).bind fun r36 =>
 Aj (r36.2 = (dw r25.2)) <|
 (EV P 136 #[r27.1, r29.1, (.int .i64 2), r30.1, r36.1] (dw r25.2)).bind fun r37 =>
 Aj (True ∧ True ∧ True ∧ True ∧ True ∧ True ∧ True ∧ True ∧ True) <|
 (st P 77 (e 2) r37.1 r37.2).bind fun r38 =>
 Aj (True ∧ True ∧ True ∧ True ∧ True ∧ True ∧ True ∧ True ∧ True) <|
 (vl (e 9) r38.2).bind fun r39 =>
 (bo P .add 3 (.tmp 54) (.const (.int .i64 1)) r39.1 (.int .i64 1) r39.2).bind fun r40 =>
 (vl r40.1 r40.2).bind fun r41 =>
 DT (AJ e [(52, r1.1), (53, r2.1), (56, r4.1), (57, r5.1), (58, r6.1), (59, r7.1), (60, r8.1), (61, r9.1), (62, r10.1), (63, r11.1), (64, r12.1), (65, r13.1), (66, r14.1), (67, r15.1), (68, r16.1), (69, r17.1), (70, r18.1), (71, r19.1), (72, r20.1), (73, r21.1), (74, r22.1), (75, r23.1), (76, r24.1), (77, r27.1), (78, r28.1), (79, r29.1), (80, r30.1), (81, r31.1), (82, r32.1), (83, r33.1), (84, r34.1), (85, r35.1), (86, r36.1), (87, r37.1), (54, r39.1), (55, r40.1), (9, r41.1)]) r41.2) (
 (ld P 77 (e 2) r2.2).bind fun r42 =>
 (st P 77 (e 4) r42.1 r42.2).bind fun r43 =>
 (vl (.bool true) r43.2).bind fun r44 =>
 ((ld P 77 (e 4) r44.2).bind fun r45 => Aj (r45.2 = r44.2) (some r45.1)).bind fun v46 =>
 some (.tuple #[v46, r44.1], r44.2)) := (Ay P (EV P) 124 89 (cA (cA (cB (cA (cB (cB (cB (cB (cB (Ai P 124)))))))))) e w (Ao 0 (AD P (EV P) 124 89 (cB (cB (cB (cB (cB (cB (Ai P 124))))))) (Be P (AA P 124))))).trans (by kernel_rfl)
theorem Me (x0 x1 : Value) (w : World) : Bl P (EV P) 124 #[x0, x1] w =
 (bx P 77 x0 w).bind fun r1 =>
 (bx P 137 x1 r1.2).bind fun r2 =>
 (al P 77 r2.2).bind fun r3 =>
 (vl (.bool false) r3.2).bind fun r4 =>
 (fa P 77 r1.1 1 r4.2).bind fun r5 =>
 (ld P 74 r5.1 r5.2).bind fun r6 =>
 (fa P 137 r2.1 1 r6.2).bind fun r7 =>
 (ld P 3 r7.1 r7.2).bind fun r8 =>
 (ia P 74 r6.1 r8.1 r8.2).bind fun r9 =>
 (ld P 129 r9.1 r9.2).bind fun r10 =>
 (al P 129 r10.2).bind fun r11 =>
 (st P 129 r11.1 r10.1 r11.2).bind fun r12 =>
 (fa P 77 r1.1 0 r12.2).bind fun r13 =>
 (ld P 73 r13.1 r13.2).bind fun r14 =>
 (fa P 129 r11.1 0 r14.2).bind fun r15 =>
 (ld P 3 r15.1 r15.2).bind fun r16 =>
 (ia P 73 r14.1 r16.1 r16.2).bind fun r17 =>
 (fa P 84 r17.1 2 r17.2).bind fun r18 =>
 (ld P 81 r18.1 r18.2).bind fun r19 =>
 (al P 81 r19.2).bind fun r20 =>
 (st P 81 r20.1 r19.1 r20.2).bind fun r21 =>
 (fa P 81 r20.1 0 r21.2).bind fun r22 =>
 (ld P 79 r22.1 r22.2).bind fun r23 =>
 (fa P 81 r20.1 0 r23.2).bind fun r24 =>
 (ld P 79 r24.1 r24.2).bind fun r25 =>
 (Au P #[79] 3 #[r25.1] r25.2).bind fun r26 =>
 (bo P .sub 3 (.tmp 27) (.const (.int .i64 1)) r26.1 (.int .i64 1) r26.2).bind fun r27 =>
 (ia P 79 r23.1 r27.1 r27.2).bind fun r28 =>
 (fa P 86 r28.1 0 r28.2).bind fun r29 =>
 (ld P 44 r29.1 r29.2).bind fun r30 =>
 (al P 44 r30.2).bind fun r31 =>
 (st P 44 r31.1 r30.1 r31.2).bind fun r32 =>
 (fa P 129 r11.1 2 (dw r32.2)).bind fun r34 =>
 Aj (r34.2 = (dw r32.2)) <|
 (fa P 36 r34.1 0 (dw r32.2)).bind fun r35 =>
 Aj (r35.2 = (dw r32.2)) <|
 (ld P 3 r35.1 (dw r32.2)).bind fun r36 =>
 Aj (r36.2 = (dw r32.2)) <|
 (bo P .gtr 3 (.tmp 34) (.const (.int .i64 0)) r36.1 (.int .i64 0) (dw r32.2)).bind fun r37 =>
 Aj (r37.2 = (dw r32.2)) <|
 (vl r37.1 (dw r32.2)).bind fun r38 =>
 Aj (r38.2 = (dw r32.2)) <|
 (An r38.1 false (fa P 129 r11.1 1 (dw r32.2)) (dw r32.2)).bind fun r39 =>
 Aj (r39.2 = (dw r32.2)) <|
 (An r38.1 false (ld P 32 r39.1 (dw r32.2)) (dw r32.2)).bind fun r40 =>
 Aj (r40.2 = (dw r32.2)) <|
 (An r38.1 false (ld P 44 r31.1 (dw r32.2)) (dw r32.2)).bind fun r41 =>
 Aj (r41.2 = (dw r32.2)) <|
 (An r38.1 false (EV P 83 #[r41.1] (dw r32.2)) (dw r32.2)).bind fun r42 =>
 Aj (True ∧ An r38.1 false (ld P 32 r39.1 r42.2) r42.2 = some (r40.1, r42.2) ∧ An r38.1 false (fa P 129 r11.1 1 r42.2) r42.2 = some (r39.1, r42.2) ∧ True ∧ True ∧ True ∧ True ∧ True) <|
 (An r38.1 false (EV P 84 #[r40.1, r42.1] r42.2) r42.2).bind fun r43 =>
 Aj (True ∧ True ∧ True ∧ True ∧ True ∧ True ∧ True ∧ True) <|
 (An r38.1 false (uo P .not r43.1 r43.2) r43.2).bind fun r44 =>
 Aj (r44.2 = r43.2) <|
 (Av r38.1 (.bool true) r44.1 r43.2).bind fun r45 =>
 Aj (r45.2 = r43.2) <|
 (vl r45.1 r43.2).bind fun r46 =>
 Aj (r46.2 = r43.2) <|
 (An r46.1 false (fa P 77 r1.1 3 r43.2) r43.2).bind fun r47 =>
 Aj (r47.2 = r43.2) <|
 (An r46.1 false (ld P 23 r47.1 r43.2) r43.2).bind fun r48 =>
 Aj (r48.2 = r43.2) <|
 (An r46.1 false (Au P #[23] 3 #[r48.1] r43.2) r43.2).bind fun r49 =>
 Aj (r49.2 = r43.2) <|
 (An r46.1 false (bo P .add 3 (.tmp 47) (.const (.int .i64 4)) r49.1 (.int .i64 4) r43.2) r43.2).bind fun r50 =>
 Aj (r50.2 = r43.2) <|
 (An r46.1 false (bo P .gtr 3 (.tmp 48) (.const (.int .i64 80)) r50.1 (.int .i64 80) r43.2) r43.2).bind fun r51 =>
 Aj (r51.2 = r43.2) <|
 (Av r46.1 (.bool true) r51.1 r43.2).bind fun r52 =>
 Aj (r52.2 = r43.2) <|
 AP r52.1 (
 (ld P 77 r1.1 r43.2).bind fun r53 =>
 (st P 77 r3.1 r53.1 r53.2).bind fun r54 =>
 (vl (.bool false) r54.2).bind fun r55 =>
 ((ld P 77 r3.1 r55.2).bind fun r56 => Aj (r56.2 = r55.2) (some r56.1)).bind fun v57 =>
 some (.tuple #[v57, r55.1], r55.2)) (
 (vl (.int .i64 0) r43.2).bind fun r58 =>
 DT (AJ (AL #[x0, x1]) [(2, r1.1), (3, r2.1), (4, r3.1), (5, r4.1), (10, r5.1), (11, r6.1), (12, r7.1), (13, r8.1), (14, r9.1), (15, r10.1), (6, r11.1), (16, r13.1), (17, r14.1), (18, r15.1), (19, r16.1), (20, r17.1), (21, r18.1), (22, r19.1), (7, r20.1), (23, r22.1), (24, r23.1), (25, r24.1), (26, r25.1), (27, r26.1), (28, r27.1), (29, r28.1), (30, r29.1), (31, r30.1), (8, r31.1), (32, r34.1), (33, r35.1), (34, r36.1), (35, r37.1), (36, r38.1), (37, r39.1), (38, r40.1), (39, r41.1), (40, r42.1), (41, r43.1), (42, r44.1), (43, r45.1), (44, r46.1), (45, r47.1), (46, r48.1), (47, r49.1), (48, r50.1), (49, r51.1), (50, r52.1), (9, r58.1)]) r58.2) := by kernel_rfl
theorem Mf (x0 x1 : Value) (w : World) : Bl P (EV P) 125 #[x0, x1] w =
 (bx P 81 x0 w).bind fun r1 =>
 (vl (.bool false) r1.2).bind fun r2 =>
 (vl x1 r2.2).bind fun r3 =>
 (fa P 81 r1.1 0 r3.2).bind fun r4 =>
 (ld P 79 r4.1 r4.2).bind fun r5 =>
 (Au P #[79] 3 #[r5.1] r5.2).bind fun r6 =>
 (bo P .sub 3 (.tmp 8) (.const (.int .i64 2)) r6.1 (.int .i64 2) r6.2).bind fun r7 =>
 (EV P 37 #[r3.1, (.int .i64 0), r7.1] r7.2).bind fun r8 =>
 (vl r8.1 r8.2).bind fun r9 =>
 (An r9.1 true (fa P 81 r1.1 0 r9.2) r9.2).bind fun r10 =>
 (An r9.1 true (ld P 79 r10.1 r10.2) r10.2).bind fun r11 =>
 (An r9.1 true (vl x1 r11.2) r11.2).bind fun r12 =>
 (An r9.1 true (ia P 79 r11.1 r12.1 r12.2) r12.2).bind fun r13 =>
 (An r9.1 true (fa P 86 r13.1 1 r13.2) r13.2).bind fun r14 =>
 (An r9.1 true (ld P 42 r14.1 r14.2) r14.2).bind fun r15 =>
 (An r9.1 true (Au P #[42] 3 #[r15.1] r15.2) r15.2).bind fun r16 =>
 (An r9.1 true (bo P .gtr 3 (.tmp 18) (.const (.int .i64 0)) r16.1 (.int .i64 0) r16.2) r16.2).bind fun r17 =>
 (Av r9.1 r17.1 (.bool false) r17.2).bind fun r18 =>
 (vl r18.1 r18.2).bind fun r19 =>
 (An r19.1 true (fa P 81 r1.1 0 r19.2) r19.2).bind fun r20 =>
 (An r19.1 true (ld P 79 r20.1 r20.2) r20.2).bind fun r21 =>
 (An r19.1 true (vl x1 r21.2) r21.2).bind fun r22 =>
 (An r19.1 true (bo P .add 3 (.tmp 24) (.const (.int .i64 1)) r22.1 (.int .i64 1) r22.2) r22.2).bind fun r23 =>
 (An r19.1 true (ia P 79 r21.1 r23.1 r23.2) r23.2).bind fun r24 =>
 (An r19.1 true (fa P 86 r24.1 1 r24.2) r24.2).bind fun r25 =>
 (An r19.1 true (ld P 42 r25.1 r25.2) r25.2).bind fun r26 =>
 (An r19.1 true (Au P #[42] 3 #[r26.1] r26.2) r26.2).bind fun r27 =>
 (An r19.1 true (bo P .lss 3 (.tmp 29) (.const (.int .i64 6)) r27.1 (.int .i64 6) r27.2) r27.2).bind fun r28 =>
 (Av r19.1 r28.1 (.bool false) r28.2).bind fun r29 =>
 (vl r29.1 r29.2).bind fun r30 =>
 some (r30.1, r30.2) := by kernel_rfl
theorem KN (x0 x1 : Value) (w : World) : Bl P (EV P) 126 #[x0, x1] w =
 (bx P 81 x0 w).bind fun r1 =>
 (al P 81 r1.2).bind fun r2 =>
 (fa P 81 r1.1 0 r2.2).bind fun r3 =>
 (ld P 79 r3.1 r3.2).bind fun r4 =>
 (vl x1 r4.2).bind fun r5 =>
 (ia P 79 r4.1 r5.1 r5.2).bind fun r6 =>
 (fa P 86 r6.1 1 r6.2).bind fun r7 =>
 (ld P 42 r7.1 r7.2).bind fun r8 =>
 (ia P 42 r8.1 (.int .i64 0) r8.2).bind fun r9 =>
 (ld P 49 r9.1 r9.2).bind fun r10 =>
 (al P 49 r10.2).bind fun r11 =>
 (st P 49 r11.1 r10.1 r11.2).bind fun r12 =>
 (fa P 81 r1.1 0 (dw r12.2)).bind fun r14 =>
 Aj (r14.2 = (dw r12.2)) <|
 (ld P 79 r14.1 (dw r12.2)).bind fun r15 =>
 Aj (r15.2 = (dw r12.2)) <|
 (vl x1 (dw r12.2)).bind fun r16 =>
 Aj (r16.2 = (dw r12.2)) <|
 (fa P 81 r1.1 0 (dw r12.2)).bind fun r17 =>
 Aj (r17.2 = (dw r12.2)) <|
 (ld P 79 r17.1 (dw r12.2)).bind fun r18 =>
 Aj (r18.2 = (dw r12.2)) <|
 (vl x1 (dw r12.2)).bind fun r19 =>
 Aj (r19.2 = (dw r12.2)) <|
 (ia P 79 r18.1 r19.1 (dw r12.2)).bind fun r20 =>
 Aj (r20.2 = (dw r12.2)) <|
 (fa P 86 r20.1 1 (dw r12.2)).bind fun r21 =>
 Aj (r21.2 = (dw r12.2)) <|
 (ld P 42 r21.1 (dw r12.2)).bind fun r22 =>
 Aj (r22.2 = (dw r12.2)) <|
 (sl P 42 r22.1 (some (.int .i64 1)) none none (dw r12.2)).bind fun r23 =>
 Aj (r23.2 = (dw r12.2)) <|
 (bs P 42 0 #[] (dw r12.2)).bind fun r24 =>
 Aj (sl P 42 r22.1 (some (.int .i64 1)) none none r24.2 = some (r23.1, r24.2) ∧ ld P 42 r21.1 r24.2 = some (r22.1, r24.2) ∧ fa P 86 r20.1 1 r24.2 = some (r21.1, r24.2) ∧ ia P 79 r18.1 r19.1 r24.2 = some (r20.1, r24.2) ∧ ld P 79 r17.1 r24.2 = some (r18.1, r24.2) ∧ fa P 81 r1.1 0 r24.2 = some (r17.1, r24.2) ∧ ld P 79 r14.1 r24.2 = some (r15.1, r24.2) ∧ fa P 81 r1.1 0 r24.2 = some (r14.1, r24.2) ∧ True) <|
 (Ar P #[42, 42] 42 #[r24.1, r23.1] r24.2).bind fun r25 =>
 Aj (True ∧ True ∧ True ∧ True ∧ True ∧ True ∧ ld P 79 r14.1 r25.2 = some (r15.1, r25.2) ∧ fa P 81 r1.1 0 r25.2 = some (r14.1, r25.2) ∧ True) <|
 (ia P 79 r15.1 r16.1 r25.2).bind fun r26 =>
 Aj (r26.2 = r25.2) <|
 (fa P 86 r26.1 1 r25.2).bind fun r27 =>
 Aj (r27.2 = r25.2) <|
 (st P 42 r27.1 r25.1 r25.2).bind fun r28 =>
 Aj (True ∧ True ∧ True ∧ True ∧ True ∧ True ∧ True ∧ True ∧ True ∧ True ∧ True) <|
 (ld P 81 r1.1 r28.2).bind fun r29 =>
 (vl x1 r29.2).bind fun r30 =>
 (bo P .add 3 (.tmp 29) (.const (.int .i64 1)) r30.1 (.int .i64 1) r30.2).bind fun r31 =>
 (ld P 49 r11.1 r31.2).bind fun r32 =>
 (EV P 138 #[r29.1, r31.1, r32.1] r32.2).bind fun r33 =>
 (st P 81 r2.1 r33.1 r33.2).bind fun r34 =>
 ((ld P 81 r2.1 r34.2).bind fun r35 => Aj (r35.2 = r34.2) (some r35.1)).bind fun v36 =>
 some (v36, r34.2) := by kernel_rfl
noncomputable def Dd (e : Env) (w : World) : Option (Value × World) := Bu P (EV P) 127 83 (.loop (cA (cA (cB (cA (cB (cB (Ai P 127)))))))) e w (Ao 0 (AD P (EV P) 127 83 (cB (cB (cB (Ai P 127)))) (Be P (AA P 127))))
noncomputable def De (e : Env) (w : World) : Option (Value × World) := Bu P (EV P) 127 83 (cB (cB (cA (cA (cB (cA (cB (cB (Ai P 127))))))))) e w (F6 P (EV P) 127 83 (cA (cA (cB (cA (cB (cB (Ai P 127))))))) (Ao 0 (AD P (EV P) 127 83 (cB (cB (cB (Ai P 127)))) (Be P (AA P 127)))))
noncomputable def Df (e : Env) (w : World) : Option (Value × World) := Bu P (EV P) 127 83 (.loop (cA (cA (cB (cA (cB (cB (cB (cB (Ai P 127)))))))))) e w (Ao 2 (AD P (EV P) 127 83 (cB (cB (cB (cB (cB (Ai P 127)))))) (Be P (AA P 127))))
theorem EY (e : Env) (w : World) : Dd e w =
 (vl (e 4) w).bind fun r1 =>
 (bo P .lss 3 (.tmp 19) (.const (.int .i64 4)) r1.1 (.int .i64 4) r1.2).bind fun r2 =>
 AP r2.1 (
 (fa P 44 (e 3) 0 r2.2).bind fun r3 =>
 (ld P 42 r3.1 r3.2).bind fun r4 =>
 (vl (e 4) r4.2).bind fun r5 =>
 (ia P 42 r4.1 r5.1 r5.2).bind fun r6 =>
 (ld P 49 r6.1 r6.2).bind fun r7 =>
 (al P 49 r7.2).bind fun r8 =>
 (st P 49 r8.1 r7.1 r8.2).bind fun r9 =>
 (fa P 49 r8.1 1 r9.2).bind fun r10 =>
 (fa P 36 r10.1 0 r10.2).bind fun r11 =>
 (ld P 3 r11.1 r11.2).bind fun r12 =>
 (bo P .gtr 3 (.tmp 30) (.const (.int .i64 0)) r12.1 (.int .i64 0) r12.2).bind fun r13 =>
 (vl r13.1 r13.2).bind fun r14 =>
 (An r14.1 true (fa P 49 r8.1 1 r14.2) r14.2).bind fun r15 =>
 (An r14.1 true (fa P 36 r15.1 1 r15.2) r15.2).bind fun r16 =>
 (An r14.1 true (ld P 3 r16.1 r16.2) r16.2).bind fun r17 =>
 (An r14.1 true (fa P 84 (e 1) 0 r17.2) r17.2).bind fun r18 =>
 (An r14.1 true (ld P 3 r18.1 r18.2) r18.2).bind fun r19 =>
 (An r14.1 true (bo P .eql 3 (.tmp 35) (.tmp 37) r17.1 r19.1 r19.2) r19.2).bind fun r20 =>
 (Av r14.1 r20.1 (.bool false) r20.2).bind fun r21 =>
 (vl r21.1 r21.2).bind fun r22 =>
 (An r22.1 true (fa P 84 (e 1) 3 r22.2) r22.2).bind fun r23 =>
 (An r22.1 true (ld P 42 r23.1 r23.2) r23.2).bind fun r24 =>
 (An r22.1 true (fa P 49 r8.1 1 r24.2) r24.2).bind fun r25 =>
 (An r22.1 true (ld P 36 r25.1 r25.2) r25.2).bind fun r26 =>
 (An r22.1 true (EV P 139 #[r24.1, r26.1] r26.2) r26.2).bind fun r27 =>
 (An r22.1 true (uo P .not r27.1 r27.2) r27.2).bind fun r28 =>
 (Av r22.1 r28.1 (.bool false) r28.2).bind fun r29 =>
 AP r29.1 (
 (fa P 84 (e 1) 3 (dw r29.2)).bind fun r31 =>
 Aj (r31.2 = (dw r29.2)) <|
 (ld P 42 r31.1 (dw r29.2)).bind fun r32 =>
 Aj (r32.2 = (dw r29.2)) <|
 (ld P 49 r8.1 (dw r29.2)).bind fun r33 =>
 Aj (r33.2 = (dw r29.2)) <|
 (EV P 98 #[r33.1] (dw r29.2)).bind fun r34 =>
 Aj (True ∧ ld P 42 r31.1 r34.2 = some (r32.1, r34.2) ∧ fa P 84 (e 1) 3 r34.2 = some (r31.1, r34.2) ∧ True) <|
 (bs P 42 1 #[(0, r34.1)] r34.2).bind fun r35 =>
 Aj (True ∧ ld P 42 r31.1 r35.2 = some (r32.1, r35.2) ∧ fa P 84 (e 1) 3 r35.2 = some (r31.1, r35.2) ∧ True) <|
 (Ar P #[42, 42] 42 #[r32.1, r35.1] r35.2).bind fun r36 =>
 Aj (True ∧ True ∧ True ∧ True) <|
 (fa P 84 (e 1) 3 r36.2).bind fun r37 =>
 Aj (r37.2 = r36.2) <|
 (st P 42 r37.1 r36.1 r36.2).bind fun r38 =>
 Aj (True ∧ True ∧ True ∧ True ∧ True) <|
 De (AJ e [(19, r1.1), (20, r2.1), (23, r3.1), (24, r4.1), (25, r5.1), (26, r6.1), (27, r7.1), (5, r8.1), (28, r10.1), (29, r11.1), (30, r12.1), (31, r13.1), (32, r14.1), (33, r15.1), (34, r16.1), (35, r17.1), (36, r18.1), (37, r19.1), (38, r20.1), (39, r21.1), (40, r22.1), (41, r23.1), (42, r24.1), (43, r25.1), (44, r26.1), (45, r27.1), (46, r28.1), (47, r29.1), (48, r31.1), (49, r32.1), (50, r33.1), (51, r34.1), (52, r35.1), (53, r36.1), (54, r37.1)]) r38.2) (
 De (AJ e [(19, r1.1), (20, r2.1), (23, r3.1), (24, r4.1), (25, r5.1), (26, r6.1), (27, r7.1), (5, r8.1), (28, r10.1), (29, r11.1), (30, r12.1), (31, r13.1), (32, r14.1), (33, r15.1), (34, r16.1), (35, r17.1), (36, r18.1), (37, r19.1), (38, r20.1), (39, r21.1), (40, r22.1), (41, r23.1), (42, r24.1), (43, r25.1), (44, r26.1), (45, r27.1), (46, r28.1), (47, r29.1)]) r29.2)) (
 (vl (.bool true) r2.2).bind fun r39 =>
 (vl (.int .i64 0) r39.2).bind fun r40 =>
 Df (AJ e [(19, r1.1), (20, r2.1), (6, r39.1), (7, r40.1)]) r40.2) := (Ay P (EV P) 127 83 (cA (cA (cB (cA (cB (cB (Ai P 127))))))) e w (Ao 0 (AD P (EV P) 127 83 (cB (cB (cB (Ai P 127)))) (Be P (AA P 127))))).trans (by kernel_rfl)
theorem IE (e : Env) (w : World) : De e w =
 (vl (e 4) w).bind fun r1 =>
 (bo P .add 3 (.tmp 21) (.const (.int .i64 1)) r1.1 (.int .i64 1) r1.2).bind fun r2 =>
 (vl r2.1 r2.2).bind fun r3 =>
 Dd (AJ e [(21, r1.1), (22, r2.1), (4, r3.1)]) r3.2 := by kernel_rfl
theorem EZ (e : Env) (w : World) : Df e w =
 (vl (e 7) w).bind fun r1 =>
 (fa P 84 (e 1) 2 r1.2).bind fun r2 =>
 (fa P 81 r2.1 0 r2.2).bind fun r3 =>
 (ld P 79 r3.1 r3.2).bind fun r4 =>
 (Au P #[79] 3 #[r4.1] r4.2).bind fun r5 =>
 (bo P .lss 3 (.tmp 55) (.tmp 59) r1.1 r5.1 r5.2).bind fun r6 =>
 AP r6.1 (
 (vl (e 6) r6.2).bind fun r7 =>
 (vl r7.1 r7.2).bind fun r8 =>
 (An r8.1 true (fa P 84 (e 1) 2 r8.2) r8.2).bind fun r9 =>
 (An r8.1 true (fa P 81 r9.1 0 r9.2) r9.2).bind fun r10 =>
 (An r8.1 true (ld P 79 r10.1 r10.2) r10.2).bind fun r11 =>
 (An r8.1 true (vl (e 7) r11.2) r11.2).bind fun r12 =>
 (An r8.1 true (ia P 79 r11.1 r12.1 r12.2) r12.2).bind fun r13 =>
 (An r8.1 true (fa P 86 r13.1 1 r13.2) r13.2).bind fun r14 =>
 (An r8.1 true (ld P 42 r14.1 r14.2) r14.2).bind fun r15 =>
 (An r8.1 true (Au P #[42] 3 #[r15.1] r15.2) r15.2).bind fun r16 =>
 (An r8.1 true (bo P .eql 3 (.tmp 72) (.const (.int .i64 0)) r16.1 (.int .i64 0) r16.2) r16.2).bind fun r17 =>
 (Av r8.1 r17.1 (.bool false) r17.2).bind fun r18 =>
 (vl r18.1 r18.2).bind fun r19 =>
 (vl (e 7) r19.2).bind fun r20 =>
 (bo P .add 3 (.tmp 61) (.const (.int .i64 1)) r20.1 (.int .i64 1) r20.2).bind fun r21 =>
 (vl r21.1 r21.2).bind fun r22 =>
 Df (AJ e [(55, r1.1), (56, r2.1), (57, r3.1), (58, r4.1), (59, r5.1), (60, r6.1), (63, r7.1), (64, r8.1), (65, r9.1), (66, r10.1), (67, r11.1), (68, r12.1), (69, r13.1), (70, r14.1), (71, r15.1), (72, r16.1), (73, r17.1), (74, r18.1), (6, r19.1), (61, r20.1), (62, r21.1), (7, r22.1)]) r22.2) (
 (fa P 84 (e 1) 5 r6.2).bind fun r23 =>
 (ld P 4 r23.1 r23.2).bind fun r24 =>
 (vl r24.1 r24.2).bind fun r25 =>
 (An r25.1 true (vl (e 6) r25.2) r25.2).bind fun r26 =>
 (An r25.1 true (uo P .not r26.1 r26.2) r26.2).bind fun r27 =>
 (Av r25.1 r27.1 (.bool false) r27.2).bind fun r28 =>
 (fa P 84 (e 1) 5 r28.2).bind fun r29 =>
 (st P 4 r29.1 r28.1 r29.2).bind fun r30 =>
 (ld P 84 (e 1) r30.2).bind fun r31 =>
 (st P 84 (e 2) r31.1 r31.2).bind fun r32 =>
 ((ld P 84 (e 2) r32.2).bind fun r33 => Aj (r33.2 = r32.2) (some r33.1)).bind fun v34 =>
 some (v34, r32.2)) := (Ay P (EV P) 127 83 (cA (cA (cB (cA (cB (cB (cB (cB (Ai P 127))))))))) e w (Ao 2 (AD P (EV P) 127 83 (cB (cB (cB (cB (cB (Ai P 127)))))) (Be P (AA P 127))))).trans (by kernel_rfl)
theorem KO (x0 : Value) (w : World) : Bl P (EV P) 127 #[x0] w =
 (bx P 84 x0 w).bind fun r1 =>
 (al P 84 r1.2).bind fun r2 =>
 (fa P 84 r1.1 2 r2.2).bind fun r3 =>
 (fa P 81 r3.1 0 r3.2).bind fun r4 =>
 (ld P 79 r4.1 r4.2).bind fun r5 =>
 (fa P 84 r1.1 2 r5.2).bind fun r6 =>
 (fa P 81 r6.1 0 r6.2).bind fun r7 =>
 (ld P 79 r7.1 r7.2).bind fun r8 =>
 (Au P #[79] 3 #[r8.1] r8.2).bind fun r9 =>
 (bo P .sub 3 (.tmp 14) (.const (.int .i64 1)) r9.1 (.int .i64 1) r9.2).bind fun r10 =>
 (ia P 79 r5.1 r10.1 r10.2).bind fun r11 =>
 (fa P 86 r11.1 0 r11.2).bind fun r12 =>
 (ld P 44 r12.1 r12.2).bind fun r13 =>
 (al P 44 r13.2).bind fun r14 =>
 (st P 44 r14.1 r13.1 r14.2).bind fun r15 =>
 (vl (.int .i64 0) r15.2).bind fun r16 =>
 Dd (AJ (AL #[x0]) [(1, r1.1), (2, r2.1), (8, r3.1), (9, r4.1), (10, r5.1), (11, r6.1), (12, r7.1), (13, r8.1), (14, r9.1), (15, r10.1), (16, r11.1), (17, r12.1), (18, r13.1), (3, r14.1), (4, r16.1)]) r16.2 := by kernel_rfl
theorem IF (x0 x1 : Value) (w : World) : Bl P (EV P) 128 #[x0, x1] w =
 (bx P 84 x0 w).bind fun r1 =>
 (vl (.bool false) r1.2).bind fun r2 =>
 (fa P 84 r1.1 5 r2.2).bind fun r3 =>
 (ld P 4 r3.1 r3.2).bind fun r4 =>
 (uo P .not r4.1 r4.2).bind fun r5 =>
 (vl r5.1 r5.2).bind fun r6 =>
 (An r6.1 true (fa P 84 r1.1 2 r6.2) r6.2).bind fun r7 =>
 (An r6.1 true (fa P 81 r7.1 0 r7.2) r7.2).bind fun r8 =>
 (An r6.1 true (ld P 79 r8.1 r8.2) r8.2).bind fun r9 =>
 (An r6.1 true (Au P #[79] 3 #[r9.1] r9.2) r9.2).bind fun r10 =>
 (An r6.1 true (bo P .gtr 3 (.tmp 12) (.const (.int .i64 1)) r10.1 (.int .i64 1) r10.2) r10.2).bind fun r11 =>
 (Av r6.1 r11.1 (.bool false) r11.2).bind fun r12 =>
 (vl r12.1 r12.2).bind fun r13 =>
 (An r13.1 true (vl x1 r13.2) r13.2).bind fun r14 =>
 (An r13.1 true (fa P 84 r1.1 2 r14.2) r14.2).bind fun r15 =>
 (An r13.1 true (fa P 81 r15.1 0 r15.2) r15.2).bind fun r16 =>
 (An r13.1 true (ld P 79 r16.1 r16.2) r16.2).bind fun r17 =>
 (An r13.1 true (Au P #[79] 3 #[r17.1] r17.2) r17.2).bind fun r18 =>
 (An r13.1 true (bo P .sub 3 (.tmp 20) (.const (.int .i64 1)) r18.1 (.int .i64 1) r18.2) r18.2).bind fun r19 =>
 (An r13.1 true (EV P 37 #[r14.1, (.int .i64 0), r19.1] r19.2) r19.2).bind fun r20 =>
 (Av r13.1 r20.1 (.bool false) r20.2).bind fun r21 =>
 (vl r21.1 r21.2).bind fun r22 =>
 some (r22.1, r22.2) := by kernel_rfl
noncomputable def Ck (e : Env) (w : World) : Option (Value × World) := Bu P (EV P) 129 56 (cB (cB (cB (cB (Ai P 129))))) e w (Be P (AA P 129))
theorem IG (e : Env) (w : World) : Ck e w =
 (fa P 81 (e 2) 0 w).bind fun r1 =>
 (ld P 79 r1.1 r1.2).bind fun r2 =>
 (vl (e 5) r2.2).bind fun r3 =>
 (bo P .sub 3 (.tmp 51) (.const (.int .i64 1)) r3.1 (.int .i64 1) r3.2).bind fun r4 =>
 (ia P 79 r2.1 r4.1 r4.2).bind fun r5 =>
 (fa P 86 r5.1 1 r5.2).bind fun r6 =>
 (st P 42 r6.1 (Go.Value.slice none 0 0) r6.2).bind fun r7 =>
 (ld P 81 (e 2) r7.2).bind fun r8 =>
 (st P 81 (e 4) r8.1 r8.2).bind fun r9 =>
 ((ld P 81 (e 4) r9.2).bind fun r10 => Aj (r10.2 = r9.2) (some r10.1)).bind fun v11 =>
 some (v11, r9.2) := by kernel_rfl
theorem KP (x0 x1 : Value) (w : World) : Bl P (EV P) 129 #[x0, x1] w =
 (bx P 81 x0 w).bind fun r1 =>
 (al P 81 r1.2).bind fun r2 =>
 (fa P 81 r1.1 0 (dw r2.2)).bind fun r4 =>
 Aj (r4.2 = (dw r2.2)) <|
 (ld P 79 r4.1 (dw r2.2)).bind fun r5 =>
 Aj (r5.2 = (dw r2.2)) <|
 (vl x1 (dw r2.2)).bind fun r6 =>
 Aj (r6.2 = (dw r2.2)) <|
 (sl P 79 r5.1 none (some r6.1) none (dw r2.2)).bind fun r7 =>
 Aj (r7.2 = (dw r2.2)) <|
 (fa P 81 r1.1 0 (dw r2.2)).bind fun r8 =>
 Aj (r8.2 = (dw r2.2)) <|
 (ld P 79 r8.1 (dw r2.2)).bind fun r9 =>
 Aj (r9.2 = (dw r2.2)) <|
 (vl x1 (dw r2.2)).bind fun r10 =>
 Aj (r10.2 = (dw r2.2)) <|
 (bo P .add 3 (.tmp 14) (.const (.int .i64 1)) r10.1 (.int .i64 1) (dw r2.2)).bind fun r11 =>
 Aj (r11.2 = (dw r2.2)) <|
 (sl P 79 r9.1 (some r11.1) none none (dw r2.2)).bind fun r12 =>
 Aj (r12.2 = (dw r2.2)) <|
 (bs P 79 0 #[] (dw r2.2)).bind fun r13 =>
 Aj (sl P 79 r9.1 (some r11.1) none none r13.2 = some (r12.1, r13.2) ∧ bo P .add 3 (.tmp 14) (.const (.int .i64 1)) r10.1 (.int .i64 1) r13.2 = some (r11.1, r13.2) ∧ ld P 79 r8.1 r13.2 = some (r9.1, r13.2) ∧ fa P 81 r1.1 0 r13.2 = some (r8.1, r13.2) ∧ sl P 79 r5.1 none (some r6.1) none r13.2 = some (r7.1, r13.2) ∧ ld P 79 r4.1 r13.2 = some (r5.1, r13.2) ∧ fa P 81 r1.1 0 r13.2 = some (r4.1, r13.2) ∧ True) <|
 (Ar P #[79, 79] 79 #[r13.1, r7.1] r13.2).bind fun r14 =>
 Aj (sl P 79 r9.1 (some r11.1) none none r14.2 = some (r12.1, r14.2) ∧ bo P .add 3 (.tmp 14) (.const (.int .i64 1)) r10.1 (.int .i64 1) r14.2 = some (r11.1, r14.2) ∧ ld P 79 r8.1 r14.2 = some (r9.1, r14.2) ∧ fa P 81 r1.1 0 r14.2 = some (r8.1, r14.2) ∧ True ∧ True ∧ True ∧ True) <|
 (Ar P #[79, 79] 79 #[r14.1, r12.1] r14.2).bind fun r15 =>
 Aj (True ∧ True ∧ True ∧ True ∧ True ∧ True ∧ True ∧ True) <|
 (fa P 81 r1.1 0 r15.2).bind fun r16 =>
 Aj (r16.2 = r15.2) <|
 (st P 79 r16.1 r15.1 r15.2).bind fun r17 =>
 Aj (True ∧ True ∧ True ∧ True ∧ True ∧ True ∧ True ∧ True ∧ True) <|
 (fa P 81 r1.1 0 r17.2).bind fun r18 =>
 (ld P 79 r18.1 r18.2).bind fun r19 =>
 (Au P #[79] 3 #[r19.1] r19.2).bind fun r20 =>
 (vl r20.1 r20.2).bind fun r21 =>
 (vl x1 r21.2).bind fun r22 =>
 (bo P .gtr 3 (.tmp 22) (.const (.int .i64 0)) r22.1 (.int .i64 0) r22.2).bind fun r23 =>
 (vl r23.1 r23.2).bind fun r24 =>
 (An r24.1 true (vl x1 r24.2) r24.2).bind fun r25 =>
 (An r24.1 true (vl r21.1 r25.2) r25.2).bind fun r26 =>
 (An r24.1 true (bo P .lss 3 (.tmp 25) (.tmp 26) r25.1 r26.1 r26.2) r26.2).bind fun r27 =>
 (Av r24.1 r27.1 (.bool false) r27.2).bind fun r28 =>
 AP r28.1 (
 (fa P 81 r1.1 0 (dw r28.2)).bind fun r30 =>
 Aj (r30.2 = (dw r28.2)) <|
 (ld P 79 r30.1 (dw r28.2)).bind fun r31 =>
 Aj (r31.2 = (dw r28.2)) <|
 (vl x1 (dw r28.2)).bind fun r32 =>
 Aj (r32.2 = (dw r28.2)) <|
 (bo P .sub 3 (.tmp 31) (.const (.int .i64 1)) r32.1 (.int .i64 1) (dw r28.2)).bind fun r33 =>
 Aj (r33.2 = (dw r28.2)) <|
 (fa P 81 r1.1 0 (dw r28.2)).bind fun r34 =>
 Aj (r34.2 = (dw r28.2)) <|
 (ld P 79 r34.1 (dw r28.2)).bind fun r35 =>
 Aj (r35.2 = (dw r28.2)) <|
 (vl x1 (dw r28.2)).bind fun r36 =>
 Aj (r36.2 = (dw r28.2)) <|
 (bo P .sub 3 (.tmp 35) (.const (.int .i64 1)) r36.1 (.int .i64 1) (dw r28.2)).bind fun r37 =>
 Aj (r37.2 = (dw r28.2)) <|
 (ia P 79 r35.1 r37.1 (dw r28.2)).bind fun r38 =>
 Aj (r38.2 = (dw r28.2)) <|
 (fa P 86 r38.1 0 (dw r28.2)).bind fun r39 =>
 Aj (r39.2 = (dw r28.2)) <|
 (ld P 44 r39.1 (dw r28.2)).bind fun r40 =>
 Aj (r40.2 = (dw r28.2)) <|
 (fa P 81 r1.1 0 (dw r28.2)).bind fun r41 =>
 Aj (r41.2 = (dw r28.2)) <|
 (ld P 79 r41.1 (dw r28.2)).bind fun r42 =>
 Aj (r42.2 = (dw r28.2)) <|
 (vl x1 (dw r28.2)).bind fun r43 =>
 Aj (r43.2 = (dw r28.2)) <|
 (ia P 79 r42.1 r43.1 (dw r28.2)).bind fun r44 =>
 Aj (r44.2 = (dw r28.2)) <|
 (fa P 86 r44.1 0 (dw r28.2)).bind fun r45 =>
 Aj (r45.2 = (dw r28.2)) <|
 (ld P 44 r45.1 (dw r28.2)).bind fun r46 =>
 Aj (r46.2 = (dw r28.2)) <|
 (EV P 140 #[r40.1, r46.1] (dw r28.2)).bind fun r47 =>
 Aj (True ∧ True ∧ True ∧ True ∧ True ∧ True ∧ True ∧ True ∧ True ∧ True ∧ True ∧ bo P .sub 3 (.tmp 31) (.const (.int .i64 1)) r32.1 (.int .i64 1) r47.2 = some (r33.1, r47.2) ∧ ld P 79 r30.1 r47.2 = some (r31.1, r47.2) ∧ fa P 81 r1.1 0 r47.2 = some (r30.1, r47.2) ∧ True) <|
 (ia P 79 r31.1 r33.1 r47.2).bind fun r48 =>
 Aj (r48.2 = r47.2) <|
 (fa P 86 r48.1 1 r47.2).bind fun r49 =>
 Aj (r49.2 = r47.2) <|
 (st P 42 r49.1 r47.1 r47.2).bind fun r50 =>
 Aj (True ∧ True ∧ True ∧ True ∧ True ∧ True ∧ True ∧ True ∧ True ∧ True ∧ True ∧ True ∧ True ∧ True ∧ True ∧ True ∧ True) <|
 Ck (AJ (AL #[x0, x1]) [(2, r1.1), (4, r2.1), (7, r4.1), (8, r5.1), (9, r6.1), (10, r7.1), (12, r8.1), (13, r9.1), (14, r10.1), (15, r11.1), (16, r12.1), (6, r13.1), (11, r14.1), (17, r15.1), (18, r16.1), (19, r18.1), (20, r19.1), (21, r20.1), (5, r21.1), (22, r22.1), (23, r23.1), (24, r24.1), (25, r25.1), (26, r26.1), (27, r27.1), (28, r28.1), (29, r30.1), (30, r31.1), (31, r32.1), (32, r33.1), (33, r34.1), (34, r35.1), (35, r36.1), (36, r37.1), (37, r38.1), (38, r39.1), (39, r40.1), (40, r41.1), (41, r42.1), (42, r43.1), (43, r44.1), (44, r45.1), (45, r46.1), (46, r47.1), (47, r48.1), (48, r49.1)]) r50.2) (
 Ck (AJ (AL #[x0, x1]) [(2, r1.1), (4, r2.1), (7, r4.1), (8, r5.1), (9, r6.1), (10, r7.1), (12, r8.1), (13, r9.1), (14, r10.1), (15, r11.1), (16, r12.1), (6, r13.1), (11, r14.1), (17, r15.1), (18, r16.1), (19, r18.1), (20, r19.1), (21, r20.1), (5, r21.1), (22, r22.1), (23, r23.1), (24, r24.1), (25, r25.1), (26, r26.1), (27, r27.1), (28, r28.1)]) r28.2) := by kernel_rfl
theorem KQ (x0 : Value) (w : World) : Bl P (EV P) 130 #[x0] w =
 (bx P 81 x0 w).bind fun r1 =>
 (al P 81 r1.2).bind fun r2 =>
 (fa P 81 r1.1 0 r2.2).bind fun r3 =>
 (ld P 79 r3.1 r3.2).bind fun r4 =>
 (Au P #[79] 3 #[r4.1] r4.2).bind fun r5 =>
 (vl r5.1 r5.2).bind fun r6 =>
 (fa P 81 r1.1 0 (dw r6.2)).bind fun r8 =>
 Aj (r8.2 = (dw r6.2)) <|
 (ld P 79 r8.1 (dw r6.2)).bind fun r9 =>
 Aj (r9.2 = (dw r6.2)) <|
 (fa P 81 r1.1 0 (dw r6.2)).bind fun r10 =>
 Aj (r10.2 = (dw r6.2)) <|
 (ld P 79 r10.1 (dw r6.2)).bind fun r11 =>
 Aj (r11.2 = (dw r6.2)) <|
 (vl r6.1 (dw r6.2)).bind fun r12 =>
 Aj (r12.2 = (dw r6.2)) <|
 (bo P .sub 3 (.tmp 11) (.const (.int .i64 1)) r12.1 (.int .i64 1) (dw r6.2)).bind fun r13 =>
 Aj (r13.2 = (dw r6.2)) <|
 (ia P 79 r11.1 r13.1 (dw r6.2)).bind fun r14 =>
 Aj (r14.2 = (dw r6.2)) <|
 (fa P 86 r14.1 0 (dw r6.2)).bind fun r15 =>
 Aj (r15.2 = (dw r6.2)) <|
 (ld P 44 r15.1 (dw r6.2)).bind fun r16 =>
 Aj (r16.2 = (dw r6.2)) <|
 (EV P 119 #[r16.1] (dw r6.2)).bind fun r17 =>
 Aj (True ∧ True ∧ True ∧ True ∧ True ∧ True ∧ ld P 79 r8.1 r17.2 = some (r9.1, r17.2) ∧ fa P 81 r1.1 0 r17.2 = some (r8.1, r17.2) ∧ True) <|
 (bd P 86 #[(0, r17.1)] r17.2).bind fun r18 =>
 Aj (r18.2 = r17.2) <|
 (bs P 79 1 #[(0, r18.1)] r17.2).bind fun r19 =>
 Aj (True ∧ True ∧ True ∧ True ∧ True ∧ True ∧ True ∧ ld P 79 r8.1 r19.2 = some (r9.1, r19.2) ∧ fa P 81 r1.1 0 r19.2 = some (r8.1, r19.2) ∧ True) <|
 (Ar P #[79, 79] 79 #[r9.1, r19.1] r19.2).bind fun r20 =>
 Aj (True ∧ True ∧ True ∧ True ∧ True ∧ True ∧ True ∧ True ∧ True ∧ True) <|
 (fa P 81 r1.1 0 r20.2).bind fun r21 =>
 Aj (r21.2 = r20.2) <|
 (st P 79 r21.1 r20.1 r20.2).bind fun r22 =>
 Aj (True ∧ True ∧ True ∧ True ∧ True ∧ True ∧ True ∧ True ∧ True ∧ True ∧ True) <|
 (ld P 81 r1.1 r22.2).bind fun r23 =>
 (st P 81 r2.1 r23.1 r23.2).bind fun r24 =>
 ((ld P 81 r2.1 r24.2).bind fun r25 => Aj (r25.2 = r24.2) (some r25.1)).bind fun v26 =>
 some (v26, r24.2) := by kernel_rfl
theorem IH (x0 x1 : Value) (w : World) : Bl P (EV P) 131 #[x0, x1] w =
 (bx P 84 x0 w).bind fun r1 =>
 (vl (.bool false) r1.2).bind fun r2 =>
 (ld P 84 r1.1 r2.2).bind fun r3 =>
 (vl x1 r3.2).bind fun r4 =>
 (EV P 141 #[r3.1, r4.1] r4.2).bind fun r5 =>
 (vl r5.1 r5.2).bind fun r6 =>
 (vl r6.1 (dw r6.2)).bind fun r8 =>
 Aj (r8.2 = (dw r6.2)) <|
 (bo P .geq 3 (.tmp 9) (.const (.int .i64 0)) r8.1 (.int .i64 0) (dw r6.2)).bind fun r9 =>
 Aj (r9.2 = (dw r6.2)) <|
 (vl r9.1 (dw r6.2)).bind fun r10 =>
 Aj (r10.2 = (dw r6.2)) <|
 (An r10.1 true (fa P 84 r1.1 2 (dw r6.2)) (dw r6.2)).bind fun r11 =>
 Aj (r11.2 = (dw r6.2)) <|
 (An r10.1 true (ld P 81 r11.1 (dw r6.2)) (dw r6.2)).bind fun r12 =>
 Aj (r12.2 = (dw r6.2)) <|
 (An r10.1 true (EV P 142 #[r12.1] (dw r6.2)) (dw r6.2)).bind fun r13 =>
 Aj (True ∧ True ∧ True ∧ True) <|
 (Av r10.1 r13.1 (.bool false) r13.2).bind fun r14 =>
 Aj (r14.2 = r13.2) <|
 (vl r14.1 r13.2).bind fun r15 =>
 Aj (r15.2 = r13.2) <|
 (An r15.1 true (fa P 84 r1.1 4 r13.2) r13.2).bind fun r16 =>
 Aj (r16.2 = r13.2) <|
 (An r15.1 true (ld P 82 r16.1 r13.2) r13.2).bind fun r17 =>
 Aj (r17.2 = r13.2) <|
 (An r15.1 true (vl x1 r13.2) r13.2).bind fun r18 =>
 Aj (r18.2 = r13.2) <|
 (An r15.1 true (ia P 82 r17.1 r18.1 r13.2) r13.2).bind fun r19 =>
 Aj (r19.2 = r13.2) <|
 (An r15.1 true (ld P 42 r19.1 r13.2) r13.2).bind fun r20 =>
 Aj (r20.2 = r13.2) <|
 (An r15.1 true (vl r6.1 r13.2) r13.2).bind fun r21 =>
 Aj (r21.2 = r13.2) <|
 (An r15.1 true (ia P 42 r20.1 r21.1 r13.2) r13.2).bind fun r22 =>
 Aj (r22.2 = r13.2) <|
 (An r15.1 true (fa P 49 r22.1 2 r13.2) r13.2).bind fun r23 =>
 Aj (r23.2 = r13.2) <|
 (An r15.1 true (ld P 32 r23.1 r13.2) r13.2).bind fun r24 =>
 Aj (r24.2 = r13.2) <|
 (An r15.1 true (fa P 84 r1.1 2 r13.2) r13.2).bind fun r25 =>
 Aj (r25.2 = r13.2) <|
 (An r15.1 true (ld P 81 r25.1 r13.2) r13.2).bind fun r26 =>
 Aj (r26.2 = r13.2) <|
 (An r15.1 true (EV P 143 #[r26.1] r13.2) r13.2).bind fun r27 =>
 Aj (True ∧ True ∧ An r15.1 true (ld P 32 r23.1 r27.2) r27.2 = some (r24.1, r27.2) ∧ An r15.1 true (fa P 49 r22.1 2 r27.2) r27.2 = some (r23.1, r27.2) ∧ An r15.1 true (ia P 42 r20.1 r21.1 r27.2) r27.2 = some (r22.1, r27.2) ∧ An r15.1 true (ld P 42 r19.1 r27.2) r27.2 = some (r20.1, r27.2) ∧ An r15.1 true (ia P 82 r17.1 r18.1 r27.2) r27.2 = some (r19.1, r27.2) ∧ An r15.1 true (ld P 82 r16.1 r27.2) r27.2 = some (r17.1, r27.2) ∧ An r15.1 true (fa P 84 r1.1 4 r27.2) r27.2 = some (r16.1, r27.2) ∧ True ∧ True ∧ True ∧ True) <|
 (An r15.1 true (EV P 84 #[r24.1, r27.1] r27.2) r27.2).bind fun r28 =>
 Aj (True ∧ True ∧ True ∧ True ∧ True ∧ True ∧ True ∧ True ∧ True ∧ True ∧ True ∧ True ∧ True) <|
 (Av r15.1 r28.1 (.bool false) r28.2).bind fun r29 =>
 Aj (r29.2 = r28.2) <|
 (vl r29.1 r28.2).bind fun r30 =>
 Aj (r30.2 = r28.2) <|
 some (r30.1, r28.2) := by kernel_rfl
noncomputable def GF (e : Env) (w : World) : Option (Value × World) := Bu P (EV P) 132 33 (cA (cB (Ai P 132))) e w (AD P (EV P) 132 33 (cB (cB (Ai P 132))) (Be P (AA P 132)))
noncomputable def Dg (e : Env) (w : World) : Option (Value × World) := Bu P (EV P) 132 33 (cB (cB (Ai P 132))) e w (Be P (AA P 132))
noncomputable def Dh (e : Env) (w : World) : Option (Value × World) := Bu P (EV P) 132 33 (cB (cB (cB (Ai P 132)))) e w (Be P (AA P 132))
theorem HY (e : Env) (w : World) {Q : Value × World → Prop} (h :
 (Ag (fa P 84 (e 2) 4 (dw w)) fun r1 => r1.2 = (dw w) ∧
 (Ag (ld P 82 r1.1 (dw w)) fun r2 => r2.2 = (dw w) ∧
 (Ag (vl (e 1) (dw w)) fun r3 => r3.2 = (dw w) ∧
 (Ag (ia P 82 r2.1 r3.1 (dw w)) fun r4 => r4.2 = (dw w) ∧
 (Ag (ld P 42 r4.1 (dw w)) fun r5 => r5.2 = (dw w) ∧
 (Ag (ld P 84 (e 2) (dw w)) fun r6 => r6.2 = (dw w) ∧
 (Ag (vl (e 1) (dw w)) fun r7 => r7.2 = (dw w) ∧
 ((Ag (EV P 141 #[r6.1, r7.1] (dw w)) fun r8 => (True ∧ ld P 42 r4.1 r8.2 = some (r5.1, r8.2) ∧ ia P 82 r2.1 r3.1 r8.2 = some (r4.1, r8.2) ∧ ld P 82 r1.1 r8.2 = some (r2.1, r8.2) ∧ fa P 84 (e 2) 4 r8.2 = some (r1.1, r8.2) ∧ True) ∧
 (Ag (ia P 42 r5.1 r8.1 r8.2) fun r9 => r9.2 = r8.2 ∧
 (Ag (ld P 49 r9.1 r8.2) fun r10 => r10.2 = r8.2 ∧
 ((Ag (al P 49 r8.2) fun r11 => (ld P 49 r9.1 r11.2 = some (r10.1, r11.2) ∧ ia P 42 r5.1 r8.1 r11.2 = some (r9.1, r11.2) ∧ ld P 84 (e 2) r11.2 = some (r6.1, r11.2) ∧ ld P 42 r4.1 r11.2 = some (r5.1, r11.2) ∧ ia P 82 r2.1 r3.1 r11.2 = some (r4.1, r11.2) ∧ ld P 82 r1.1 r11.2 = some (r2.1, r11.2) ∧ fa P 84 (e 2) 4 r11.2 = some (r1.1, r11.2) ∧ True) ∧
 ((Ag (st P 49 r11.1 r10.1 r11.2) fun r12 => (True ∧ True ∧ True ∧ True ∧ True ∧ True ∧ True ∧ True) ∧
 Ag (Dg (AJ e [(6, r1.1), (7, r2.1), (8, r3.1), (9, r4.1), (10, r5.1), (11, r6.1), (12, r7.1), (13, r8.1), (14, r9.1), (15, r10.1), (5, r11.1)]) r12.2) Q))))))) ∧
 (Ag (al P 49 (dw w)) fun r13 => (ld P 84 (e 2) r13.2 = some (r6.1, r13.2) ∧ ld P 42 r4.1 r13.2 = some (r5.1, r13.2) ∧ ia P 82 r2.1 r3.1 r13.2 = some (r4.1, r13.2) ∧ ld P 82 r1.1 r13.2 = some (r2.1, r13.2) ∧ fa P 84 (e 2) 4 r13.2 = some (r1.1, r13.2) ∧ True) ∧
 ((Ag (EV P 141 #[r6.1, r7.1] r13.2) fun r14 => (True ∧ ld P 42 r4.1 r14.2 = some (r5.1, r14.2) ∧ ia P 82 r2.1 r3.1 r14.2 = some (r4.1, r14.2) ∧ ld P 82 r1.1 r14.2 = some (r2.1, r14.2) ∧ fa P 84 (e 2) 4 r14.2 = some (r1.1, r14.2) ∧ True) ∧
 (Ag (ia P 42 r5.1 r14.1 r14.2) fun r15 => r15.2 = r14.2 ∧
 (Ag (ld P 49 r15.1 r14.2) fun r16 => r16.2 = r14.2 ∧
 ((Ag (st P 49 r13.1 r16.1 r14.2) fun r17 => (True ∧ True ∧ True ∧ True ∧ True ∧ True ∧ True ∧ True) ∧
 Ag (Dg (AJ e [(6, r1.1), (7, r2.1), (8, r3.1), (9, r4.1), (10, r5.1), (11, r6.1), (12, r7.1), (5, r13.1), (13, r14.1), (14, r15.1), (15, r16.1)]) r17.2) Q)))))))))))))))) : Ag (GF e w) Q := Gf (id := 1) (ops := opsOf (cA (cB (Ai P 132)))) (by kernel_rfl) (by kernel_rfl) (Eq.mpr (by kernel_rfl) h)
theorem II (e : Env) (w : World) : Dg e w =
 (fa P 49 (e 5) 1 w).bind fun r1 =>
 (fa P 36 r1.1 0 r1.2).bind fun r2 =>
 (ld P 3 r2.1 r2.2).bind fun r3 =>
 (fa P 84 (e 2) 1 r3.2).bind fun r4 =>
 (ld P 3 r4.1 r4.2).bind fun r5 =>
 (bo P .gtr 3 (.tmp 18) (.tmp 20) r3.1 r5.1 r5.2).bind fun r6 =>
 AP r6.1 (
 (fa P 49 (e 5) 1 r6.2).bind fun r7 =>
 (fa P 36 r7.1 0 r7.2).bind fun r8 =>
 (ld P 3 r8.1 r8.2).bind fun r9 =>
 (fa P 84 (e 2) 1 r9.2).bind fun r10 =>
 (st P 3 r10.1 r9.1 r10.2).bind fun r11 =>
 Dh (AJ e [(16, r1.1), (17, r2.1), (18, r3.1), (19, r4.1), (20, r5.1), (21, r6.1), (22, r7.1), (23, r8.1), (24, r9.1), (25, r10.1)]) r11.2) (
 Dh (AJ e [(16, r1.1), (17, r2.1), (18, r3.1), (19, r4.1), (20, r5.1), (21, r6.1)]) r6.2) := by kernel_rfl
theorem IJ (e : Env) (w : World) : Dh e w =
 (fa P 84 (e 2) 2 w).bind fun r1 =>
 (ld P 81 r1.1 r1.2).bind fun r2 =>
 (ld P 49 (e 5) r2.2).bind fun r3 =>
 (EV P 138 #[r2.1, (.int .i64 0), r3.1] r3.2).bind fun r4 =>
 (fa P 84 (e 2) 2 r4.2).bind fun r5 =>
 (st P 81 r5.1 r4.1 r5.2).bind fun r6 =>
 (ld P 84 (e 2) r6.2).bind fun r7 =>
 (EV P 127 #[r7.1] r7.2).bind fun r8 =>
 (st P 84 (e 4) r8.1 r8.2).bind fun r9 =>
 ((ld P 84 (e 4) r9.2).bind fun r10 => Aj (r10.2 = r9.2) (some r10.1)).bind fun v11 =>
 some (v11, r9.2) := by kernel_rfl
theorem KR (x0 x1 : Value) (w : World) : Bl P (EV P) 132 #[x0, x1] w =
 (bx P 84 x0 w).bind fun r1 =>
 (al P 84 r1.2).bind fun r2 =>
 GF (AJ (AL #[x0, x1]) [(2, r1.1), (4, r2.1)]) r2.2 := by kernel_rfl
theorem KS (x0 x1 x2 x3 : Value) (w : World) : Bl P (EV P) 133 #[x0, x1, x2, x3] w =
 (bx P 84 x0 w).bind fun r1 =>
 (bx P 49 x3 r1.2).bind fun r2 =>
 (al P 84 r2.2).bind fun r3 =>
 (vl (.bool false) r3.2).bind fun r4 =>
 (vl x1 (dw r4.2)).bind fun r6 =>
 Aj (r6.2 = (dw r4.2)) <|
 (fa P 84 r1.1 0 (dw r4.2)).bind fun r7 =>
 Aj (r7.2 = (dw r4.2)) <|
 (ld P 3 r7.1 (dw r4.2)).bind fun r8 =>
 Aj (r8.2 = (dw r4.2)) <|
 (bo P .eql 3 (.tmp 10) (.tmp 12) r6.1 r8.1 (dw r4.2)).bind fun r9 =>
 Aj (r9.2 = (dw r4.2)) <|
 (vl r9.1 (dw r4.2)).bind fun r10 =>
 Aj (r10.2 = (dw r4.2)) <|
 (An r10.1 false (vl x2 (dw r4.2)) (dw r4.2)).bind fun r11 =>
 Aj (r11.2 = (dw r4.2)) <|
 (An r10.1 false (fa P 84 r1.1 4 (dw r4.2)) (dw r4.2)).bind fun r12 =>
 Aj (r12.2 = (dw r4.2)) <|
 (An r10.1 false (ld P 82 r12.1 (dw r4.2)) (dw r4.2)).bind fun r13 =>
 Aj (r13.2 = (dw r4.2)) <|
 (An r10.1 false (vl x1 (dw r4.2)) (dw r4.2)).bind fun r14 =>
 Aj (r14.2 = (dw r4.2)) <|
 (An r10.1 false (ia P 82 r13.1 r14.1 (dw r4.2)) (dw r4.2)).bind fun r15 =>
 Aj (r15.2 = (dw r4.2)) <|
 (An r10.1 false (ld P 42 r15.1 (dw r4.2)) (dw r4.2)).bind fun r16 =>
 Aj (r16.2 = (dw r4.2)) <|
 (An r10.1 false (Au P #[42] 3 #[r16.1] (dw r4.2)) (dw r4.2)).bind fun r17 =>
 Aj (r17.2 = (dw r4.2)) <|
 (An r10.1 false (bo P .neq 3 (.tmp 15) (.tmp 21) r11.1 r17.1 (dw r4.2)) (dw r4.2)).bind fun r18 =>
 Aj (r18.2 = (dw r4.2)) <|
 (Av r10.1 (.bool true) r18.1 (dw r4.2)).bind fun r19 =>
 Aj (r19.2 = (dw r4.2)) <|
 (vl r19.1 (dw r4.2)).bind fun r20 =>
 Aj (r20.2 = (dw r4.2)) <|
 (An r20.1 false (vl x2 (dw r4.2)) (dw r4.2)).bind fun r21 =>
 Aj (r21.2 = (dw r4.2)) <|
 (An r20.1 false (bo P .geq 3 (.tmp 25) (.const (.int .i64 60)) r21.1 (.int .i64 60) (dw r4.2)) (dw r4.2)).bind fun r22 =>
 Aj (r22.2 = (dw r4.2)) <|
 (Av r20.1 (.bool true) r22.1 (dw r4.2)).bind fun r23 =>
 Aj (r23.2 = (dw r4.2)) <|
 (vl r23.1 (dw r4.2)).bind fun r24 =>
 Aj (r24.2 = (dw r4.2)) <|
 (An r24.1 false (fa P 84 r1.1 4 (dw r4.2)) (dw r4.2)).bind fun r25 =>
 Aj (r25.2 = (dw r4.2)) <|
 (An r24.1 false (ld P 82 r25.1 (dw r4.2)) (dw r4.2)).bind fun r26 =>
 Aj (r26.2 = (dw r4.2)) <|
 (An r24.1 false (vl x1 (dw r4.2)) (dw r4.2)).bind fun r27 =>
 Aj (r27.2 = (dw r4.2)) <|
 (An r24.1 false (ia P 82 r26.1 r27.1 (dw r4.2)) (dw r4.2)).bind fun r28 =>
 Aj (r28.2 = (dw r4.2)) <|
 (An r24.1 false (ld P 42 r28.1 (dw r4.2)) (dw r4.2)).bind fun r29 =>
 Aj (r29.2 = (dw r4.2)) <|
 (An r24.1 false (fa P 49 r2.1 1 (dw r4.2)) (dw r4.2)).bind fun r30 =>
 Aj (r30.2 = (dw r4.2)) <|
 (An r24.1 false (ld P 36 r30.1 (dw r4.2)) (dw r4.2)).bind fun r31 =>
 Aj (r31.2 = (dw r4.2)) <|
 (An r24.1 false (EV P 139 #[r29.1, r31.1] (dw r4.2)) (dw r4.2)).bind fun r32 =>
 Aj (True ∧ True ∧ True ∧ True ∧ True ∧ True ∧ True ∧ True ∧ True ∧ True ∧ True ∧ True ∧ True ∧ True ∧ True ∧ True ∧ True) <|
 (Av r24.1 (.bool true) r32.1 r32.2).bind fun r33 =>
 Aj (r33.2 = r32.2) <|
 AP r33.1 (
 (ld P 84 r1.1 r32.2).bind fun r34 =>
 (st P 84 r3.1 r34.1 r34.2).bind fun r35 =>
 (vl (.bool false) r35.2).bind fun r36 =>
 ((ld P 84 r3.1 r36.2).bind fun r37 => Aj (r37.2 = r36.2) (some r37.1)).bind fun v38 =>
 some (.tuple #[v38, r36.1], r36.2)) (
 (fa P 84 r1.1 4 (dw r32.2)).bind fun r40 =>
 Aj (r40.2 = (dw r32.2)) <|
 (ld P 82 r40.1 (dw r32.2)).bind fun r41 =>
 Aj (r41.2 = (dw r32.2)) <|
 (vl x1 (dw r32.2)).bind fun r42 =>
 Aj (r42.2 = (dw r32.2)) <|
 (fa P 84 r1.1 4 (dw r32.2)).bind fun r43 =>
 Aj (r43.2 = (dw r32.2)) <|
 (ld P 82 r43.1 (dw r32.2)).bind fun r44 =>
 Aj (r44.2 = (dw r32.2)) <|
 (vl x1 (dw r32.2)).bind fun r45 =>
 Aj (r45.2 = (dw r32.2)) <|
 (ia P 82 r44.1 r45.1 (dw r32.2)).bind fun r46 =>
 Aj (r46.2 = (dw r32.2)) <|
 (ld P 42 r46.1 (dw r32.2)).bind fun r47 =>
 Aj (r47.2 = (dw r32.2)) <|
 (ld P 49 r2.1 (dw r32.2)).bind fun r48 =>
 Aj (r48.2 = (dw r32.2)) <|
 (EV P 98 #[r48.1] (dw r32.2)).bind fun r49 =>
 Aj (True ∧ ld P 42 r46.1 r49.2 = some (r47.1, r49.2) ∧ ia P 82 r44.1 r45.1 r49.2 = some (r46.1, r49.2) ∧ ld P 82 r43.1 r49.2 = some (r44.1, r49.2) ∧ fa P 84 r1.1 4 r49.2 = some (r43.1, r49.2) ∧ ld P 82 r40.1 r49.2 = some (r41.1, r49.2) ∧ fa P 84 r1.1 4 r49.2 = some (r40.1, r49.2) ∧ True) <|
 (bs P 42 1 #[(0, r49.1)] r49.2).bind fun r50 =>
 Aj (True ∧ ld P 42 r46.1 r50.2 = some (r47.1, r50.2) ∧ ia P 82 r44.1 r45.1 r50.2 = some (r46.1, r50.2) ∧ ld P 82 r43.1 r50.2 = some (r44.1, r50.2) ∧ fa P 84 r1.1 4 r50.2 = some (r43.1, r50.2) ∧ ld P 82 r40.1 r50.2 = some (r41.1, r50.2) ∧ fa P 84 r1.1 4 r50.2 = some (r40.1, r50.2) ∧ True) <|
 (Ar P #[42, 42] 42 #[r47.1, r50.1] r50.2).bind fun r51 =>
 Aj (True ∧ True ∧ True ∧ True ∧ True ∧ ld P 82 r40.1 r51.2 = some (r41.1, r51.2) ∧ fa P 84 r1.1 4 r51.2 = some (r40.1, r51.2) ∧ True) <|
 (ia P 82 r41.1 r42.1 r51.2).bind fun r52 =>
 Aj (r52.2 = r51.2) <|
 (st P 42 r52.1 r51.1 r51.2).bind fun r53 =>
 Aj (True ∧ True ∧ True ∧ True ∧ True ∧ True ∧ True ∧ True ∧ True) <|
 (ld P 84 r1.1 r53.2).bind fun r54 =>
 (st P 84 r3.1 r54.1 r54.2).bind fun r55 =>
 (vl (.bool true) r55.2).bind fun r56 =>
 ((ld P 84 r3.1 r56.2).bind fun r57 => Aj (r57.2 = r56.2) (some r57.1)).bind fun v58 =>
 some (.tuple #[v58, r56.1], r56.2)) := by kernel_rfl
theorem Mg (x0 x1 : Value) (w : World) : Bl P (EV P) 134 #[x0, x1] w =
 (bx P 84 x0 w).bind fun r1 =>
 (bx P 32 x1 r1.2).bind fun r2 =>
 (vl (.bool false) r2.2).bind fun r3 =>
 (ld P 32 r2.1 (dw r3.2)).bind fun r5 =>
 Aj (r5.2 = (dw r3.2)) <|
 (fa P 84 r1.1 2 (dw r3.2)).bind fun r6 =>
 Aj (r6.2 = (dw r3.2)) <|
 (ld P 81 r6.1 (dw r3.2)).bind fun r7 =>
 Aj (r7.2 = (dw r3.2)) <|
 (EV P 143 #[r7.1] (dw r3.2)).bind fun r8 =>
 Aj (True ∧ True ∧ ld P 32 r2.1 r8.2 = some (r5.1, r8.2) ∧ True) <|
 (EV P 84 #[r5.1, r8.1] r8.2).bind fun r9 =>
 Aj (True ∧ True ∧ True ∧ True) <|
 (vl r9.1 r9.2).bind fun r10 =>
 Aj (r10.2 = r9.2) <|
 (An r10.1 true (fa P 84 r1.1 2 r9.2) r9.2).bind fun r11 =>
 Aj (r11.2 = r9.2) <|
 (An r10.1 true (ld P 81 r11.1 r9.2) r9.2).bind fun r12 =>
 Aj (r12.2 = r9.2) <|
 (An r10.1 true (EV P 142 #[r12.1] r9.2) r9.2).bind fun r13 =>
 Aj (True ∧ True ∧ True ∧ True ∧ True ∧ True) <|
 (Av r10.1 r13.1 (.bool false) r13.2).bind fun r14 =>
 Aj (r14.2 = r13.2) <|
 (vl r14.1 r13.2).bind fun r15 =>
 Aj (r15.2 = r13.2) <|
 (An r15.1 true (ld P 84 r1.1 r13.2) r13.2).bind fun r16 =>
 Aj (r16.2 = r13.2) <|
 (An r15.1 true (ld P 32 r2.1 r13.2) r13.2).bind fun r17 =>
 Aj (r17.2 = r13.2) <|
 (An r15.1 true (EV P 144 #[r16.1, r17.1] r13.2) r13.2).bind fun r18 =>
 Aj (True ∧ True ∧ True ∧ True ∧ True ∧ True ∧ True ∧ True) <|
 (An r15.1 true (bo P .leq 3 (.tmp 18) (.const (.int .i64 999)) r18.1 (.int .i64 999) r18.2) r18.2).bind fun r19 =>
 Aj (r19.2 = r18.2) <|
 (Av r15.1 r19.1 (.bool false) r18.2).bind fun r20 =>
 Aj (r20.2 = r18.2) <|
 (vl r20.1 r18.2).bind fun r21 =>
 Aj (r21.2 = r18.2) <|
 (An r21.1 true (fa P 84 r1.1 3 r18.2) r18.2).bind fun r22 =>
 Aj (r22.2 = r18.2) <|
 (An r21.1 true (ld P 42 r22.1 r18.2) r18.2).bind fun r23 =>
 Aj (r23.2 = r18.2) <|
 (An r21.1 true (Au P #[42] 3 #[r23.1] r18.2) r18.2).bind fun r24 =>
 Aj (r24.2 = r18.2) <|
 (An r21.1 true (bo P .lss 3 (.tmp 24) (.const (.int .i64 36)) r24.1 (.int .i64 36) r18.2) r18.2).bind fun r25 =>
 Aj (r25.2 = r18.2) <|
 (Av r21.1 r25.1 (.bool false) r18.2).bind fun r26 =>
 Aj (r26.2 = r18.2) <|
 (vl r26.1 r18.2).bind fun r27 =>
 Aj (r27.2 = r18.2) <|
 some (r27.1, r18.2) := by kernel_rfl
noncomputable def Eh (e : Env) (w : World) : Option (Value × World) := Bu P (EV P) 135 41 (cA (cB (Ai P 135))) e w (AD P (EV P) 135 41 (cB (cB (Ai P 135))) (Be P (AA P 135)))
noncomputable def AY (e : Env) (w : World) : Option (Value × World) := Bu P (EV P) 135 41 (cB (cB (Ai P 135))) e w (Be P (AA P 135))
theorem Hq (e : Env) (w : World) {Q : Value × World → Prop} (h :
 (Ag (vl (e 1) (dw w)) fun r1 => r1.2 = (dw w) ∧
 (Ag (ld P 84 (e 5) (dw w)) fun r2 => r2.2 = (dw w) ∧
 (Ag (ld P 32 (e 9) (dw w)) fun r3 => r3.2 = (dw w) ∧
 (Ag (fa P 84 (e 5) 0 (dw w)) fun r4 => r4.2 = (dw w) ∧
 (Ag (ld P 3 r4.1 (dw w)) fun r5 => r5.2 = (dw w) ∧
 (Ag (fa P 32 (e 9) 0 (dw w)) fun r6 => r6.2 = (dw w) ∧
 (Ag (ld P 30 r6.1 (dw w)) fun r7 => r7.2 = (dw w) ∧
 (Ag (vl (e 2) (dw w)) fun r8 => r8.2 = (dw w) ∧
 (Ag (vl (e 3) (dw w)) fun r9 => r9.2 = (dw w) ∧
 ((Ag (EV P 144 #[r2.1, r3.1] (dw w)) fun r10 => (ld P 30 r6.1 r10.2 = some (r7.1, r10.2) ∧ fa P 32 (e 9) 0 r10.2 = some (r6.1, r10.2) ∧ ld P 3 r4.1 r10.2 = some (r5.1, r10.2) ∧ fa P 84 (e 5) 0 r10.2 = some (r4.1, r10.2) ∧ True ∧ True ∧ True) ∧
 (Ag (bd P 36 #[(0, r10.1), (1, r5.1)] r10.2) fun r11 => r11.2 = r10.2 ∧
 ((Ag (bs P 30 0 #[] r10.2) fun r12 => (bd P 36 #[(0, r10.1), (1, r5.1)] r12.2 = some (r11.1, r12.2) ∧ ld P 30 r6.1 r12.2 = some (r7.1, r12.2) ∧ fa P 32 (e 9) 0 r12.2 = some (r6.1, r12.2) ∧ ld P 3 r4.1 r12.2 = some (r5.1, r12.2) ∧ fa P 84 (e 5) 0 r12.2 = some (r4.1, r12.2) ∧ ld P 32 (e 9) r12.2 = some (r3.1, r12.2) ∧ ld P 84 (e 5) r12.2 = some (r2.1, r12.2) ∧ True) ∧
 ((Ag (Ar P #[30, 30] 30 #[r12.1, r7.1] r12.2) fun r13 => (bd P 36 #[(0, r10.1), (1, r5.1)] r13.2 = some (r11.1, r13.2) ∧ True ∧ True ∧ ld P 3 r4.1 r13.2 = some (r5.1, r13.2) ∧ fa P 84 (e 5) 0 r13.2 = some (r4.1, r13.2) ∧ True ∧ True ∧ True) ∧
 (Ag (bd P 32 #[(0, r13.1)] r13.2) fun r14 => r14.2 = r13.2 ∧
 (Ag (bd P 49 #[(0, r1.1), (1, r11.1), (2, r14.1), (3, r8.1), (4, r9.1)] r13.2) fun r15 => r15.2 = r13.2 ∧
 ((Ag (al P 49 r13.2) fun r16 => (bd P 49 #[(0, r1.1), (1, r11.1), (2, r14.1), (3, r8.1), (4, r9.1)] r16.2 = some (r15.1, r16.2) ∧ bd P 32 #[(0, r13.1)] r16.2 = some (r14.1, r16.2) ∧ bd P 36 #[(0, r10.1), (1, r5.1)] r16.2 = some (r11.1, r16.2) ∧ ld P 30 r6.1 r16.2 = some (r7.1, r16.2) ∧ fa P 32 (e 9) 0 r16.2 = some (r6.1, r16.2) ∧ ld P 3 r4.1 r16.2 = some (r5.1, r16.2) ∧ fa P 84 (e 5) 0 r16.2 = some (r4.1, r16.2) ∧ ld P 32 (e 9) r16.2 = some (r3.1, r16.2) ∧ ld P 84 (e 5) r16.2 = some (r2.1, r16.2) ∧ True) ∧
 ((Ag (st P 49 r16.1 r15.1 r16.2) fun r17 => (True ∧ True ∧ True ∧ True ∧ True ∧ True ∧ True ∧ True ∧ True ∧ True) ∧
 Ag (AY (AJ e [(13, r1.1), (14, r2.1), (15, r3.1), (17, r4.1), (18, r5.1), (21, r6.1), (22, r7.1), (25, r8.1), (26, r9.1), (16, r10.1), (19, r11.1), (20, r12.1), (23, r13.1), (24, r14.1), (27, r15.1), (12, r16.1)]) r17.2) Q))))))) ∧
 (Ag (al P 49 r12.2) fun r18 => (bd P 36 #[(0, r10.1), (1, r5.1)] r18.2 = some (r11.1, r18.2) ∧ ld P 30 r6.1 r18.2 = some (r7.1, r18.2) ∧ fa P 32 (e 9) 0 r18.2 = some (r6.1, r18.2) ∧ ld P 3 r4.1 r18.2 = some (r5.1, r18.2) ∧ fa P 84 (e 5) 0 r18.2 = some (r4.1, r18.2) ∧ ld P 32 (e 9) r18.2 = some (r3.1, r18.2) ∧ ld P 84 (e 5) r18.2 = some (r2.1, r18.2) ∧ True) ∧
 ((Ag (Ar P #[30, 30] 30 #[r12.1, r7.1] r18.2) fun r19 => (bd P 36 #[(0, r10.1), (1, r5.1)] r19.2 = some (r11.1, r19.2) ∧ True ∧ True ∧ ld P 3 r4.1 r19.2 = some (r5.1, r19.2) ∧ fa P 84 (e 5) 0 r19.2 = some (r4.1, r19.2) ∧ True ∧ True ∧ True) ∧
 (Ag (bd P 32 #[(0, r19.1)] r19.2) fun r20 => r20.2 = r19.2 ∧
 (Ag (bd P 49 #[(0, r1.1), (1, r11.1), (2, r20.1), (3, r8.1), (4, r9.1)] r19.2) fun r21 => r21.2 = r19.2 ∧
 ((Ag (st P 49 r18.1 r21.1 r19.2) fun r22 => (True ∧ True ∧ True ∧ True ∧ True ∧ True ∧ True ∧ True ∧ True ∧ True) ∧
 Ag (AY (AJ e [(13, r1.1), (14, r2.1), (15, r3.1), (17, r4.1), (18, r5.1), (21, r6.1), (22, r7.1), (25, r8.1), (26, r9.1), (16, r10.1), (19, r11.1), (20, r12.1), (12, r18.1), (23, r19.1), (24, r20.1), (27, r21.1)]) r22.2) Q))))))))) ∧
 (Ag (al P 49 r10.2) fun r23 => (bd P 36 #[(0, r10.1), (1, r5.1)] r23.2 = some (r11.1, r23.2) ∧ ld P 30 r6.1 r23.2 = some (r7.1, r23.2) ∧ fa P 32 (e 9) 0 r23.2 = some (r6.1, r23.2) ∧ ld P 3 r4.1 r23.2 = some (r5.1, r23.2) ∧ fa P 84 (e 5) 0 r23.2 = some (r4.1, r23.2) ∧ ld P 32 (e 9) r23.2 = some (r3.1, r23.2) ∧ ld P 84 (e 5) r23.2 = some (r2.1, r23.2) ∧ True) ∧
 ((Ag (bs P 30 0 #[] r23.2) fun r24 => (bd P 36 #[(0, r10.1), (1, r5.1)] r24.2 = some (r11.1, r24.2) ∧ ld P 30 r6.1 r24.2 = some (r7.1, r24.2) ∧ fa P 32 (e 9) 0 r24.2 = some (r6.1, r24.2) ∧ ld P 3 r4.1 r24.2 = some (r5.1, r24.2) ∧ fa P 84 (e 5) 0 r24.2 = some (r4.1, r24.2) ∧ ld P 32 (e 9) r24.2 = some (r3.1, r24.2) ∧ ld P 84 (e 5) r24.2 = some (r2.1, r24.2) ∧ True) ∧
 ((Ag (Ar P #[30, 30] 30 #[r24.1, r7.1] r24.2) fun r25 => (bd P 36 #[(0, r10.1), (1, r5.1)] r25.2 = some (r11.1, r25.2) ∧ True ∧ True ∧ ld P 3 r4.1 r25.2 = some (r5.1, r25.2) ∧ fa P 84 (e 5) 0 r25.2 = some (r4.1, r25.2) ∧ True ∧ True ∧ True) ∧
 (Ag (bd P 32 #[(0, r25.1)] r25.2) fun r26 => r26.2 = r25.2 ∧
 (Ag (bd P 49 #[(0, r1.1), (1, r11.1), (2, r26.1), (3, r8.1), (4, r9.1)] r25.2) fun r27 => r27.2 = r25.2 ∧
 ((Ag (st P 49 r23.1 r27.1 r25.2) fun r28 => (True ∧ True ∧ True ∧ True ∧ True ∧ True ∧ True ∧ True ∧ True ∧ True) ∧
 Ag (AY (AJ e [(13, r1.1), (14, r2.1), (15, r3.1), (17, r4.1), (18, r5.1), (21, r6.1), (22, r7.1), (25, r8.1), (26, r9.1), (16, r10.1), (19, r11.1), (12, r23.1), (20, r24.1), (23, r25.1), (24, r26.1), (27, r27.1)]) r28.2) Q)))))))))))) ∧
 (Ag (bs P 30 0 #[] (dw w)) fun r29 => (ld P 30 r6.1 r29.2 = some (r7.1, r29.2) ∧ fa P 32 (e 9) 0 r29.2 = some (r6.1, r29.2) ∧ ld P 3 r4.1 r29.2 = some (r5.1, r29.2) ∧ fa P 84 (e 5) 0 r29.2 = some (r4.1, r29.2) ∧ ld P 32 (e 9) r29.2 = some (r3.1, r29.2) ∧ ld P 84 (e 5) r29.2 = some (r2.1, r29.2) ∧ True) ∧
 ((Ag (EV P 144 #[r2.1, r3.1] r29.2) fun r30 => (ld P 30 r6.1 r30.2 = some (r7.1, r30.2) ∧ fa P 32 (e 9) 0 r30.2 = some (r6.1, r30.2) ∧ ld P 3 r4.1 r30.2 = some (r5.1, r30.2) ∧ fa P 84 (e 5) 0 r30.2 = some (r4.1, r30.2) ∧ True ∧ True ∧ True) ∧
 (Ag (bd P 36 #[(0, r30.1), (1, r5.1)] r30.2) fun r31 => r31.2 = r30.2 ∧
 ((Ag (Ar P #[30, 30] 30 #[r29.1, r7.1] r30.2) fun r32 => (bd P 36 #[(0, r30.1), (1, r5.1)] r32.2 = some (r31.1, r32.2) ∧ True ∧ True ∧ ld P 3 r4.1 r32.2 = some (r5.1, r32.2) ∧ fa P 84 (e 5) 0 r32.2 = some (r4.1, r32.2) ∧ True ∧ True ∧ True) ∧
 (Ag (bd P 32 #[(0, r32.1)] r32.2) fun r33 => r33.2 = r32.2 ∧
 (Ag (bd P 49 #[(0, r1.1), (1, r31.1), (2, r33.1), (3, r8.1), (4, r9.1)] r32.2) fun r34 => r34.2 = r32.2 ∧
 ((Ag (al P 49 r32.2) fun r35 => (bd P 49 #[(0, r1.1), (1, r31.1), (2, r33.1), (3, r8.1), (4, r9.1)] r35.2 = some (r34.1, r35.2) ∧ bd P 32 #[(0, r32.1)] r35.2 = some (r33.1, r35.2) ∧ bd P 36 #[(0, r30.1), (1, r5.1)] r35.2 = some (r31.1, r35.2) ∧ ld P 30 r6.1 r35.2 = some (r7.1, r35.2) ∧ fa P 32 (e 9) 0 r35.2 = some (r6.1, r35.2) ∧ ld P 3 r4.1 r35.2 = some (r5.1, r35.2) ∧ fa P 84 (e 5) 0 r35.2 = some (r4.1, r35.2) ∧ ld P 32 (e 9) r35.2 = some (r3.1, r35.2) ∧ ld P 84 (e 5) r35.2 = some (r2.1, r35.2) ∧ True) ∧
 ((Ag (st P 49 r35.1 r34.1 r35.2) fun r36 => (True ∧ True ∧ True ∧ True ∧ True ∧ True ∧ True ∧ True ∧ True ∧ True) ∧
 Ag (AY (AJ e [(13, r1.1), (14, r2.1), (15, r3.1), (17, r4.1), (18, r5.1), (21, r6.1), (22, r7.1), (25, r8.1), (26, r9.1), (20, r29.1), (16, r30.1), (19, r31.1), (23, r32.1), (24, r33.1), (27, r34.1), (12, r35.1)]) r36.2) Q))))))) ∧
 (Ag (al P 49 r30.2) fun r37 => (bd P 36 #[(0, r30.1), (1, r5.1)] r37.2 = some (r31.1, r37.2) ∧ ld P 30 r6.1 r37.2 = some (r7.1, r37.2) ∧ fa P 32 (e 9) 0 r37.2 = some (r6.1, r37.2) ∧ ld P 3 r4.1 r37.2 = some (r5.1, r37.2) ∧ fa P 84 (e 5) 0 r37.2 = some (r4.1, r37.2) ∧ ld P 32 (e 9) r37.2 = some (r3.1, r37.2) ∧ ld P 84 (e 5) r37.2 = some (r2.1, r37.2) ∧ True) ∧
 ((Ag (Ar P #[30, 30] 30 #[r29.1, r7.1] r37.2) fun r38 => (bd P 36 #[(0, r30.1), (1, r5.1)] r38.2 = some (r31.1, r38.2) ∧ True ∧ True ∧ ld P 3 r4.1 r38.2 = some (r5.1, r38.2) ∧ fa P 84 (e 5) 0 r38.2 = some (r4.1, r38.2) ∧ True ∧ True ∧ True) ∧
 (Ag (bd P 32 #[(0, r38.1)] r38.2) fun r39 => r39.2 = r38.2 ∧
 (Ag (bd P 49 #[(0, r1.1), (1, r31.1), (2, r39.1), (3, r8.1), (4, r9.1)] r38.2) fun r40 => r40.2 = r38.2 ∧
 ((Ag (st P 49 r37.1 r40.1 r38.2) fun r41 => (True ∧ True ∧ True ∧ True ∧ True ∧ True ∧ True ∧ True ∧ True ∧ True) ∧
 Ag (AY (AJ e [(13, r1.1), (14, r2.1), (15, r3.1), (17, r4.1), (18, r5.1), (21, r6.1), (22, r7.1), (25, r8.1), (26, r9.1), (20, r29.1), (16, r30.1), (19, r31.1), (12, r37.1), (23, r38.1), (24, r39.1), (27, r40.1)]) r41.2) Q)))))))))) ∧
 (Ag (al P 49 r29.2) fun r42 => (ld P 30 r6.1 r42.2 = some (r7.1, r42.2) ∧ fa P 32 (e 9) 0 r42.2 = some (r6.1, r42.2) ∧ ld P 3 r4.1 r42.2 = some (r5.1, r42.2) ∧ fa P 84 (e 5) 0 r42.2 = some (r4.1, r42.2) ∧ ld P 32 (e 9) r42.2 = some (r3.1, r42.2) ∧ ld P 84 (e 5) r42.2 = some (r2.1, r42.2) ∧ True) ∧
 ((Ag (EV P 144 #[r2.1, r3.1] r42.2) fun r43 => (ld P 30 r6.1 r43.2 = some (r7.1, r43.2) ∧ fa P 32 (e 9) 0 r43.2 = some (r6.1, r43.2) ∧ ld P 3 r4.1 r43.2 = some (r5.1, r43.2) ∧ fa P 84 (e 5) 0 r43.2 = some (r4.1, r43.2) ∧ True ∧ True ∧ True) ∧
 (Ag (bd P 36 #[(0, r43.1), (1, r5.1)] r43.2) fun r44 => r44.2 = r43.2 ∧
 ((Ag (Ar P #[30, 30] 30 #[r29.1, r7.1] r43.2) fun r45 => (bd P 36 #[(0, r43.1), (1, r5.1)] r45.2 = some (r44.1, r45.2) ∧ True ∧ True ∧ ld P 3 r4.1 r45.2 = some (r5.1, r45.2) ∧ fa P 84 (e 5) 0 r45.2 = some (r4.1, r45.2) ∧ True ∧ True ∧ True) ∧
 (Ag (bd P 32 #[(0, r45.1)] r45.2) fun r46 => r46.2 = r45.2 ∧
 (Ag (bd P 49 #[(0, r1.1), (1, r44.1), (2, r46.1), (3, r8.1), (4, r9.1)] r45.2) fun r47 => r47.2 = r45.2 ∧
 ((Ag (st P 49 r42.1 r47.1 r45.2) fun r48 => (True ∧ True ∧ True ∧ True ∧ True ∧ True ∧ True ∧ True ∧ True ∧ True) ∧
 Ag (AY (AJ e [(13, r1.1), (14, r2.1), (15, r3.1), (17, r4.1), (18, r5.1), (21, r6.1), (22, r7.1), (25, r8.1), (26, r9.1), (20, r29.1), (12, r42.1), (16, r43.1), (19, r44.1), (23, r45.1), (24, r46.1), (27, r47.1)]) r48.2) Q)))))))))))) ∧
 (Ag (al P 49 (dw w)) fun r49 => (ld P 30 r6.1 r49.2 = some (r7.1, r49.2) ∧ fa P 32 (e 9) 0 r49.2 = some (r6.1, r49.2) ∧ ld P 3 r4.1 r49.2 = some (r5.1, r49.2) ∧ fa P 84 (e 5) 0 r49.2 = some (r4.1, r49.2) ∧ ld P 32 (e 9) r49.2 = some (r3.1, r49.2) ∧ ld P 84 (e 5) r49.2 = some (r2.1, r49.2) ∧ True) ∧
 ((Ag (EV P 144 #[r2.1, r3.1] r49.2) fun r50 => (ld P 30 r6.1 r50.2 = some (r7.1, r50.2) ∧ fa P 32 (e 9) 0 r50.2 = some (r6.1, r50.2) ∧ ld P 3 r4.1 r50.2 = some (r5.1, r50.2) ∧ fa P 84 (e 5) 0 r50.2 = some (r4.1, r50.2) ∧ True ∧ True ∧ True) ∧
 (Ag (bd P 36 #[(0, r50.1), (1, r5.1)] r50.2) fun r51 => r51.2 = r50.2 ∧
 ((Ag (bs P 30 0 #[] r50.2) fun r52 => (bd P 36 #[(0, r50.1), (1, r5.1)] r52.2 = some (r51.1, r52.2) ∧ ld P 30 r6.1 r52.2 = some (r7.1, r52.2) ∧ fa P 32 (e 9) 0 r52.2 = some (r6.1, r52.2) ∧ ld P 3 r4.1 r52.2 = some (r5.1, r52.2) ∧ fa P 84 (e 5) 0 r52.2 = some (r4.1, r52.2) ∧ ld P 32 (e 9) r52.2 = some (r3.1, r52.2) ∧ ld P 84 (e 5) r52.2 = some (r2.1, r52.2) ∧ True) ∧
 ((Ag (Ar P #[30, 30] 30 #[r52.1, r7.1] r52.2) fun r53 => (bd P 36 #[(0, r50.1), (1, r5.1)] r53.2 = some (r51.1, r53.2) ∧ True ∧ True ∧ ld P 3 r4.1 r53.2 = some (r5.1, r53.2) ∧ fa P 84 (e 5) 0 r53.2 = some (r4.1, r53.2) ∧ True ∧ True ∧ True) ∧
 (Ag (bd P 32 #[(0, r53.1)] r53.2) fun r54 => r54.2 = r53.2 ∧
 (Ag (bd P 49 #[(0, r1.1), (1, r51.1), (2, r54.1), (3, r8.1), (4, r9.1)] r53.2) fun r55 => r55.2 = r53.2 ∧
 ((Ag (st P 49 r49.1 r55.1 r53.2) fun r56 => (True ∧ True ∧ True ∧ True ∧ True ∧ True ∧ True ∧ True ∧ True ∧ True) ∧
 Ag (AY (AJ e [(13, r1.1), (14, r2.1), (15, r3.1), (17, r4.1), (18, r5.1), (21, r6.1), (22, r7.1), (25, r8.1), (26, r9.1), (12, r49.1), (16, r50.1), (19, r51.1), (20, r52.1), (23, r53.1), (24, r54.1), (27, r55.1)]) r56.2) Q)))))))))) ∧
 (Ag (bs P 30 0 #[] r49.2) fun r57 => (ld P 30 r6.1 r57.2 = some (r7.1, r57.2) ∧ fa P 32 (e 9) 0 r57.2 = some (r6.1, r57.2) ∧ ld P 3 r4.1 r57.2 = some (r5.1, r57.2) ∧ fa P 84 (e 5) 0 r57.2 = some (r4.1, r57.2) ∧ ld P 32 (e 9) r57.2 = some (r3.1, r57.2) ∧ ld P 84 (e 5) r57.2 = some (r2.1, r57.2) ∧ True) ∧
 ((Ag (EV P 144 #[r2.1, r3.1] r57.2) fun r58 => (ld P 30 r6.1 r58.2 = some (r7.1, r58.2) ∧ fa P 32 (e 9) 0 r58.2 = some (r6.1, r58.2) ∧ ld P 3 r4.1 r58.2 = some (r5.1, r58.2) ∧ fa P 84 (e 5) 0 r58.2 = some (r4.1, r58.2) ∧ True ∧ True ∧ True) ∧
 (Ag (bd P 36 #[(0, r58.1), (1, r5.1)] r58.2) fun r59 => r59.2 = r58.2 ∧
 ((Ag (Ar P #[30, 30] 30 #[r57.1, r7.1] r58.2) fun r60 => (bd P 36 #[(0, r58.1), (1, r5.1)] r60.2 = some (r59.1, r60.2) ∧ True ∧ True ∧ ld P 3 r4.1 r60.2 = some (r5.1, r60.2) ∧ fa P 84 (e 5) 0 r60.2 = some (r4.1, r60.2) ∧ True ∧ True ∧ True) ∧
 (Ag (bd P 32 #[(0, r60.1)] r60.2) fun r61 => r61.2 = r60.2 ∧
 (Ag (bd P 49 #[(0, r1.1), (1, r59.1), (2, r61.1), (3, r8.1), (4, r9.1)] r60.2) fun r62 => r62.2 = r60.2 ∧
 ((Ag (st P 49 r49.1 r62.1 r60.2) fun r63 => (True ∧ True ∧ True ∧ True ∧ True ∧ True ∧ True ∧ True ∧ True ∧ True) ∧
 Ag (AY (AJ e [(13, r1.1), (14, r2.1), (15, r3.1), (17, r4.1), (18, r5.1), (21, r6.1), (22, r7.1), (25, r8.1), (26, r9.1), (12, r49.1), (20, r57.1), (16, r58.1), (19, r59.1), (23, r60.1), (24, r61.1), (27, r62.1)]) r63.2) Q))))))))))))))))))))))) : Ag (Eh e w) Q := Gf (id := 1) (ops := opsOf (cA (cB (Ai P 135)))) (by kernel_rfl) (by kernel_rfl) (Eq.mpr (by kernel_rfl) h)
theorem HZ (e : Env) (w : World) : AY e w =
 (fa P 49 (e 12) 1 w).bind fun r1 =>
 (fa P 36 r1.1 0 r1.2).bind fun r2 =>
 (ld P 3 r2.1 r2.2).bind fun r3 =>
 (fa P 84 (e 5) 1 r3.2).bind fun r4 =>
 (st P 3 r4.1 r3.1 r4.2).bind fun r5 =>
 (fa P 84 (e 5) 2 r5.2).bind fun r6 =>
 (ld P 81 r6.1 r6.2).bind fun r7 =>
 (ld P 49 (e 12) r7.2).bind fun r8 =>
 (EV P 138 #[r7.1, (.int .i64 0), r8.1] r8.2).bind fun r9 =>
 (fa P 84 (e 5) 2 r9.2).bind fun r10 =>
 (st P 81 r10.1 r9.1 r10.2).bind fun r11 =>
 (ld P 84 (e 5) (dw r11.2)).bind fun r13 =>
 Aj (r13.2 = (dw r11.2)) <|
 (fa P 49 (e 12) 1 (dw r11.2)).bind fun r14 =>
 Aj (r14.2 = (dw r11.2)) <|
 (ld P 36 r14.1 (dw r11.2)).bind fun r15 =>
 Aj (r15.2 = (dw r11.2)) <|
 (EV P 127 #[r13.1] (dw r11.2)).bind fun r16 =>
 Aj (ld P 36 r14.1 r16.2 = some (r15.1, r16.2) ∧ fa P 49 (e 12) 1 r16.2 = some (r14.1, r16.2) ∧ True ∧ True) <|
 (st P 84 (e 10) r16.1 r16.2).bind fun r17 =>
 Aj (ld P 36 r14.1 r17.2 = some (r15.1, r17.2) ∧ fa P 49 (e 12) 1 r17.2 = some (r14.1, r17.2) ∧ True ∧ True) <|
 (st P 36 (e 11) r15.1 r17.2).bind fun r18 =>
 Aj (True ∧ True ∧ True ∧ True) <|
 ((ld P 84 (e 10) r18.2).bind fun r19 => Aj (r19.2 = r18.2) (some r19.1)).bind fun v20 =>
 ((ld P 36 (e 11) r18.2).bind fun r21 => Aj (r21.2 = r18.2) (some r21.1)).bind fun v22 =>
 some (.tuple #[v20, v22], r18.2) := by kernel_rfl
theorem Kh (x0 x1 x2 x3 x4 : Value) (w : World) : Bl P (EV P) 135 #[x0, x1, x2, x3, x4] w =
 (bx P 84 x0 w).bind fun r1 =>
 (bx P 32 x4 r1.2).bind fun r2 =>
 (al P 84 r2.2).bind fun r3 =>
 (al P 36 r3.2).bind fun r4 =>
 Eh (AJ (AL #[x0, x1, x2, x3, x4]) [(5, r1.1), (9, r2.1), (10, r3.1), (11, r4.1)]) r4.2 := by kernel_rfl
theorem GG (x0 x1 x2 x3 x4 : Value) (w : World) : Bl P (EV P) 136 #[x0, x1, x2, x3, x4] w =
 (bx P 77 x0 w).bind fun r1 =>
 (bx P 36 x4 r1.2).bind fun r2 =>
 (al P 77 r2.2).bind fun r3 =>
 (fa P 77 r1.1 3 r3.2).bind fun r4 =>
 (ld P 23 r4.1 r4.2).bind fun r5 =>
 (vl x1 r5.2).bind fun r6 =>
 (vl x2 r6.2).bind fun r7 =>
 (vl x3 r7.2).bind fun r8 =>
 (ld P 36 r2.1 r8.2).bind fun r9 =>
 (bd P 38 #[(0, r6.1), (1, r7.1), (2, r8.1), (3, r9.1)] r9.2).bind fun r10 =>
 (bs P 23 1 #[(0, r10.1)] r10.2).bind fun r11 =>
 (Ar P #[23, 23] 23 #[r5.1, r11.1] r11.2).bind fun r12 =>
 (fa P 77 r1.1 3 r12.2).bind fun r13 =>
 (st P 23 r13.1 r12.1 r13.2).bind fun r14 =>
 (ld P 77 r1.1 r14.2).bind fun r15 =>
 (st P 77 r3.1 r15.1 r15.2).bind fun r16 =>
 ((ld P 77 r3.1 r16.2).bind fun r17 => Aj (r17.2 = r16.2) (some r17.1)).bind fun v18 =>
 some (v18, r16.2) := by kernel_rfl
noncomputable def B8 (e : Env) (w : World) : Option (Value × World) := Bu P (EV P) 137 26 (cB (cB (Ai P 137))) e w (Be P (AA P 137))
theorem H0 (e : Env) (w : World) : B8 e w =
 (fa P 81 (e 3) 0 w).bind fun r1 =>
 (ld P 79 r1.1 r1.2).bind fun r2 =>
 (vl (e 1) r2.2).bind fun r3 =>
 (ia P 79 r2.1 r3.1 r3.2).bind fun r4 =>
 (fa P 86 r4.1 0 r4.2).bind fun r5 =>
 (fa P 44 r5.1 0 r5.2).bind fun r6 =>
 (ld P 42 r6.1 r6.2).bind fun r7 =>
 (vl (e 2) r7.2).bind fun r8 =>
 (ia P 42 r7.1 r8.1 r8.2).bind fun r9 =>
 (ld P 49 r9.1 r9.2).bind fun r10 =>
 (EV P 98 #[r10.1] r10.2).bind fun r11 =>
 (st P 49 (e 6) r11.1 r11.2).bind fun r12 =>
 ((ld P 49 (e 6) r12.2).bind fun r13 => Aj (r13.2 = r12.2) (some r13.1)).bind fun v14 =>
 some (v14, r12.2) := by kernel_rfl
theorem Ki (x0 x1 x2 : Value) (w : World) : Bl P (EV P) 137 #[x0, x1, x2] w =
 (bx P 81 x0 w).bind fun r1 =>
 (al P 49 r1.2).bind fun r2 =>
 (vl x1 r2.2).bind fun r3 =>
 (bo P .eql 3 (.tmp 7) (.const (.int .i64 0)) r3.1 (.int .i64 0) r3.2).bind fun r4 =>
 (vl r4.1 r4.2).bind fun r5 =>
 (An r5.1 true (fa P 81 r1.1 0 r5.2) r5.2).bind fun r6 =>
 (An r5.1 true (ld P 79 r6.1 r6.2) r6.2).bind fun r7 =>
 (An r5.1 true (Au P #[79] 3 #[r7.1] r7.2) r7.2).bind fun r8 =>
 (An r5.1 true (bo P .gtr 3 (.tmp 12) (.const (.int .i64 1)) r8.1 (.int .i64 1) r8.2) r8.2).bind fun r9 =>
 (Av r5.1 r9.1 (.bool false) r9.2).bind fun r10 =>
 AP r10.1 (
 (vl (.int .i64 1) r10.2).bind fun r11 =>
 B8 (AJ (AL #[x0, x1, x2]) [(3, r1.1), (6, r2.1), (7, r3.1), (8, r4.1), (9, r5.1), (10, r6.1), (11, r7.1), (12, r8.1), (13, r9.1), (14, r10.1), (1, r11.1)]) r11.2) (
 B8 (AJ (AL #[x0, x1, x2]) [(3, r1.1), (6, r2.1), (7, r3.1), (8, r4.1), (9, r5.1), (10, r6.1), (11, r7.1), (12, r8.1), (13, r9.1), (14, r10.1)]) r10.2) := by kernel_rfl
noncomputable def FG (e : Env) (w : World) : Option (Value × World) := Bu P (EV P) 138 59 (cB (cB (cB (cB (Ai P 138))))) e w (Be P (AA P 138))
theorem FP (e : Env) (w : World) : FG e w =
 (ld P 81 (e 3) w).bind fun r1 =>
 (st P 81 (e 6) r1.1 r1.2).bind fun r2 =>
 ((ld P 81 (e 6) r2.2).bind fun r3 => Aj (r3.2 = r2.2) (some r3.1)).bind fun v4 =>
 some (v4, r2.2) := by kernel_rfl
theorem Mh (x0 x1 x2 : Value) (w : World) : Bl P (EV P) 138 #[x0, x1, x2] w =
 (bx P 81 x0 w).bind fun r1 =>
 (bx P 49 x2 r1.2).bind fun r2 =>
 (al P 81 r2.2).bind fun r3 =>
 (fa P 81 r1.1 0 (dw r3.2)).bind fun r5 =>
 Aj (r5.2 = (dw r3.2)) <|
 (ld P 79 r5.1 (dw r3.2)).bind fun r6 =>
 Aj (r6.2 = (dw r3.2)) <|
 (vl x1 (dw r3.2)).bind fun r7 =>
 Aj (r7.2 = (dw r3.2)) <|
 (ia P 79 r6.1 r7.1 (dw r3.2)).bind fun r8 =>
 Aj (r8.2 = (dw r3.2)) <|
 (fa P 86 r8.1 0 (dw r3.2)).bind fun r9 =>
 Aj (r9.2 = (dw r3.2)) <|
 (fa P 44 r9.1 0 (dw r3.2)).bind fun r10 =>
 Aj (r10.2 = (dw r3.2)) <|
 (ld P 42 r10.1 (dw r3.2)).bind fun r11 =>
 Aj (r11.2 = (dw r3.2)) <|
 (fa P 49 r2.1 0 (dw r3.2)).bind fun r12 =>
 Aj (r12.2 = (dw r3.2)) <|
 (ld P 3 r12.1 (dw r3.2)).bind fun r13 =>
 Aj (r13.2 = (dw r3.2)) <|
 (ia P 42 r11.1 r13.1 (dw r3.2)).bind fun r14 =>
 Aj (r14.2 = (dw r3.2)) <|
 (fa P 49 r14.1 1 (dw r3.2)).bind fun r15 =>
 Aj (r15.2 = (dw r3.2)) <|
 (ld P 36 r15.1 (dw r3.2)).bind fun r16 =>
 Aj (r16.2 = (dw r3.2)) <|
 (fa P 49 r2.1 1 (dw r3.2)).bind fun r17 =>
 Aj (r17.2 = (dw r3.2)) <|
 (ld P 36 r17.1 (dw r3.2)).bind fun r18 =>
 Aj (r18.2 = (dw r3.2)) <|
 (EV P 63 #[r16.1, r18.1] (dw r3.2)).bind fun r19 =>
 Aj (True ∧ True ∧ True ∧ True ∧ True ∧ True ∧ True ∧ True ∧ True ∧ True ∧ True ∧ True ∧ True ∧ True) <|
 (uo P .not r19.1 r19.2).bind fun r20 =>
 Aj (r20.2 = r19.2) <|
 AP r20.1 (
 (ld P 81 r1.1 r19.2).bind fun r21 =>
 (st P 81 r3.1 r21.1 r21.2).bind fun r22 =>
 ((ld P 81 r3.1 r22.2).bind fun r23 => Aj (r23.2 = r22.2) (some r23.1)).bind fun v24 =>
 some (v24, r22.2)) (
 (fa P 81 r1.1 0 (dw r19.2)).bind fun r26 =>
 Aj (r26.2 = (dw r19.2)) <|
 (ld P 79 r26.1 (dw r19.2)).bind fun r27 =>
 Aj (r27.2 = (dw r19.2)) <|
 (vl x1 (dw r19.2)).bind fun r28 =>
 Aj (r28.2 = (dw r19.2)) <|
 (fa P 81 r1.1 0 (dw r19.2)).bind fun r29 =>
 Aj (r29.2 = (dw r19.2)) <|
 (ld P 79 r29.1 (dw r19.2)).bind fun r30 =>
 Aj (r30.2 = (dw r19.2)) <|
 (vl x1 (dw r19.2)).bind fun r31 =>
 Aj (r31.2 = (dw r19.2)) <|
 (ia P 79 r30.1 r31.1 (dw r19.2)).bind fun r32 =>
 Aj (r32.2 = (dw r19.2)) <|
 (fa P 86 r32.1 0 (dw r19.2)).bind fun r33 =>
 Aj (r33.2 = (dw r19.2)) <|
 (ld P 44 r33.1 (dw r19.2)).bind fun r34 =>
 Aj (r34.2 = (dw r19.2)) <|
 (ld P 49 r2.1 (dw r19.2)).bind fun r35 =>
 Aj (r35.2 = (dw r19.2)) <|
 (EV P 102 #[r34.1, r35.1] (dw r19.2)).bind fun r36 =>
 Aj (True ∧ True ∧ True ∧ True ∧ True ∧ True ∧ ld P 79 r26.1 r36.2 = some (r27.1, r36.2) ∧ fa P 81 r1.1 0 r36.2 = some (r26.1, r36.2) ∧ True) <|
 (ia P 79 r27.1 r28.1 r36.2).bind fun r37 =>
 Aj (r37.2 = r36.2) <|
 (fa P 86 r37.1 0 r36.2).bind fun r38 =>
 Aj (r38.2 = r36.2) <|
 (st P 44 r38.1 r36.1 r36.2).bind fun r39 =>
 Aj (True ∧ True ∧ True ∧ True ∧ True ∧ True ∧ True ∧ True ∧ True ∧ True ∧ True) <|
 (vl x1 r39.2).bind fun r40 =>
 (fa P 81 r1.1 0 r40.2).bind fun r41 =>
 (ld P 79 r41.1 r41.2).bind fun r42 =>
 (Au P #[79] 3 #[r42.1] r42.2).bind fun r43 =>
 (bo P .sub 3 (.tmp 40) (.const (.int .i64 1)) r43.1 (.int .i64 1) r43.2).bind fun r44 =>
 (bo P .lss 3 (.tmp 37) (.tmp 41) r40.1 r44.1 r44.2).bind fun r45 =>
 AP r45.1 (
 (fa P 81 r1.1 0 (dw r45.2)).bind fun r47 =>
 Aj (r47.2 = (dw r45.2)) <|
 (ld P 79 r47.1 (dw r45.2)).bind fun r48 =>
 Aj (r48.2 = (dw r45.2)) <|
 (vl x1 (dw r45.2)).bind fun r49 =>
 Aj (r49.2 = (dw r45.2)) <|
 (fa P 81 r1.1 0 (dw r45.2)).bind fun r50 =>
 Aj (r50.2 = (dw r45.2)) <|
 (ld P 79 r50.1 (dw r45.2)).bind fun r51 =>
 Aj (r51.2 = (dw r45.2)) <|
 (vl x1 (dw r45.2)).bind fun r52 =>
 Aj (r52.2 = (dw r45.2)) <|
 (ia P 79 r51.1 r52.1 (dw r45.2)).bind fun r53 =>
 Aj (r53.2 = (dw r45.2)) <|
 (fa P 86 r53.1 1 (dw r45.2)).bind fun r54 =>
 Aj (r54.2 = (dw r45.2)) <|
 (ld P 42 r54.1 (dw r45.2)).bind fun r55 =>
 Aj (r55.2 = (dw r45.2)) <|
 (ld P 49 r2.1 (dw r45.2)).bind fun r56 =>
 Aj (r56.2 = (dw r45.2)) <|
 (EV P 98 #[r56.1] (dw r45.2)).bind fun r57 =>
 Aj (True ∧ ld P 42 r54.1 r57.2 = some (r55.1, r57.2) ∧ fa P 86 r53.1 1 r57.2 = some (r54.1, r57.2) ∧ ia P 79 r51.1 r52.1 r57.2 = some (r53.1, r57.2) ∧ ld P 79 r50.1 r57.2 = some (r51.1, r57.2) ∧ fa P 81 r1.1 0 r57.2 = some (r50.1, r57.2) ∧ ld P 79 r47.1 r57.2 = some (r48.1, r57.2) ∧ fa P 81 r1.1 0 r57.2 = some (r47.1, r57.2) ∧ True) <|
 (bs P 42 1 #[(0, r57.1)] r57.2).bind fun r58 =>
 Aj (True ∧ ld P 42 r54.1 r58.2 = some (r55.1, r58.2) ∧ fa P 86 r53.1 1 r58.2 = some (r54.1, r58.2) ∧ ia P 79 r51.1 r52.1 r58.2 = some (r53.1, r58.2) ∧ ld P 79 r50.1 r58.2 = some (r51.1, r58.2) ∧ fa P 81 r1.1 0 r58.2 = some (r50.1, r58.2) ∧ ld P 79 r47.1 r58.2 = some (r48.1, r58.2) ∧ fa P 81 r1.1 0 r58.2 = some (r47.1, r58.2) ∧ True) <|
 (Ar P #[42, 42] 42 #[r55.1, r58.1] r58.2).bind fun r59 =>
 Aj (True ∧ True ∧ True ∧ True ∧ True ∧ True ∧ ld P 79 r47.1 r59.2 = some (r48.1, r59.2) ∧ fa P 81 r1.1 0 r59.2 = some (r47.1, r59.2) ∧ True) <|
 (ia P 79 r48.1 r49.1 r59.2).bind fun r60 =>
 Aj (r60.2 = r59.2) <|
 (fa P 86 r60.1 1 r59.2).bind fun r61 =>
 Aj (r61.2 = r59.2) <|
 (st P 42 r61.1 r59.1 r59.2).bind fun r62 =>
 Aj (True ∧ True ∧ True ∧ True ∧ True ∧ True ∧ True ∧ True ∧ True ∧ True ∧ True) <|
 FG (AJ (AL #[x0, x1, x2]) [(3, r1.1), (5, r2.1), (6, r3.1), (7, r5.1), (8, r6.1), (9, r7.1), (10, r8.1), (11, r9.1), (12, r10.1), (13, r11.1), (14, r12.1), (15, r13.1), (16, r14.1), (17, r15.1), (18, r16.1), (19, r17.1), (20, r18.1), (21, r19.1), (22, r20.1), (24, r26.1), (25, r27.1), (26, r28.1), (27, r29.1), (28, r30.1), (29, r31.1), (30, r32.1), (31, r33.1), (32, r34.1), (33, r35.1), (34, r36.1), (35, r37.1), (36, r38.1), (37, r40.1), (38, r41.1), (39, r42.1), (40, r43.1), (41, r44.1), (42, r45.1), (43, r47.1), (44, r48.1), (45, r49.1), (46, r50.1), (47, r51.1), (48, r52.1), (49, r53.1), (50, r54.1), (51, r55.1), (52, r56.1), (53, r57.1), (54, r58.1), (55, r59.1), (56, r60.1), (57, r61.1)]) r62.2) (
 FG (AJ (AL #[x0, x1, x2]) [(3, r1.1), (5, r2.1), (6, r3.1), (7, r5.1), (8, r6.1), (9, r7.1), (10, r8.1), (11, r9.1), (12, r10.1), (13, r11.1), (14, r12.1), (15, r13.1), (16, r14.1), (17, r15.1), (18, r16.1), (19, r17.1), (20, r18.1), (21, r19.1), (22, r20.1), (24, r26.1), (25, r27.1), (26, r28.1), (27, r29.1), (28, r30.1), (29, r31.1), (30, r32.1), (31, r33.1), (32, r34.1), (33, r35.1), (34, r36.1), (35, r37.1), (36, r38.1), (37, r40.1), (38, r41.1), (39, r42.1), (40, r43.1), (41, r44.1), (42, r45.1)]) r45.2)) := by kernel_rfl
noncomputable def Cu (e : Env) (w : World) : Option (Value × World) := Bu P (EV P) 139 19 (.loop (cA (cA (cB (cA (cB (Ai P 139))))))) e w (Ao 0 (AD P (EV P) 139 19 (cB (cB (Ai P 139))) (Be P (AA P 139))))
theorem En (e : Env) (w : World) : Cu e w =
 (vl (e 5) w).bind fun r1 =>
 (vl (e 0) r1.2).bind fun r2 =>
 (Au P #[42] 3 #[r2.1] r2.2).bind fun r3 =>
 (bo P .lss 3 (.tmp 6) (.tmp 8) r1.1 r3.1 r3.2).bind fun r4 =>
 AP r4.1 (
 (vl (e 0) (dw r4.2)).bind fun r6 =>
 Aj (r6.2 = (dw r4.2)) <|
 (vl (e 5) (dw r4.2)).bind fun r7 =>
 Aj (r7.2 = (dw r4.2)) <|
 (ia P 42 r6.1 r7.1 (dw r4.2)).bind fun r8 =>
 Aj (r8.2 = (dw r4.2)) <|
 (fa P 49 r8.1 1 (dw r4.2)).bind fun r9 =>
 Aj (r9.2 = (dw r4.2)) <|
 (ld P 36 r9.1 (dw r4.2)).bind fun r10 =>
 Aj (r10.2 = (dw r4.2)) <|
 (ld P 36 (e 3) (dw r4.2)).bind fun r11 =>
 Aj (r11.2 = (dw r4.2)) <|
 (bo P .eql 36 (.tmp 16) (.tmp 17) r10.1 r11.1 (dw r4.2)).bind fun r12 =>
 Aj (r12.2 = (dw r4.2)) <|
 AP r12.1 (
 (vl (.bool true) (dw r4.2)).bind fun r13 =>
 some (r13.1, r13.2)) (
 (vl (e 5) (dw r4.2)).bind fun r14 =>
 (bo P .add 3 (.tmp 10) (.const (.int .i64 1)) r14.1 (.int .i64 1) r14.2).bind fun r15 =>
 (vl r15.1 r15.2).bind fun r16 =>
 Cu (AJ e [(6, r1.1), (7, r2.1), (8, r3.1), (9, r4.1), (12, r6.1), (13, r7.1), (14, r8.1), (15, r9.1), (16, r10.1), (17, r11.1), (18, r12.1), (10, r14.1), (11, r15.1), (5, r16.1)]) r16.2)) (
 (vl (.bool false) r4.2).bind fun r17 =>
 some (r17.1, r17.2)) := (Ay P (EV P) 139 19 (cA (cA (cB (cA (cB (Ai P 139)))))) e w (Ao 0 (AD P (EV P) 139 19 (cB (cB (Ai P 139))) (Be P (AA P 139))))).trans (by kernel_rfl)
theorem Jv (x0 x1 : Value) (w : World) : Bl P (EV P) 139 #[x0, x1] w =
 (bx P 36 x1 w).bind fun r1 =>
 (vl (.bool false) r1.2).bind fun r2 =>
 (vl (.int .i64 0) r2.2).bind fun r3 =>
 Cu (AJ (AL #[x0, x1]) [(3, r1.1), (4, r2.1), (5, r3.1)]) r3.2 := by kernel_rfl
noncomputable def Di (e : Env) (w : World) : Option (Value × World) := Bu P (EV P) 140 68 (.loop (cA (cA (cB (cA (cB (cB (Ai P 140)))))))) e w (Ao 0 (AD P (EV P) 140 68 (cB (cB (cB (Ai P 140)))) (Be P (AA P 140))))
noncomputable def Cm (e : Env) (w : World) : Option (Value × World) := Bu P (EV P) 140 68 (cB (cB (cA (cA (cB (cA (cB (cB (Ai P 140))))))))) e w (F6 P (EV P) 140 68 (cA (cA (cB (cA (cB (cB (Ai P 140))))))) (Ao 0 (AD P (EV P) 140 68 (cB (cB (cB (Ai P 140)))) (Be P (AA P 140)))))
noncomputable def Dj (e : Env) (w : World) : Option (Value × World) := Bu P (EV P) 140 68 (.loop (cA (cA (cA (cB (cB (cA (cA (cB (cA (cA (cB (cA (cB (cB (Ai P 140)))))))))))))))) e w (Ao 2 (AD P (EV P) 140 68 (cB (cB (cB (cA (cA (cB (cA (cA (cB (cA (cB (cB (Ai P 140))))))))))))) (Ao 1 (AD P (EV P) 140 68 (cB (cB (cA (cA (cB (cA (cB (cB (Ai P 140))))))))) (F6 P (EV P) 140 68 (cA (cA (cB (cA (cB (cB (Ai P 140))))))) (Ao 0 (AD P (EV P) 140 68 (cB (cB (cB (Ai P 140)))) (Be P (AA P 140)))))))))
theorem E7 (e : Env) (w : World) : Di e w =
 (vl (e 6) w).bind fun r1 =>
 (bo P .lss 3 (.tmp 10) (.const (.int .i64 4)) r1.1 (.int .i64 4) r1.2).bind fun r2 =>
 AP r2.1 (
 (fa P 44 (e 3) 0 (dw r2.2)).bind fun r4 =>
 Aj (r4.2 = (dw r2.2)) <|
 (ld P 42 r4.1 (dw r2.2)).bind fun r5 =>
 Aj (r5.2 = (dw r2.2)) <|
 (vl (e 6) (dw r2.2)).bind fun r6 =>
 Aj (r6.2 = (dw r2.2)) <|
 (ia P 42 r5.1 r6.1 (dw r2.2)).bind fun r7 =>
 Aj (r7.2 = (dw r2.2)) <|
 (fa P 49 r7.1 1 (dw r2.2)).bind fun r8 =>
 Aj (r8.2 = (dw r2.2)) <|
 (ld P 36 r8.1 (dw r2.2)).bind fun r9 =>
 Aj (r9.2 = (dw r2.2)) <|
 (fa P 44 (e 2) 0 (dw r2.2)).bind fun r10 =>
 Aj (r10.2 = (dw r2.2)) <|
 (ld P 42 r10.1 (dw r2.2)).bind fun r11 =>
 Aj (r11.2 = (dw r2.2)) <|
 (vl (e 6) (dw r2.2)).bind fun r12 =>
 Aj (r12.2 = (dw r2.2)) <|
 (ia P 42 r11.1 r12.1 (dw r2.2)).bind fun r13 =>
 Aj (r13.2 = (dw r2.2)) <|
 (fa P 49 r13.1 1 (dw r2.2)).bind fun r14 =>
 Aj (r14.2 = (dw r2.2)) <|
 (ld P 36 r14.1 (dw r2.2)).bind fun r15 =>
 Aj (r15.2 = (dw r2.2)) <|
 (EV P 63 #[r9.1, r15.1] (dw r2.2)).bind fun r16 =>
 Aj (True ∧ True ∧ True ∧ True ∧ True ∧ True ∧ True ∧ True ∧ True ∧ True ∧ True) <|
 (uo P .not r16.1 r16.2).bind fun r17 =>
 Aj (r17.2 = r16.2) <|
 AP r17.1 (
 Cm (AJ e [(10, r1.1), (11, r2.1), (14, r4.1), (15, r5.1), (16, r6.1), (17, r7.1), (18, r8.1), (19, r9.1), (20, r10.1), (21, r11.1), (22, r12.1), (23, r13.1), (24, r14.1), (25, r15.1), (26, r16.1), (27, r17.1)]) r16.2) (
 (vl (.int .i64 0) r16.2).bind fun r18 =>
 Dj (AJ e [(10, r1.1), (11, r2.1), (14, r4.1), (15, r5.1), (16, r6.1), (17, r7.1), (18, r8.1), (19, r9.1), (20, r10.1), (21, r11.1), (22, r12.1), (23, r13.1), (24, r14.1), (25, r15.1), (26, r16.1), (27, r17.1), (7, r18.1)]) r18.2)) (
 (vl (e 5) r2.2).bind fun r19 =>
 (vl r19.1 r19.2).bind fun r20 =>
 some (r20.1, r20.2)) := (Ay P (EV P) 140 68 (cA (cA (cB (cA (cB (cB (Ai P 140))))))) e w (Ao 0 (AD P (EV P) 140 68 (cB (cB (cB (Ai P 140)))) (Be P (AA P 140))))).trans (by kernel_rfl)
theorem IK (e : Env) (w : World) : Cm e w =
 (vl (e 6) w).bind fun r1 =>
 (bo P .add 3 (.tmp 12) (.const (.int .i64 1)) r1.1 (.int .i64 1) r1.2).bind fun r2 =>
 (vl r2.1 r2.2).bind fun r3 =>
 Di (AJ e [(12, r1.1), (13, r2.1), (6, r3.1)]) r3.2 := by kernel_rfl
theorem E8 (e : Env) (w : World) : Dj e w =
 (vl (e 7) (dw w)).bind fun r2 =>
 Aj (r2.2 = (dw w)) <|
 (vl (e 5) (dw w)).bind fun r3 =>
 Aj (r3.2 = (dw w)) <|
 (Au P #[42] 3 #[r3.1] (dw w)).bind fun r4 =>
 Aj (r4.2 = (dw w)) <|
 (bo P .lss 3 (.tmp 28) (.tmp 30) r2.1 r4.1 (dw w)).bind fun r5 =>
 Aj (r5.2 = (dw w)) <|
 (vl r5.1 (dw w)).bind fun r6 =>
 Aj (r6.2 = (dw w)) <|
 (An r6.1 true (vl (e 5) (dw w)) (dw w)).bind fun r7 =>
 Aj (r7.2 = (dw w)) <|
 (An r6.1 true (vl (e 7) (dw w)) (dw w)).bind fun r8 =>
 Aj (r8.2 = (dw w)) <|
 (An r6.1 true (ia P 42 r7.1 r8.1 (dw w)) (dw w)).bind fun r9 =>
 Aj (r9.2 = (dw w)) <|
 (An r6.1 true (fa P 49 r9.1 1 (dw w)) (dw w)).bind fun r10 =>
 Aj (r10.2 = (dw w)) <|
 (An r6.1 true (ld P 36 r10.1 (dw w)) (dw w)).bind fun r11 =>
 Aj (r11.2 = (dw w)) <|
 (An r6.1 true (fa P 44 (e 2) 0 (dw w)) (dw w)).bind fun r12 =>
 Aj (r12.2 = (dw w)) <|
 (An r6.1 true (ld P 42 r12.1 (dw w)) (dw w)).bind fun r13 =>
 Aj (r13.2 = (dw w)) <|
 (An r6.1 true (vl (e 6) (dw w)) (dw w)).bind fun r14 =>
 Aj (r14.2 = (dw w)) <|
 (An r6.1 true (ia P 42 r13.1 r14.1 (dw w)) (dw w)).bind fun r15 =>
 Aj (r15.2 = (dw w)) <|
 (An r6.1 true (fa P 49 r15.1 1 (dw w)) (dw w)).bind fun r16 =>
 Aj (r16.2 = (dw w)) <|
 (An r6.1 true (ld P 36 r16.1 (dw w)) (dw w)).bind fun r17 =>
 Aj (r17.2 = (dw w)) <|
 (An r6.1 true (EV P 63 #[r11.1, r17.1] (dw w)) (dw w)).bind fun r18 =>
 Aj (True ∧ True ∧ True ∧ True ∧ True ∧ True ∧ True ∧ True ∧ True ∧ True ∧ True) <|
 (Av r6.1 r18.1 (.bool false) r18.2).bind fun r19 =>
 Aj (r19.2 = r18.2) <|
 AP r19.1 (
 (vl (e 7) r18.2).bind fun r20 =>
 (bo P .add 3 (.tmp 46) (.const (.int .i64 1)) r20.1 (.int .i64 1) r20.2).bind fun r21 =>
 (vl r21.1 r21.2).bind fun r22 =>
 Dj (AJ e [(28, r2.1), (29, r3.1), (30, r4.1), (31, r5.1), (32, r6.1), (33, r7.1), (34, r8.1), (35, r9.1), (36, r10.1), (37, r11.1), (38, r12.1), (39, r13.1), (40, r14.1), (41, r15.1), (42, r16.1), (43, r17.1), (44, r18.1), (45, r19.1), (46, r20.1), (47, r21.1), (7, r22.1)]) r22.2) (
 (bs P 42 0 #[] r18.2).bind fun r23 =>
 (vl (e 5) r23.2).bind fun r24 =>
 (vl (e 7) r24.2).bind fun r25 =>
 (sl P 42 r24.1 none (some r25.1) none r25.2).bind fun r26 =>
 (Ar P #[42, 42] 42 #[r23.1, r26.1] r26.2).bind fun r27 =>
 (vl r27.1 r27.2).bind fun r28 =>
 (vl r28.1 r28.2).bind fun r29 =>
 (fa P 44 (e 2) 0 r29.2).bind fun r30 =>
 (ld P 42 r30.1 r30.2).bind fun r31 =>
 (vl (e 6) r31.2).bind fun r32 =>
 (ia P 42 r31.1 r32.1 r32.2).bind fun r33 =>
 (ld P 49 r33.1 r33.2).bind fun r34 =>
 (EV P 98 #[r34.1] r34.2).bind fun r35 =>
 (bs P 42 1 #[(0, r35.1)] r35.2).bind fun r36 =>
 (Ar P #[42, 42] 42 #[r29.1, r36.1] r36.2).bind fun r37 =>
 (vl r37.1 r37.2).bind fun r38 =>
 (vl r38.1 r38.2).bind fun r39 =>
 (vl (e 5) r39.2).bind fun r40 =>
 (vl (e 7) r40.2).bind fun r41 =>
 (sl P 42 r40.1 (some r41.1) none none r41.2).bind fun r42 =>
 (Ar P #[42, 42] 42 #[r39.1, r42.1] r42.2).bind fun r43 =>
 (vl r43.1 r43.2).bind fun r44 =>
 Cm (AJ e [(28, r2.1), (29, r3.1), (30, r4.1), (31, r5.1), (32, r6.1), (33, r7.1), (34, r8.1), (35, r9.1), (36, r10.1), (37, r11.1), (38, r12.1), (39, r13.1), (40, r14.1), (41, r15.1), (42, r16.1), (43, r17.1), (44, r18.1), (45, r19.1), (48, r23.1), (49, r24.1), (50, r25.1), (51, r26.1), (52, r27.1), (8, r28.1), (53, r29.1), (54, r30.1), (55, r31.1), (56, r32.1), (57, r33.1), (58, r34.1), (59, r35.1), (60, r36.1), (61, r37.1), (8, r38.1), (62, r39.1), (63, r40.1), (64, r41.1), (65, r42.1), (66, r43.1), (5, r44.1)]) r44.2) := (Ay P (EV P) 140 68 (cA (cA (cA (cB (cB (cA (cA (cB (cA (cA (cB (cA (cB (cB (Ai P 140))))))))))))))) e w (Ao 2 (AD P (EV P) 140 68 (cB (cB (cB (cA (cA (cB (cA (cA (cB (cA (cB (cB (Ai P 140))))))))))))) (Ao 1 (AD P (EV P) 140 68 (cB (cB (cA (cA (cB (cA (cB (cB (Ai P 140))))))))) (F6 P (EV P) 140 68 (cA (cA (cB (cA (cB (cB (Ai P 140))))))) (Ao 0 (AD P (EV P) 140 68 (cB (cB (cB (Ai P 140)))) (Be P (AA P 140)))))))))).trans (by kernel_rfl)
theorem KT (x0 x1 : Value) (w : World) : Bl P (EV P) 140 #[x0, x1] w =
 (bx P 44 x0 w).bind fun r1 =>
 (bx P 44 x1 r1.2).bind fun r2 =>
 (vl (Go.Value.slice none 0 0) r2.2).bind fun r3 =>
 (bs P 42 0 #[] r3.2).bind fun r4 =>
 (vl r4.1 r4.2).bind fun r5 =>
 (vl (.int .i64 0) r5.2).bind fun r6 =>
 Di (AJ (AL #[x0, x1]) [(2, r1.1), (3, r2.1), (4, r3.1), (9, r4.1), (5, r5.1), (6, r6.1)]) r6.2 := by kernel_rfl
noncomputable def CS (e : Env) (w : World) : Option (Value × World) := Bu P (EV P) 141 43 (.loop (cA (cA (cB (cA (cB (cB (Ai P 141)))))))) e w (Ao 0 (AD P (EV P) 141 43 (cB (cB (cB (Ai P 141)))) (Be P (AA P 141))))
theorem EB (e : Env) (w : World) : CS e w =
 (vl (e 6) w).bind fun r1 =>
 (fa P 84 (e 2) 4 r1.2).bind fun r2 =>
 (ld P 82 r2.1 r2.2).bind fun r3 =>
 (vl (e 1) r3.2).bind fun r4 =>
 (ia P 82 r3.1 r4.1 r4.2).bind fun r5 =>
 (ld P 42 r5.1 r5.2).bind fun r6 =>
 (Au P #[42] 3 #[r6.1] r6.2).bind fun r7 =>
 (bo P .lss 3 (.tmp 14) (.tmp 20) r1.1 r7.1 r7.2).bind fun r8 =>
 AP r8.1 (
 (fa P 84 (e 2) 4 r8.2).bind fun r9 =>
 (ld P 82 r9.1 r9.2).bind fun r10 =>
 (vl (e 1) r10.2).bind fun r11 =>
 (ia P 82 r10.1 r11.1 r11.2).bind fun r12 =>
 (ld P 42 r12.1 r12.2).bind fun r13 =>
 (vl (e 6) r13.2).bind fun r14 =>
 (ia P 42 r13.1 r14.1 r14.2).bind fun r15 =>
 (ld P 49 r15.1 r15.2).bind fun r16 =>
 (al P 49 r16.2).bind fun r17 =>
 (st P 49 r17.1 r16.1 r17.2).bind fun r18 =>
 (fa P 44 (e 5) 0 (dw r18.2)).bind fun r20 =>
 Aj (r20.2 = (dw r18.2)) <|
 (ld P 42 r20.1 (dw r18.2)).bind fun r21 =>
 Aj (r21.2 = (dw r18.2)) <|
 (fa P 49 r17.1 0 (dw r18.2)).bind fun r22 =>
 Aj (r22.2 = (dw r18.2)) <|
 (ld P 3 r22.1 (dw r18.2)).bind fun r23 =>
 Aj (r23.2 = (dw r18.2)) <|
 (ia P 42 r21.1 r23.1 (dw r18.2)).bind fun r24 =>
 Aj (r24.2 = (dw r18.2)) <|
 (fa P 49 r24.1 1 (dw r18.2)).bind fun r25 =>
 Aj (r25.2 = (dw r18.2)) <|
 (ld P 36 r25.1 (dw r18.2)).bind fun r26 =>
 Aj (r26.2 = (dw r18.2)) <|
 (fa P 49 r17.1 1 (dw r18.2)).bind fun r27 =>
 Aj (r27.2 = (dw r18.2)) <|
 (ld P 36 r27.1 (dw r18.2)).bind fun r28 =>
 Aj (r28.2 = (dw r18.2)) <|
 (EV P 63 #[r26.1, r28.1] (dw r18.2)).bind fun r29 =>
 Aj (True ∧ True ∧ True ∧ True ∧ True ∧ True ∧ True ∧ True ∧ True ∧ True) <|
 AP r29.1 (
 (vl (e 6) r29.2).bind fun r30 =>
 (vl r30.1 r30.2).bind fun r31 =>
 some (r31.1, r31.2)) (
 (vl (e 6) r29.2).bind fun r32 =>
 (bo P .add 3 (.tmp 22) (.const (.int .i64 1)) r32.1 (.int .i64 1) r32.2).bind fun r33 =>
 (vl r33.1 r33.2).bind fun r34 =>
 CS (AJ e [(14, r1.1), (15, r2.1), (16, r3.1), (17, r4.1), (18, r5.1), (19, r6.1), (20, r7.1), (21, r8.1), (24, r9.1), (25, r10.1), (26, r11.1), (27, r12.1), (28, r13.1), (29, r14.1), (30, r15.1), (31, r16.1), (7, r17.1), (32, r20.1), (33, r21.1), (34, r22.1), (35, r23.1), (36, r24.1), (37, r25.1), (38, r26.1), (39, r27.1), (40, r28.1), (41, r29.1), (22, r32.1), (23, r33.1), (6, r34.1)]) r34.2)) (
 (vl (.int .i64 (-1)) r8.2).bind fun r35 =>
 some (r35.1, r35.2)) := (Ay P (EV P) 141 43 (cA (cA (cB (cA (cB (cB (Ai P 141))))))) e w (Ao 0 (AD P (EV P) 141 43 (cB (cB (cB (Ai P 141)))) (Be P (AA P 141))))).trans (by kernel_rfl)
theorem Kj (x0 x1 : Value) (w : World) : Bl P (EV P) 141 #[x0, x1] w =
 (bx P 84 x0 w).bind fun r1 =>
 (vl (.int .i64 0) r1.2).bind fun r2 =>
 (fa P 84 r1.1 2 r2.2).bind fun r3 =>
 (fa P 81 r3.1 0 r3.2).bind fun r4 =>
 (ld P 79 r4.1 r4.2).bind fun r5 =>
 (ia P 79 r5.1 (.int .i64 0) r5.2).bind fun r6 =>
 (fa P 86 r6.1 0 r6.2).bind fun r7 =>
 (ld P 44 r7.1 r7.2).bind fun r8 =>
 (al P 44 r8.2).bind fun r9 =>
 (st P 44 r9.1 r8.1 r9.2).bind fun r10 =>
 (vl (.int .i64 0) r10.2).bind fun r11 =>
 CS (AJ (AL #[x0, x1]) [(2, r1.1), (4, r2.1), (8, r3.1), (9, r4.1), (10, r5.1), (11, r6.1), (12, r7.1), (13, r8.1), (5, r9.1), (6, r11.1)]) r11.2 := by kernel_rfl
theorem KU (x0 : Value) (w : World) : Bl P (EV P) 142 #[x0] w =
 (bx P 81 x0 w).bind fun r1 =>
 (vl (.bool false) r1.2).bind fun r2 =>
 (fa P 81 r1.1 0 r2.2).bind fun r3 =>
 (ld P 79 r3.1 r3.2).bind fun r4 =>
 (ia P 79 r4.1 (.int .i64 0) r4.2).bind fun r5 =>
 (fa P 86 r5.1 1 r5.2).bind fun r6 =>
 (ld P 42 r6.1 r6.2).bind fun r7 =>
 (Au P #[42] 3 #[r7.1] r7.2).bind fun r8 =>
 (bo P .lss 3 (.tmp 8) (.const (.int .i64 6)) r8.1 (.int .i64 6) r8.2).bind fun r9 =>
 (vl r9.1 r9.2).bind fun r10 =>
 some (r10.1, r10.2) := by kernel_rfl
theorem Jw (x0 : Value) (w : World) : Bl P (EV P) 143 #[x0] w =
 (bx P 81 x0 w).bind fun r1 =>
 (al P 32 r1.2).bind fun r2 =>
 (fa P 81 r1.1 0 r2.2).bind fun r3 =>
 (ld P 79 r3.1 r3.2).bind fun r4 =>
 (fa P 81 r1.1 0 r4.2).bind fun r5 =>
 (ld P 79 r5.1 r5.2).bind fun r6 =>
 (Au P #[79] 3 #[r6.1] r6.2).bind fun r7 =>
 (bo P .sub 3 (.tmp 7) (.const (.int .i64 1)) r7.1 (.int .i64 1) r7.2).bind fun r8 =>
 (ia P 79 r4.1 r8.1 r8.2).bind fun r9 =>
 (fa P 86 r9.1 0 r9.2).bind fun r10 =>
 (ld P 44 r10.1 r10.2).bind fun r11 =>
 (EV P 83 #[r11.1] r11.2).bind fun r12 =>
 (st P 32 r2.1 r12.1 r12.2).bind fun r13 =>
 ((ld P 32 r2.1 r13.2).bind fun r14 => Aj (r14.2 = r13.2) (some r14.1)).bind fun v15 =>
 some (v15, r13.2) := by kernel_rfl
noncomputable def Dk (e : Env) (w : World) : Option (Value × World) := Bu P (EV P) 144 29 (.loop (cA (cA (cB (cA (cB (cB (Ai P 144)))))))) e w (Ao 0 (AD P (EV P) 144 29 (cB (cB (cB (Ai P 144)))) (Be P (AA P 144))))
noncomputable def EC (e : Env) (w : World) : Option (Value × World) := Bu P (EV P) 144 29 (cB (cB (cA (cA (cB (cA (cB (cB (Ai P 144))))))))) e w (F6 P (EV P) 144 29 (cA (cA (cB (cA (cB (cB (Ai P 144))))))) (Ao 0 (AD P (EV P) 144 29 (cB (cB (cB (Ai P 144)))) (Be P (AA P 144)))))
theorem Fa (e : Env) (w : World) : Dk e w =
 (vl (e 6) w).bind fun r1 =>
 (bo P .lss 3 (.tmp 9) (.const (.int .i64 4)) r1.1 (.int .i64 4) r1.2).bind fun r2 =>
 AP r2.1 (
 (fa P 32 (e 3) 0 r2.2).bind fun r3 =>
 (ld P 30 r3.1 r3.2).bind fun r4 =>
 (vl (e 6) r4.2).bind fun r5 =>
 (ia P 30 r4.1 r5.1 r5.2).bind fun r6 =>
 (fa P 36 r6.1 0 r6.2).bind fun r7 =>
 (ld P 3 r7.1 r7.2).bind fun r8 =>
 (vl (e 5) r8.2).bind fun r9 =>
 (bo P .gtr 3 (.tmp 18) (.tmp 19) r8.1 r9.1 r9.2).bind fun r10 =>
 AP r10.1 (
 (fa P 32 (e 3) 0 r10.2).bind fun r11 =>
 (ld P 30 r11.1 r11.2).bind fun r12 =>
 (vl (e 6) r12.2).bind fun r13 =>
 (ia P 30 r12.1 r13.1 r13.2).bind fun r14 =>
 (fa P 36 r14.1 0 r14.2).bind fun r15 =>
 (ld P 3 r15.1 r15.2).bind fun r16 =>
 (vl r16.1 r16.2).bind fun r17 =>
 EC (AJ e [(9, r1.1), (10, r2.1), (13, r3.1), (14, r4.1), (15, r5.1), (16, r6.1), (17, r7.1), (18, r8.1), (19, r9.1), (20, r10.1), (21, r11.1), (22, r12.1), (23, r13.1), (24, r14.1), (25, r15.1), (26, r16.1), (5, r17.1)]) r17.2) (
 EC (AJ e [(9, r1.1), (10, r2.1), (13, r3.1), (14, r4.1), (15, r5.1), (16, r6.1), (17, r7.1), (18, r8.1), (19, r9.1), (20, r10.1)]) r10.2)) (
 (vl (e 5) r2.2).bind fun r18 =>
 (bo P .add 3 (.tmp 27) (.const (.int .i64 1)) r18.1 (.int .i64 1) r18.2).bind fun r19 =>
 (vl r19.1 r19.2).bind fun r20 =>
 some (r20.1, r20.2)) := (Ay P (EV P) 144 29 (cA (cA (cB (cA (cB (cB (Ai P 144))))))) e w (Ao 0 (AD P (EV P) 144 29 (cB (cB (cB (Ai P 144)))) (Be P (AA P 144))))).trans (by kernel_rfl)
theorem Fb (e : Env) (w : World) : EC e w =
 (vl (e 6) w).bind fun r1 =>
 (bo P .add 3 (.tmp 11) (.const (.int .i64 1)) r1.1 (.int .i64 1) r1.2).bind fun r2 =>
 (vl r2.1 r2.2).bind fun r3 =>
 Dk (AJ e [(11, r1.1), (12, r2.1), (6, r3.1)]) r3.2 := by kernel_rfl
theorem KV (x0 x1 : Value) (w : World) : Bl P (EV P) 144 #[x0, x1] w =
 (bx P 84 x0 w).bind fun r1 =>
 (bx P 32 x1 r1.2).bind fun r2 =>
 (vl (.int .i64 0) r2.2).bind fun r3 =>
 (fa P 84 r1.1 1 r3.2).bind fun r4 =>
 (ld P 3 r4.1 r4.2).bind fun r5 =>
 (vl r5.1 r5.2).bind fun r6 =>
 (vl (.int .i64 0) r6.2).bind fun r7 =>
 Dk (AJ (AL #[x0, x1]) [(2, r1.1), (3, r2.1), (4, r3.1), (7, r4.1), (8, r5.1), (5, r6.1), (6, r7.1)]) r7.2 := by kernel_rfl
end Go.Proofs.YtjhhommnkaemlaaGreat.X
