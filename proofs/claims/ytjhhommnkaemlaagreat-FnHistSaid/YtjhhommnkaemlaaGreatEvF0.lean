/- A part of the proof: an evaluator of the model, its laws, and contracts of functions; no condition. -/
import Derived.Test.YtjhhommnkaemlaaGreatEvT
set_option linter.unusedVariables false
set_option linter.unusedSimpArgs false
set_option linter.deprecated false
set_option maxRecDepth 100000
namespace Go.Proofs.YtjhhommnkaemlaaGreat.X
open Go Go.Ev
theorem Lr (x0 : Value) (w : World) : Bl P (EV P) 3 #[x0] w =
 (vl (.bool false) w).bind fun r1 =>
 (vl x0 r1.2).bind fun r2 =>
 (Ax P #[22] 3 #[r2.1] r2.2).bind fun r3 =>
 (bo P .gtr 3 (.tmp 6) (.const (.int .i64 1048576)) r3.1 (.int .i64 1048576) r3.2).bind fun r4 =>
 AR r4.1 (
 (vl (.bool true) r4.2).bind fun r5 =>
 some (r5.1, r5.2)) (
 (vl x0 r4.2).bind fun r6 =>
 (EV P 8 #[r6.1] r6.2).bind fun r7 =>
 (vl r7.1 r7.2).bind fun r8 =>
 (vl r8.1 r8.2).bind fun r9 =>
 (EV P 9 #[r9.1] r9.2).bind fun r10 =>
 (vl r10.1 r10.2).bind fun r11 =>
 (vl r11.1 r11.2).bind fun r12 =>
 (vl r8.1 r12.2).bind fun r13 =>
 (EV P 10 #[r13.1] r13.2).bind fun r14 =>
 (bo P .neq 3 (.tmp 12) (.tmp 14) r12.1 r14.1 r14.2).bind fun r15 =>
 (vl r15.1 r15.2).bind fun r16 =>
 (Ao r16.1 false (vl r8.1 r16.2) r16.2).bind fun r17 =>
 (Ao r16.1 false (EV P 11 #[r17.1] r17.2) r17.2).bind fun r18 =>
 (Ao r16.1 false (vl r8.1 r18.2) r18.2).bind fun r19 =>
 (Ao r16.1 false (EV P 12 #[r19.1] r19.2) r19.2).bind fun r20 =>
 (Ao r16.1 false (bo P .neq 4 (.tmp 18) (.tmp 20) r18.1 r20.1 r20.2) r20.2).bind fun r21 =>
 (Ay r16.1 (.bool true) r21.1 r21.2).bind fun r22 =>
 AR r22.1 (
 (vl (.bool false) r22.2).bind fun r23 =>
 some (r23.1, r23.2)) (
 (vl r11.1 r22.2).bind fun r24 =>
 (bo P .lss 3 (.tmp 23) (.const (.int .i64 0)) r24.1 (.int .i64 0) r24.2).bind fun r25 =>
 AR r25.1 (
 (vl r8.1 r25.2).bind fun r26 =>
 (EV P 11 #[r26.1] r26.2).bind fun r27 =>
 (uo P .not r27.1 r27.2).bind fun r28 =>
 (vl r28.1 r28.2).bind fun r29 =>
 some (r29.1, r29.2)) (
 (vl r8.1 r25.2).bind fun r30 =>
 (EV P 11 #[r30.1] r30.2).bind fun r31 =>
 (vl r11.1 r31.2).bind fun r32 =>
 (vl r8.1 r32.2).bind fun r33 =>
 (Ax P #[23] 3 #[r33.1] r33.2).bind fun r34 =>
 (bo P .eql 3 (.tmp 30) (.tmp 32) r32.1 r34.1 r34.2).bind fun r35 =>
 (bo P .eql 4 (.tmp 29) (.tmp 33) r31.1 r35.1 r35.2).bind fun r36 =>
 (vl r36.1 r36.2).bind fun r37 =>
 (Ao r37.1 true (vl r8.1 r37.2) r37.2).bind fun r38 =>
 (Ao r37.1 true (vl r11.1 r38.2) r38.2).bind fun r39 =>
 (Ao r37.1 true (sl P 23 r38.1 none (some r39.1) none r39.2) r39.2).bind fun r40 =>
 (Ao r37.1 true (EV P 11 #[r40.1] r40.2) r40.2).bind fun r41 =>
 (Ay r37.1 r41.1 (.bool false) r41.2).bind fun r42 =>
 (vl r42.1 r42.2).bind fun r43 =>
 (Ao r43.1 true (vl r11.1 r43.2) r43.2).bind fun r44 =>
 (Ao r43.1 true (vl r8.1 r44.2) r44.2).bind fun r45 =>
 (Ao r43.1 true (Ax P #[23] 3 #[r45.1] r45.2) r45.2).bind fun r46 =>
 (Ao r43.1 true (bo P .eql 3 (.tmp 42) (.tmp 44) r44.1 r46.1 r46.2) r46.2).bind fun r47 =>
 (Ao r43.1 true (vl r47.1 r47.2) r47.2).bind fun r48 =>
 (Ao r48.1 false (vl r8.1 r48.2) r48.2).bind fun r49 =>
 (Ao r48.1 false (vl r11.1 r49.2) r49.2).bind fun r50 =>
 (Ao r48.1 false (bo P .add 3 (.tmp 48) (.const (.int .i64 1)) r50.1 (.int .i64 1) r50.2) r50.2).bind fun r51 =>
 (Ao r48.1 false (sl P 23 r49.1 none (some r51.1) none r51.2) r51.2).bind fun r52 =>
 (Ao r48.1 false (EV P 11 #[r52.1] r52.2) r52.2).bind fun r53 =>
 (Ao r48.1 false (uo P .not r53.1 r53.2) r53.2).bind fun r54 =>
 (Ao r43.1 true (Ay r48.1 (.bool true) r54.1 r54.2) r54.2).bind fun r55 =>
 (Ay r43.1 r55.1 (.bool false) r55.2).bind fun r56 =>
 (vl r56.1 r56.2).bind fun r57 =>
 some (r57.1, r57.2)))) := by kernel_rfl
theorem He (x0 : Value) (w : World) : Bl P (EV P) 8 #[x0] w =
 (vl (Go.Value.slice none 0 0) w).bind fun r1 =>
 (vl x0 r1.2).bind fun r2 =>
 (EV P 27 #[r2.1] r2.2).bind fun r3 =>
 (EV P 26 #[r3.1] r3.2).bind fun r4 =>
 (vl r4.1 r4.2).bind fun r5 =>
 some (r5.1, r5.2) := by kernel_rfl
theorem JU (x0 : Value) (w : World) : Bl P (EV P) 9 #[x0] w =
 (vl (.int .i64 0) w).bind fun r1 =>
 (vl x0 r1.2).bind fun r2 =>
 (EV P 28 #[r2.1] r2.2).bind fun r3 =>
 (uo P .not r3.1 r3.2).bind fun r4 =>
 AR r4.1 (
 (vl (.int .i64 (-1)) r4.2).bind fun r5 =>
 some (r5.1, r5.2)) (
 (vl x0 r4.2).bind fun r6 =>
 (EV P 29 #[r6.1] r6.2).bind fun r7 =>
 (vl r7.1 r7.2).bind fun r8 =>
 (xt P r8.1 0 r8.2).bind fun r9 =>
 (xt P r8.1 1 r9.2).bind fun r10 =>
 (vl r9.1 r10.2).bind fun r11 =>
 (vl r10.1 r11.2).bind fun r12 =>
 (vl r12.1 r12.2).bind fun r13 =>
 (vl r13.1 r13.2).bind fun r14 =>
 some (r14.1, r14.2)) := by kernel_rfl
theorem JV (x0 : Value) (w : World) : Bl P (EV P) 10 #[x0] w =
 (vl (.int .i64 0) w).bind fun r1 =>
 (vl x0 r1.2).bind fun r2 =>
 (EV P 30 #[r2.1] r2.2).bind fun r3 =>
 (uo P .not r3.1 r3.2).bind fun r4 =>
 AR r4.1 (
 (vl (.int .i64 (-1)) r4.2).bind fun r5 =>
 some (r5.1, r5.2)) (
 (vl x0 r4.2).bind fun r6 =>
 (EV P 31 #[r6.1] r6.2).bind fun r7 =>
 (vl r7.1 r7.2).bind fun r8 =>
 (xt P r8.1 0 r8.2).bind fun r9 =>
 (xt P r8.1 1 r9.2).bind fun r10 =>
 (vl r9.1 r10.2).bind fun r11 =>
 (vl r10.1 r11.2).bind fun r12 =>
 (vl r12.1 r12.2).bind fun r13 =>
 (vl r13.1 r13.2).bind fun r14 =>
 some (r14.1, r14.2)) := by kernel_rfl
theorem Ls (x0 : Value) (w : World) : Bl P (EV P) 11 #[x0] w =
 (vl (.bool false) w).bind fun r1 =>
 (vl x0 r1.2).bind fun r2 =>
 (EV P 32 #[r2.1] r2.2).bind fun r3 =>
 (vl r3.1 r3.2).bind fun r4 =>
 (xt P r4.1 0 r4.2).bind fun r5 =>
 (xt P r4.1 1 r5.2).bind fun r6 =>
 (vl r5.1 r6.2).bind fun r7 =>
 (vl r6.1 r7.2).bind fun r8 =>
 (vl r8.1 r8.2).bind fun r9 =>
 (vl r9.1 r9.2).bind fun r10 =>
 some (r10.1, r10.2) := by kernel_rfl
theorem Lt (x0 : Value) (w : World) : Bl P (EV P) 12 #[x0] w =
 (vl (.bool false) w).bind fun r1 =>
 (vl x0 r1.2).bind fun r2 =>
 (EV P 33 #[r2.1] r2.2).bind fun r3 =>
 (vl r3.1 r3.2).bind fun r4 =>
 some (r4.1, r4.2) := by kernel_rfl
theorem Jq (w : World) : Bl P (EV P) 17 #[] w =
 (al P 32 w).bind fun r1 =>
 (ms P 30 (.int .i64 4) (.int .i64 4) r1.2).bind fun r2 =>
 (bd P 32 #[(0, r2.1)] r2.2).bind fun r3 =>
 (st P 32 r1.1 r3.1 r3.2).bind fun r4 =>
 ((ld P 32 r1.1 r4.2).bind fun r5 => Ah (r5.2 = r4.2) (some r5.1)).bind fun v6 =>
 some (v6, r4.2) := by kernel_rfl
theorem JW (x0 x1 : Value) (w : World) : Bl P (EV P) 18 #[x0, x1] w =
 (bx P 36 x0 w).bind fun r1 =>
 (bx P 36 x1 r1.2).bind fun r2 =>
 (vl (.bool false) r2.2).bind fun r3 =>
 (ld P 36 r1.1 r3.2).bind fun r4 =>
 (ld P 36 r2.1 r4.2).bind fun r5 =>
 (EV P 39 #[r4.1, r5.1] r5.2).bind fun r6 =>
 (bo P .lss 3 (.tmp 7) (.const (.int .i64 0)) r6.1 (.int .i64 0) r6.2).bind fun r7 =>
 (vl r7.1 r7.2).bind fun r8 =>
 some (r8.1, r8.2) := by kernel_rfl
noncomputable def Ba (e : Env) (w : World) : Option (Value × World) := Bu P (EV P) 26 65 (cB (cB (cB (Ag P 26)))) e w (Be P (AB P 26))
theorem HU (e : Env) (w : World) : Ba e w =
 (vl (e 3) w).bind fun r1 =>
 (vl r1.1 r1.2).bind fun r2 =>
 some (r2.1, r2.2) := by kernel_rfl
theorem JX (x0 : Value) (w : World) : Bl P (EV P) 26 #[x0] w =
 (vl (Go.Value.slice none 0 0) w).bind fun r1 =>
 (bs P 23 0 #[] r1.2).bind fun r2 =>
 (vl x0 r2.2).bind fun r3 =>
 (EV P 43 #[r3.1] r3.2).bind fun r4 =>
 (fv P 77 r4.1 3 r4.2).bind fun r5 =>
 (Au P #[23, 23] 23 #[r2.1, r5.1] r5.2).bind fun r6 =>
 (vl r6.1 r6.2).bind fun r7 =>
 (vl r7.1 r7.2).bind fun r8 =>
 (Ax P #[23] 3 #[r8.1] r8.2).bind fun r9 =>
 (bo P .gtr 3 (.tmp 11) (.const (.int .i64 0)) r9.1 (.int .i64 0) r9.2).bind fun r10 =>
 (vl r10.1 r10.2).bind fun r11 =>
 (Ao r11.1 true (vl x0 r11.2) r11.2).bind fun r12 =>
 (Ao r11.1 true (EV P 42 #[r12.1, (.int .i64 3)] r12.2) r12.2).bind fun r13 =>
 (Ao r11.1 true (bo P .eql 3 (.tmp 15) (.const (.int .i64 0)) r13.1 (.int .i64 0) r13.2) r13.2).bind fun r14 =>
 (Ay r11.1 r14.1 (.bool false) r14.2).bind fun r15 =>
 AR r15.1 (
 (vl x0 r15.2).bind fun r16 =>
 (vl r7.1 r16.2).bind fun r17 =>
 (Ax P #[23] 3 #[r17.1] r17.2).bind fun r18 =>
 (EV P 42 #[r16.1, r18.1] r18.2).bind fun r19 =>
 (vl r19.1 r19.2).bind fun r20 =>
 (vl x0 r20.2).bind fun r21 =>
 (EV P 42 #[r21.1, (.int .i64 5)] r21.2).bind fun r22 =>
 (bo P .eql 3 (.tmp 23) (.const (.int .i64 0)) r22.1 (.int .i64 0) r22.2).bind fun r23 =>
 (vl r23.1 r23.2).bind fun r24 =>
 AR r24.1 (
 (vl r7.1 r24.2).bind fun r25 =>
 (vl r20.1 r25.2).bind fun r26 =>
 (vl x0 r26.2).bind fun r27 =>
 (EV P 53 #[r27.1] r27.2).bind fun r28 =>
 (ia P 23 r25.1 r26.1 r28.2).bind fun r29 =>
 (fa P 38 r29.1 3 r29.2).bind fun r30 =>
 (st P 36 r30.1 r28.1 r30.2).bind fun r31 =>
 Ba (AH (AM #[x0]) [(2, r1.1), (5, r2.1), (6, r3.1), (7, r4.1), (8, r5.1), (9, r6.1), (3, r7.1), (10, r8.1), (11, r9.1), (12, r10.1), (13, r11.1), (14, r12.1), (15, r13.1), (16, r14.1), (17, r15.1), (18, r16.1), (19, r17.1), (20, r18.1), (21, r19.1), (4, r20.1), (22, r21.1), (23, r22.1), (33, r23.1), (32, r24.1), (34, r25.1), (35, r26.1), (36, r27.1), (37, r28.1), (38, r29.1), (39, r30.1)]) r31.2) (
 (bo P .eql 3 (.tmp 23) (.const (.int .i64 1)) r22.1 (.int .i64 1) r24.2).bind fun r32 =>
 (vl r32.1 r32.2).bind fun r33 =>
 AR r33.1 (
 (vl r7.1 r33.2).bind fun r34 =>
 (vl r20.1 r34.2).bind fun r35 =>
 (vl x0 r35.2).bind fun r36 =>
 (EV P 42 #[r36.1, (.int .i64 5)] r36.2).bind fun r37 =>
 (ia P 23 r34.1 r35.1 r37.2).bind fun r38 =>
 (fa P 38 r38.1 1 r38.2).bind fun r39 =>
 (st P 3 r39.1 r37.1 r39.2).bind fun r40 =>
 Ba (AH (AM #[x0]) [(2, r1.1), (5, r2.1), (6, r3.1), (7, r4.1), (8, r5.1), (9, r6.1), (3, r7.1), (10, r8.1), (11, r9.1), (12, r10.1), (13, r11.1), (14, r12.1), (15, r13.1), (16, r14.1), (17, r15.1), (18, r16.1), (19, r17.1), (20, r18.1), (21, r19.1), (4, r20.1), (22, r21.1), (23, r22.1), (33, r23.1), (32, r24.1), (41, r32.1), (40, r33.1), (42, r34.1), (43, r35.1), (44, r36.1), (45, r37.1), (46, r38.1), (47, r39.1)]) r40.2) (
 (bo P .eql 3 (.tmp 23) (.const (.int .i64 2)) r22.1 (.int .i64 2) r33.2).bind fun r41 =>
 (vl r41.1 r41.2).bind fun r42 =>
 AR r42.1 (
 (vl r7.1 r42.2).bind fun r43 =>
 (vl r20.1 r43.2).bind fun r44 =>
 (vl x0 r44.2).bind fun r45 =>
 (EV P 42 #[r45.1, (.int .i64 5)] r45.2).bind fun r46 =>
 (ia P 23 r43.1 r44.1 r46.2).bind fun r47 =>
 (fa P 38 r47.1 2 r47.2).bind fun r48 =>
 (st P 3 r48.1 r46.1 r48.2).bind fun r49 =>
 Ba (AH (AM #[x0]) [(2, r1.1), (5, r2.1), (6, r3.1), (7, r4.1), (8, r5.1), (9, r6.1), (3, r7.1), (10, r8.1), (11, r9.1), (12, r10.1), (13, r11.1), (14, r12.1), (15, r13.1), (16, r14.1), (17, r15.1), (18, r16.1), (19, r17.1), (20, r18.1), (21, r19.1), (4, r20.1), (22, r21.1), (23, r22.1), (33, r23.1), (32, r24.1), (41, r32.1), (40, r33.1), (49, r41.1), (48, r42.1), (50, r43.1), (51, r44.1), (52, r45.1), (53, r46.1), (54, r47.1), (55, r48.1)]) r49.2) (
 (bo P .eql 3 (.tmp 23) (.const (.int .i64 3)) r22.1 (.int .i64 3) r42.2).bind fun r50 =>
 (vl r50.1 r50.2).bind fun r51 =>
 AR r51.1 (
 (vl r7.1 r51.2).bind fun r52 =>
 (vl r20.1 r52.2).bind fun r53 =>
 (vl x0 r53.2).bind fun r54 =>
 (EV P 42 #[r54.1, (.int .i64 5)] r54.2).bind fun r55 =>
 (ia P 23 r52.1 r53.1 r55.2).bind fun r56 =>
 (fa P 38 r56.1 0 r56.2).bind fun r57 =>
 (st P 3 r57.1 r55.1 r57.2).bind fun r58 =>
 Ba (AH (AM #[x0]) [(2, r1.1), (5, r2.1), (6, r3.1), (7, r4.1), (8, r5.1), (9, r6.1), (3, r7.1), (10, r8.1), (11, r9.1), (12, r10.1), (13, r11.1), (14, r12.1), (15, r13.1), (16, r14.1), (17, r15.1), (18, r16.1), (19, r17.1), (20, r18.1), (21, r19.1), (4, r20.1), (22, r21.1), (23, r22.1), (33, r23.1), (32, r24.1), (41, r32.1), (40, r33.1), (49, r41.1), (48, r42.1), (57, r50.1), (56, r51.1), (58, r52.1), (59, r53.1), (60, r54.1), (61, r55.1), (62, r56.1), (63, r57.1)]) r58.2) (
 (vl r7.1 (dw r51.2)).bind fun r60 =>
 Ah (r60.2 = (dw r51.2)) <|
 (vl r20.1 (dw r51.2)).bind fun r61 =>
 Ah (r61.2 = (dw r51.2)) <|
 (sl P 23 r60.1 none (some r61.1) none (dw r51.2)).bind fun r62 =>
 Ah (r62.2 = (dw r51.2)) <|
 (vl r7.1 (dw r51.2)).bind fun r63 =>
 Ah (r63.2 = (dw r51.2)) <|
 (vl r20.1 (dw r51.2)).bind fun r64 =>
 Ah (r64.2 = (dw r51.2)) <|
 (bo P .add 3 (.tmp 28) (.const (.int .i64 1)) r64.1 (.int .i64 1) (dw r51.2)).bind fun r65 =>
 Ah (r65.2 = (dw r51.2)) <|
 (sl P 23 r63.1 (some r65.1) none none (dw r51.2)).bind fun r66 =>
 Ah (r66.2 = (dw r51.2)) <|
 (Au P #[23, 23] 23 #[r62.1, r66.1] (dw r51.2)).bind fun r67 =>
 Ah (True ∧ True ∧ True ∧ True) <|
 (vl r67.1 r67.2).bind fun r68 =>
 Ah (r68.2 = r67.2) <|
 Ba (AH (AM #[x0]) [(2, r1.1), (5, r2.1), (6, r3.1), (7, r4.1), (8, r5.1), (9, r6.1), (3, r7.1), (10, r8.1), (11, r9.1), (12, r10.1), (13, r11.1), (14, r12.1), (15, r13.1), (16, r14.1), (17, r15.1), (18, r16.1), (19, r17.1), (20, r18.1), (21, r19.1), (4, r20.1), (22, r21.1), (23, r22.1), (33, r23.1), (32, r24.1), (41, r32.1), (40, r33.1), (49, r41.1), (48, r42.1), (57, r50.1), (56, r51.1), (24, r60.1), (25, r61.1), (26, r62.1), (27, r63.1), (28, r64.1), (29, r65.1), (30, r66.1), (31, r67.1), (3, r68.1)]) r67.2))))) (
 Ba (AH (AM #[x0]) [(2, r1.1), (5, r2.1), (6, r3.1), (7, r4.1), (8, r5.1), (9, r6.1), (3, r7.1), (10, r8.1), (11, r9.1), (12, r10.1), (13, r11.1), (14, r12.1), (15, r13.1), (16, r14.1), (17, r15.1)]) r15.2) := by kernel_rfl
noncomputable def CB (e : Env) (w : World) : Option (Value × World) := Bu P (EV P) 27 11 (cB (cB (Ag P 27))) e w (Be P (AB P 27))
theorem HV (e : Env) (w : World) : CB e w =
 (vl (e 0) w).bind fun r1 =>
 (bd P 93 #[(0, r1.1)] r1.2).bind fun r2 =>
 (bx P 93 r2.1 r2.2).bind fun r3 =>
 (vl r3.1 r3.2).bind fun r4 =>
 some (r4.1, r4.2) := by kernel_rfl
theorem JY (x0 : Value) (w : World) : Bl P (EV P) 27 #[x0] w =
 (vl (Go.Value.pointer none) w).bind fun r1 =>
 (vl x0 r1.2).bind fun r2 =>
 (Ax P #[22] 3 #[r2.1] r2.2).bind fun r3 =>
 (bo P .gtr 3 (.tmp 4) (.const (.int .i64 2000)) r3.1 (.int .i64 2000) r3.2).bind fun r4 =>
 AR r4.1 (
 (vl x0 r4.2).bind fun r5 =>
 (sl P 22 r5.1 none (some (.int .i64 2000)) none r5.2).bind fun r6 =>
 (vl r6.1 r6.2).bind fun r7 =>
 CB (AH (AM #[x0]) [(2, r1.1), (3, r2.1), (4, r3.1), (5, r4.1), (6, r5.1), (7, r6.1), (0, r7.1)]) r7.2) (
 CB (AH (AM #[x0]) [(2, r1.1), (3, r2.1), (4, r3.1), (5, r4.1)]) r4.2) := by kernel_rfl
theorem Lu (x0 : Value) (w : World) : Bl P (EV P) 28 #[x0] w =
 (vl (.bool false) w).bind fun r1 =>
 (vl x0 r1.2).bind fun r2 =>
 (Ax P #[23] 3 #[r2.1] r2.2).bind fun r3 =>
 (bo P .leq 3 (.tmp 4) (.const (.int .i64 80)) r3.1 (.int .i64 80) r3.2).bind fun r4 =>
 (vl r4.1 r4.2).bind fun r5 =>
 (Ao r5.1 true (vl x0 r5.2) r5.2).bind fun r6 =>
 (Ao r5.1 true (EV P 54 #[r6.1, (.func (.func 55) #[] #[])] r6.2) r6.2).bind fun r7 =>
 (Ao r5.1 true (uo P .not r7.1 r7.2) r7.2).bind fun r8 =>
 (Ay r5.1 r8.1 (.bool false) r8.2).bind fun r9 =>
 (vl r9.1 r9.2).bind fun r10 =>
 some (r10.1, r10.2) := by kernel_rfl
noncomputable def Dk (e : Env) (w : World) : Option (Value × World) := Bu P (EV P) 29 25 (.loop (cA (cA (cB (cA (cB (cB (Ag P 29)))))))) e w (An 0 (Az P (EV P) 29 25 (cB (cB (cB (Ag P 29)))) (Be P (AB P 29))))
theorem Fp (e : Env) (w : World) : Dk e w =
 (bo P .lss 3 (.tmp 10) (.tmp 9) (e 10) (e 9) w).bind fun r1 =>
 AR r1.1 (
 (vl (e 10) r1.2).bind fun r2 =>
 (ia P 23 (e 8) (e 10) r2.2).bind fun r3 =>
 (ld P 38 r3.1 r3.2).bind fun r4 =>
 (al P 38 r4.2).bind fun r5 =>
 (vl r2.1 r5.2).bind fun r6 =>
 (st P 38 r5.1 r4.1 r6.2).bind fun r7 =>
 (vl (e 4) r7.2).bind fun r8 =>
 (ld P 38 r5.1 r8.2).bind fun r9 =>
 (EV P 59 #[r8.1, r9.1] r9.2).bind fun r10 =>
 (uo P .not r10.1 r10.2).bind fun r11 =>
 AR r11.1 (
 (vl (e 4) r11.2).bind fun r12 =>
 (vl r6.1 r12.2).bind fun r13 =>
 (vl r12.1 r13.2).bind fun r14 =>
 (vl r13.1 r14.2).bind fun r15 =>
 some (.tuple #[r14.1, r15.1], r15.2)) (
 (bo P .add 3 (.tmp 10) (.const (.int .i64 1)) (e 10) (.int .i64 1) r11.2).bind fun r16 =>
 (vl r16.1 r16.2).bind fun r17 =>
 Dk (AH e [(11, r1.1), (12, r2.1), (13, r3.1), (14, r4.1), (6, r5.1), (5, r6.1), (15, r8.1), (16, r9.1), (17, r10.1), (18, r11.1), (21, r16.1), (10, r17.1)]) r17.2)) (
 (vl (e 4) r1.2).bind fun r18 =>
 (vl (e 0) r18.2).bind fun r19 =>
 (Ax P #[23] 3 #[r19.1] r19.2).bind fun r20 =>
 (vl r18.1 r20.2).bind fun r21 =>
 (vl r20.1 r21.2).bind fun r22 =>
 some (.tuple #[r21.1, r22.1], r22.2)) := (AA P (EV P) 29 25 (cA (cA (cB (cA (cB (cB (Ag P 29))))))) e w (An 0 (Az P (EV P) 29 25 (cB (cB (cB (Ag P 29)))) (Be P (AB P 29))))).trans (by kernel_rfl)
theorem Lv (x0 : Value) (w : World) : Bl P (EV P) 29 #[x0] w =
 (vl (Go.Value.pointer none) w).bind fun r1 =>
 (vl (.int .i64 0) r1.2).bind fun r2 =>
 (EV P 58 #[] r2.2).bind fun r3 =>
 (vl r3.1 r3.2).bind fun r4 =>
 (vl x0 r4.2).bind fun r5 =>
 (Ax P #[23] 3 #[r5.1] r5.2).bind fun r6 =>
 (vl (.int .i64 0) r6.2).bind fun r7 =>
 Dk (AH (AM #[x0]) [(2, r1.1), (3, r2.1), (7, r3.1), (4, r4.1), (8, r5.1), (9, r6.1), (10, r7.1)]) r7.2 := by kernel_rfl
noncomputable def Dl (e : Env) (w : World) : Option (Value × World) := Bu P (EV P) 30 19 (.loop (cA (cA (cB (cA (cB (Ag P 30))))))) e w (An 0 (Az P (EV P) 30 19 (cB (cB (Ag P 30))) (Be P (AB P 30))))
theorem Fq (e : Env) (w : World) : Dl e w =
 (vl (e 3) w).bind fun r1 =>
 (vl (e 0) r1.2).bind fun r2 =>
 (Ax P #[23] 3 #[r2.1] r2.2).bind fun r3 =>
 (bo P .lss 3 (.tmp 4) (.tmp 6) r1.1 r3.1 r3.2).bind fun r4 =>
 AR r4.1 (
 (vl (e 0) r4.2).bind fun r5 =>
 (vl (e 3) r5.2).bind fun r6 =>
 (ia P 23 r5.1 r6.1 r6.2).bind fun r7 =>
 (ld P 38 r7.1 r7.2).bind fun r8 =>
 (EV P 60 #[r8.1] r8.2).bind fun r9 =>
 (uo P .not r9.1 r9.2).bind fun r10 =>
 AR r10.1 (
 (vl (.bool false) r10.2).bind fun r11 =>
 some (r11.1, r11.2)) (
 (vl (e 3) r10.2).bind fun r12 =>
 (bo P .add 3 (.tmp 8) (.const (.int .i64 1)) r12.1 (.int .i64 1) r12.2).bind fun r13 =>
 (vl r13.1 r13.2).bind fun r14 =>
 Dl (AH e [(4, r1.1), (5, r2.1), (6, r3.1), (7, r4.1), (10, r5.1), (11, r6.1), (12, r7.1), (13, r8.1), (14, r9.1), (15, r10.1), (8, r12.1), (9, r13.1), (3, r14.1)]) r14.2)) (
 (vl (e 0) r4.2).bind fun r15 =>
 (Ax P #[23] 3 #[r15.1] r15.2).bind fun r16 =>
 (bo P .leq 3 (.tmp 17) (.const (.int .i64 80)) r16.1 (.int .i64 80) r16.2).bind fun r17 =>
 (vl r17.1 r17.2).bind fun r18 =>
 some (r18.1, r18.2)) := (AA P (EV P) 30 19 (cA (cA (cB (cA (cB (Ag P 30)))))) e w (An 0 (Az P (EV P) 30 19 (cB (cB (Ag P 30))) (Be P (AB P 30))))).trans (by kernel_rfl)
theorem Lw (x0 : Value) (w : World) : Bl P (EV P) 30 #[x0] w =
 (vl (.bool false) w).bind fun r1 =>
 (vl (.int .i64 0) r1.2).bind fun r2 =>
 Dl (AH (AM #[x0]) [(2, r1.1), (3, r2.1)]) r2.2 := by kernel_rfl
end Go.Proofs.YtjhhommnkaemlaaGreat.X
