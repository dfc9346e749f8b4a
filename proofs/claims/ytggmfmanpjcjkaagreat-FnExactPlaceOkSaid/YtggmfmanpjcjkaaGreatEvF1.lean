/- A part of the proof: an evaluator of the model, its laws, and contracts of functions; no condition. -/
import Derived.Test.YtggmfmanpjcjkaaGreatEvT
set_option linter.unusedVariables false
set_option maxRecDepth 100000
namespace Go.Proofs.YtggmfmanpjcjkaaGreat.X
open Go Go.Ev
theorem laws_szChain_fn (x0 x1 : Value) (w : World) : fnC P (EV P) 37 #[x0, x1] w =
 (bx P 37 x0 w).bind fun r1 =>
 (vl (.int .i64 0) r1.2).bind fun r2 =>
 (fa P 37 r1.1 0 r2.2).bind fun r3 =>
 (ld P 35 r3.1 r3.2).bind fun r4 =>
 (vl x1 r4.2).bind fun r5 =>
 (EV P 79 #[r4.1, r5.1] r5.2).bind fun r6 =>
 (vl r6.1 r6.2).bind fun r7 =>
 (vl r7.1 r7.2).bind fun r8 =>
 (bo P .lss 3 (.tmp 9) (.const (.int .i64 0)) r8.1 (.int .i64 0) r8.2).bind fun r9 =>
 cnd r9.1 (
 (vl (.int .i64 (-1)) r9.2).bind fun r10 =>
 some (r10.1, r10.2)) (
 (vl r7.1 r9.2).bind fun r11 =>
 (vl r11.1 r11.2).bind fun r12 =>
 some (r12.1, r12.2)) := by kernel_rfl
noncomputable def laws_szVerS_l1 (e : Env) (w : World) : Option (Value × World) := exC P (EV P) 38 27 (.loop (cA (cA (cB (cA (cB (cB (cB (bodyOf P 38))))))))) e w (kBlock 0 (kSeq P (EV P) 38 27 (cB (cB (cB (cB (bodyOf P 38))))) (kFn P (fnOf P 38))))
theorem laws_szVerS_l1_eq (e : Env) (w : World) : laws_szVerS_l1 e w =
 (vl (e 5) w).bind fun r1 =>
 (vl (e 0) r1.2).bind fun r2 =>
 (b_len P #[38] 3 #[r2.1] r2.2).bind fun r3 =>
 (bo P .lss 3 (.tmp 12) (.tmp 14) r1.1 r3.1 r3.2).bind fun r4 =>
 cnd r4.1 (
 (vl (e 0) r4.2).bind fun r5 =>
 (vl (e 5) r5.2).bind fun r6 =>
 (ia P 38 r5.1 r6.1 r6.2).bind fun r7 =>
 (ld P 125 r7.1 r7.2).bind fun r8 =>
 (vl (e 1) r8.2).bind fun r9 =>
 (EV P 80 #[r8.1, r9.1] r9.2).bind fun r10 =>
 (vl r10.1 r10.2).bind fun r11 =>
 (vl r11.1 r11.2).bind fun r12 =>
 (bo P .lss 3 (.tmp 24) (.const (.int .i64 0)) r12.1 (.int .i64 0) r12.2).bind fun r13 =>
 cnd r13.1 (
 (vl (.int .i64 (-1)) r13.2).bind fun r14 =>
 some (r14.1, r14.2)) (
 (vl (e 5) r13.2).bind fun r15 =>
 (bo P .add 3 (.tmp 16) (.const (.int .i64 1)) r15.1 (.int .i64 1) r15.2).bind fun r16 =>
 (vl r16.1 r16.2).bind fun r17 =>
 laws_szVerS_l1 (ups e [(12, r1.1), (13, r2.1), (14, r3.1), (15, r4.1), (18, r5.1), (19, r6.1), (20, r7.1), (21, r8.1), (22, r9.1), (23, r10.1), (1, r11.1), (24, r12.1), (25, r13.1), (16, r15.1), (17, r16.1), (5, r17.1)]) r17.2)) (
 (vl (e 1) r4.2).bind fun r18 =>
 (vl r18.1 r18.2).bind fun r19 =>
 some (r19.1, r19.2)) := (exC_loop P (EV P) 38 27 (cA (cA (cB (cA (cB (cB (cB (bodyOf P 38)))))))) e w (kBlock 0 (kSeq P (EV P) 38 27 (cB (cB (cB (cB (bodyOf P 38))))) (kFn P (fnOf P 38))))).trans (by kernel_rfl)
theorem laws_szVerS_fn (x0 x1 : Value) (w : World) : fnC P (EV P) 38 #[x0, x1] w =
 (vl (.int .i64 0) w).bind fun r1 =>
 (vl x1 r1.2).bind fun r2 =>
 (vl x0 r2.2).bind fun r3 =>
 (b_len P #[38] 3 #[r3.1] r3.2).bind fun r4 =>
 (bo P .sub 3 (.tmp 6) (.tmp 8) r2.1 r4.1 r4.2).bind fun r5 =>
 (vl r5.1 r5.2).bind fun r6 =>
 (vl r6.1 r6.2).bind fun r7 =>
 (bo P .lss 3 (.tmp 10) (.const (.int .i64 0)) r7.1 (.int .i64 0) r7.2).bind fun r8 =>
 cnd r8.1 (
 (vl (.int .i64 (-1)) r8.2).bind fun r9 =>
 some (r9.1, r9.2)) (
 (vl (.int .i64 0) r8.2).bind fun r10 =>
 laws_szVerS_l1 (ups (env0 #[x0, x1]) [(4, r1.1), (6, r2.1), (7, r3.1), (8, r4.1), (9, r5.1), (1, r6.1), (10, r7.1), (11, r8.1), (5, r10.1)]) r10.2) := by kernel_rfl
noncomputable def laws_szVerSS_l1 (e : Env) (w : World) : Option (Value × World) := exC P (EV P) 39 27 (.loop (cA (cA (cB (cA (cB (cB (cB (bodyOf P 39))))))))) e w (kBlock 0 (kSeq P (EV P) 39 27 (cB (cB (cB (cB (bodyOf P 39))))) (kFn P (fnOf P 39))))
theorem laws_szVerSS_l1_eq (e : Env) (w : World) : laws_szVerSS_l1 e w =
 (vl (e 5) w).bind fun r1 =>
 (vl (e 0) r1.2).bind fun r2 =>
 (b_len P #[39] 3 #[r2.1] r2.2).bind fun r3 =>
 (bo P .lss 3 (.tmp 12) (.tmp 14) r1.1 r3.1 r3.2).bind fun r4 =>
 cnd r4.1 (
 (vl (e 0) r4.2).bind fun r5 =>
 (vl (e 5) r5.2).bind fun r6 =>
 (ia P 39 r5.1 r6.1 r6.2).bind fun r7 =>
 (ld P 38 r7.1 r7.2).bind fun r8 =>
 (vl (e 1) r8.2).bind fun r9 =>
 (EV P 38 #[r8.1, r9.1] r9.2).bind fun r10 =>
 (vl r10.1 r10.2).bind fun r11 =>
 (vl r11.1 r11.2).bind fun r12 =>
 (bo P .lss 3 (.tmp 24) (.const (.int .i64 0)) r12.1 (.int .i64 0) r12.2).bind fun r13 =>
 cnd r13.1 (
 (vl (.int .i64 (-1)) r13.2).bind fun r14 =>
 some (r14.1, r14.2)) (
 (vl (e 5) r13.2).bind fun r15 =>
 (bo P .add 3 (.tmp 16) (.const (.int .i64 1)) r15.1 (.int .i64 1) r15.2).bind fun r16 =>
 (vl r16.1 r16.2).bind fun r17 =>
 laws_szVerSS_l1 (ups e [(12, r1.1), (13, r2.1), (14, r3.1), (15, r4.1), (18, r5.1), (19, r6.1), (20, r7.1), (21, r8.1), (22, r9.1), (23, r10.1), (1, r11.1), (24, r12.1), (25, r13.1), (16, r15.1), (17, r16.1), (5, r17.1)]) r17.2)) (
 (vl (e 1) r4.2).bind fun r18 =>
 (vl r18.1 r18.2).bind fun r19 =>
 some (r19.1, r19.2)) := (exC_loop P (EV P) 39 27 (cA (cA (cB (cA (cB (cB (cB (bodyOf P 39)))))))) e w (kBlock 0 (kSeq P (EV P) 39 27 (cB (cB (cB (cB (bodyOf P 39))))) (kFn P (fnOf P 39))))).trans (by kernel_rfl)
theorem laws_szVerSS_fn (x0 x1 : Value) (w : World) : fnC P (EV P) 39 #[x0, x1] w =
 (vl (.int .i64 0) w).bind fun r1 =>
 (vl x1 r1.2).bind fun r2 =>
 (vl x0 r2.2).bind fun r3 =>
 (b_len P #[39] 3 #[r3.1] r3.2).bind fun r4 =>
 (bo P .sub 3 (.tmp 6) (.tmp 8) r2.1 r4.1 r4.2).bind fun r5 =>
 (vl r5.1 r5.2).bind fun r6 =>
 (vl r6.1 r6.2).bind fun r7 =>
 (bo P .lss 3 (.tmp 10) (.const (.int .i64 0)) r7.1 (.int .i64 0) r7.2).bind fun r8 =>
 cnd r8.1 (
 (vl (.int .i64 (-1)) r8.2).bind fun r9 =>
 some (r9.1, r9.2)) (
 (vl (.int .i64 0) r8.2).bind fun r10 =>
 laws_szVerSS_l1 (ups (env0 #[x0, x1]) [(4, r1.1), (6, r2.1), (7, r3.1), (8, r4.1), (9, r5.1), (1, r6.1), (10, r7.1), (11, r8.1), (5, r10.1)]) r10.2) := by kernel_rfl
noncomputable def spec_l4Ok_l1 (e : Env) (w : World) : Option (Value × World) := exC P (EV P) 40 89 (.loop (cA (cA (cB (cA (cB (cB (bodyOf P 40)))))))) e w (kBlock 0 (kSeq P (EV P) 40 89 (cB (cB (cB (bodyOf P 40)))) (kFn P (fnOf P 40))))
noncomputable def spec_l4Ok_l2 (e : Env) (w : World) : Option (Value × World) := exC P (EV P) 40 89 (.loop (cA (cA (cB (cA (cB (cB (cB (cB (bodyOf P 40)))))))))) e w (kBlock 2 (kSeq P (EV P) 40 89 (cB (cB (cB (cB (cB (bodyOf P 40)))))) (kFn P (fnOf P 40))))
theorem spec_l4Ok_l1_eq (e : Env) (w : World) : spec_l4Ok_l1 e w =
 (vl (e 3) w).bind fun r1 =>
 (bo P .lss 3 (.tmp 42) (.const (.int .i64 3)) r1.1 (.int .i64 3) r1.2).bind fun r2 =>
 cnd r2.1 (
 (fa P 50 (e 1) 4 r2.2).bind fun r3 =>
 (ld P 48 r3.1 r3.2).bind fun r4 =>
 (vl (e 3) r4.2).bind fun r5 =>
 (ia P 48 r4.1 r5.1 r5.2).bind fun r6 =>
 (ld P 47 r6.1 r6.2).bind fun r7 =>
 (vl (e 3) r7.2).bind fun r8 =>
 (EV P 83 #[r7.1, r8.1] r8.2).bind fun r9 =>
 (uo P .not r9.1 r9.2).bind fun r10 =>
 (vl r10.1 r10.2).bind fun r11 =>
 (gif r11.1 false (vl (e 3) r11.2) r11.2).bind fun r12 =>
 (gif r11.1 false (fa P 50 (e 1) 0 r12.2) r12.2).bind fun r13 =>
 (gif r11.1 false (ld P 3 r13.1 r13.2) r13.2).bind fun r14 =>
 (gif r11.1 false (bo P .eql 3 (.tmp 55) (.tmp 57) r12.1 r14.1 r14.2) r14.2).bind fun r15 =>
 (gif r11.1 false (vl r15.1 r15.2) r15.2).bind fun r16 =>
 (gif r16.1 true (fa P 50 (e 1) 4 r16.2) r16.2).bind fun r17 =>
 (gif r16.1 true (ld P 48 r17.1 r17.2) r17.2).bind fun r18 =>
 (gif r16.1 true (vl (e 3) r18.2) r18.2).bind fun r19 =>
 (gif r16.1 true (ia P 48 r18.1 r19.1 r19.2) r19.2).bind fun r20 =>
 (gif r16.1 true (ld P 47 r20.1 r20.2) r20.2).bind fun r21 =>
 (gif r16.1 true (b_len P #[47] 3 #[r21.1] r21.2) r21.2).bind fun r22 =>
 (gif r16.1 true (bo P .gtr 3 (.tmp 65) (.const (.int .i64 0)) r22.1 (.int .i64 0) r22.2) r22.2).bind fun r23 =>
 (gif r11.1 false (pickV r16.1 r23.1 (.bool false) r23.2) r23.2).bind fun r24 =>
 (pickV r11.1 (.bool true) r24.1 r24.2).bind fun r25 =>
 cnd r25.1 (
 (vl (.bool false) r25.2).bind fun r26 =>
 some (r26.1, r26.2)) (
 (vl (e 3) r25.2).bind fun r27 =>
 (bo P .add 3 (.tmp 44) (.const (.int .i64 1)) r27.1 (.int .i64 1) r27.2).bind fun r28 =>
 (vl r28.1 r28.2).bind fun r29 =>
 spec_l4Ok_l1 (ups e [(42, r1.1), (43, r2.1), (46, r3.1), (47, r4.1), (48, r5.1), (49, r6.1), (50, r7.1), (51, r8.1), (52, r9.1), (53, r10.1), (54, r11.1), (55, r12.1), (56, r13.1), (57, r14.1), (58, r15.1), (59, r16.1), (60, r17.1), (61, r18.1), (62, r19.1), (63, r20.1), (64, r21.1), (65, r22.1), (66, r23.1), (67, r24.1), (68, r25.1), (44, r27.1), (45, r28.1), (3, r29.1)]) r29.2)) (
 (fa P 50 (e 1) 2 r2.2).bind fun r30 =>
 (fa P 46 r30.1 0 r30.2).bind fun r31 =>
 (ld P 44 r31.1 r31.2).bind fun r32 =>
 (ia P 44 r32.1 (.int .i64 0) r32.2).bind fun r33 =>
 (fa P 95 r33.1 0 r33.2).bind fun r34 =>
 (ld P 91 r34.1 r34.2).bind fun r35 =>
 (al P 91 r35.2).bind fun r36 =>
 (st P 91 r36.1 r35.1 r36.2).bind fun r37 =>
 (vl (.int .i64 0) r37.2).bind fun r38 =>
 spec_l4Ok_l2 (ups e [(42, r1.1), (43, r2.1), (69, r30.1), (70, r31.1), (71, r32.1), (72, r33.1), (73, r34.1), (74, r35.1), (4, r36.1), (5, r38.1)]) r38.2) := (exC_loop P (EV P) 40 89 (cA (cA (cB (cA (cB (cB (bodyOf P 40))))))) e w (kBlock 0 (kSeq P (EV P) 40 89 (cB (cB (cB (bodyOf P 40)))) (kFn P (fnOf P 40))))).trans (by kernel_rfl)
theorem spec_l4Ok_l2_eq (e : Env) (w : World) : spec_l4Ok_l2 e w =
 (vl (e 5) w).bind fun r1 =>
 (bo P .lss 3 (.tmp 75) (.const (.int .i64 4)) r1.1 (.int .i64 4) r1.2).bind fun r2 =>
 cnd r2.1 (
 (fa P 91 (e 4) 0 (dw r2.2)).bind fun r4 =>
 ifP (r4.2 = (dw r2.2)) <|
 (ld P 47 r4.1 (dw r2.2)).bind fun r5 =>
 ifP (r5.2 = (dw r2.2)) <|
 (vl (e 5) (dw r2.2)).bind fun r6 =>
 ifP (r6.2 = (dw r2.2)) <|
 (ia P 47 r5.1 r6.1 (dw r2.2)).bind fun r7 =>
 ifP (r7.2 = (dw r2.2)) <|
 (fa P 69 r7.1 1 (dw r2.2)).bind fun r8 =>
 ifP (r8.2 = (dw r2.2)) <|
 (fa P 64 r8.1 0 (dw r2.2)).bind fun r9 =>
 ifP (r9.2 = (dw r2.2)) <|
 (ld P 3 r9.1 (dw r2.2)).bind fun r10 =>
 ifP (r10.2 = (dw r2.2)) <|
 (fa P 50 (e 1) 1 (dw r2.2)).bind fun r11 =>
 ifP (r11.2 = (dw r2.2)) <|
 (ld P 3 r11.1 (dw r2.2)).bind fun r12 =>
 ifP (r12.2 = (dw r2.2)) <|
 (bo P .gtr 3 (.tmp 85) (.tmp 87) r10.1 r12.1 (dw r2.2)).bind fun r13 =>
 ifP (r13.2 = (dw r2.2)) <|
 cnd r13.1 (
 (vl (.bool false) (dw r2.2)).bind fun r14 =>
 some (r14.1, r14.2)) (
 (vl (e 5) (dw r2.2)).bind fun r15 =>
 (bo P .add 3 (.tmp 77) (.const (.int .i64 1)) r15.1 (.int .i64 1) r15.2).bind fun r16 =>
 (vl r16.1 r16.2).bind fun r17 =>
 spec_l4Ok_l2 (ups e [(75, r1.1), (76, r2.1), (79, r4.1), (80, r5.1), (81, r6.1), (82, r7.1), (83, r8.1), (84, r9.1), (85, r10.1), (86, r11.1), (87, r12.1), (88, r13.1), (77, r15.1), (78, r16.1), (5, r17.1)]) r17.2)) (
 (vl (.bool true) r2.2).bind fun r18 =>
 some (r18.1, r18.2)) := (exC_loop P (EV P) 40 89 (cA (cA (cB (cA (cB (cB (cB (cB (bodyOf P 40))))))))) e w (kBlock 2 (kSeq P (EV P) 40 89 (cB (cB (cB (cB (cB (bodyOf P 40)))))) (kFn P (fnOf P 40))))).trans (by kernel_rfl)
theorem spec_l4Ok_fn (x0 : Value) (w : World) : fnC P (EV P) 40 #[x0] w =
 (bx P 50 x0 w).bind fun r1 =>
 (vl (.bool false) r1.2).bind fun r2 =>
 (fa P 50 r1.1 0 r2.2).bind fun r3 =>
 (ld P 3 r3.1 r3.2).bind fun r4 =>
 (EV P 25 #[r4.1, (.int .i64 0), (.int .i64 2)] r4.2).bind fun r5 =>
 (uo P .not r5.1 r5.2).bind fun r6 =>
 (vl r6.1 r6.2).bind fun r7 =>
 (gif r7.1 false (fa P 50 r1.1 1 r7.2) r7.2).bind fun r8 =>
 (gif r7.1 false (ld P 3 r8.1 r8.2) r8.2).bind fun r9 =>
 (gif r7.1 false (EV P 25 #[r9.1, (.int .i64 0), (.int .i64 999)] r9.2) r9.2).bind fun r10 =>
 (gif r7.1 false (uo P .not r10.1 r10.2) r10.2).bind fun r11 =>
 (pickV r7.1 (.bool true) r11.1 r11.2).bind fun r12 =>
 (vl r12.1 r12.2).bind fun r13 =>
 (gif r13.1 false (fa P 50 r1.1 4 r13.2) r13.2).bind fun r14 =>
 (gif r13.1 false (ld P 48 r14.1 r14.2) r14.2).bind fun r15 =>
 (gif r13.1 false (b_len P #[48] 3 #[r15.1] r15.2) r15.2).bind fun r16 =>
 (gif r13.1 false (bo P .neq 3 (.tmp 19) (.const (.int .i64 3)) r16.1 (.int .i64 3) r16.2) r16.2).bind fun r17 =>
 (pickV r13.1 (.bool true) r17.1 r17.2).bind fun r18 =>
 (vl r18.1 r18.2).bind fun r19 =>
 (gif r19.1 false (fa P 50 r1.1 2 r19.2) r19.2).bind fun r20 =>
 (gif r19.1 false (ld P 46 r20.1 r20.2) r20.2).bind fun r21 =>
 (gif r19.1 false (EV P 81 #[r21.1] r21.2) r21.2).bind fun r22 =>
 (gif r19.1 false (uo P .not r22.1 r22.2) r22.2).bind fun r23 =>
 (pickV r19.1 (.bool true) r23.1 r23.2).bind fun r24 =>
 (vl r24.1 r24.2).bind fun r25 =>
 (gif r25.1 false (fa P 50 r1.1 2 r25.2) r25.2).bind fun r26 =>
 (gif r25.1 false (ld P 46 r26.1 r26.2) r26.2).bind fun r27 =>
 (gif r25.1 false (EV P 82 #[r27.1] r27.2) r27.2).bind fun r28 =>
 (gif r25.1 false (uo P .not r28.1 r28.2) r28.2).bind fun r29 =>
 (pickV r25.1 (.bool true) r29.1 r29.2).bind fun r30 =>
 (vl r30.1 r30.2).bind fun r31 =>
 (gif r31.1 false (fa P 50 r1.1 3 r31.2) r31.2).bind fun r32 =>
 (gif r31.1 false (ld P 47 r32.1 r32.2) r32.2).bind fun r33 =>
 (gif r31.1 false (fa P 50 r1.1 0 r33.2) r33.2).bind fun r34 =>
 (gif r31.1 false (ld P 3 r34.1 r34.2) r34.2).bind fun r35 =>
 (gif r31.1 false (EV P 83 #[r33.1, r35.1] r35.2) r35.2).bind fun r36 =>
 (gif r31.1 false (uo P .not r36.1 r36.2) r36.2).bind fun r37 =>
 (pickV r31.1 (.bool true) r37.1 r37.2).bind fun r38 =>
 cnd r38.1 (
 (vl (.bool false) r38.2).bind fun r39 =>
 some (r39.1, r39.2)) (
 (vl (.int .i64 0) r38.2).bind fun r40 =>
 spec_l4Ok_l1 (ups (env0 #[x0]) [(1, r1.1), (2, r2.1), (6, r3.1), (7, r4.1), (8, r5.1), (9, r6.1), (10, r7.1), (11, r8.1), (12, r9.1), (13, r10.1), (14, r11.1), (15, r12.1), (16, r13.1), (17, r14.1), (18, r15.1), (19, r16.1), (20, r17.1), (21, r18.1), (22, r19.1), (23, r20.1), (24, r21.1), (25, r22.1), (26, r23.1), (27, r24.1), (28, r25.1), (29, r26.1), (30, r27.1), (31, r28.1), (32, r29.1), (33, r30.1), (34, r31.1), (35, r32.1), (36, r33.1), (37, r34.1), (38, r35.1), (39, r36.1), (40, r37.1), (41, r38.1), (3, r40.1)]) r40.2) := by kernel_rfl
theorem laws_toChain_fn (x0 : Value) (w : World) : fnC P (EV P) 41 #[x0] w =
 (bx P 37 x0 w).bind fun r1 =>
 (al P 46 r1.2).bind fun r2 =>
 (al P 46 r2.2).bind fun r3 =>
 (fa P 37 r1.1 0 r3.2).bind fun r4 =>
 (ld P 35 r4.1 r4.2).bind fun r5 =>
 (EV P 84 #[r5.1] r5.2).bind fun r6 =>
 (fa P 46 r3.1 0 r6.2).bind fun r7 =>
 (st P 44 r7.1 r6.1 r7.2).bind fun r8 =>
 (ld P 46 r3.1 r8.2).bind fun r9 =>
 (st P 46 r2.1 r9.1 r9.2).bind fun r10 =>
 ((ld P 46 r2.1 r10.2).bind fun r11 => ifP (r11.2 = r10.2) (some r11.1)).bind fun v12 =>
 some (v12, r10.2) := by kernel_rfl
noncomputable def laws_toVerS_l1 (e : Env) (w : World) : Option (Value × World) := exC P (EV P) 42 23 (.loop (cA (cA (cB (cA (cB (cB (bodyOf P 42)))))))) e w (kBlock 0 (kSeq P (EV P) 42 23 (cB (cB (cB (bodyOf P 42)))) (kFn P (fnOf P 42))))
theorem laws_toVerS_l1_eq (e : Env) (w : World) : laws_toVerS_l1 e w =
 (vl (e 4) w).bind fun r1 =>
 (vl (e 0) r1.2).bind fun r2 =>
 (b_len P #[38] 3 #[r2.1] r2.2).bind fun r3 =>
 (bo P .lss 3 (.tmp 8) (.tmp 10) r1.1 r3.1 r3.2).bind fun r4 =>
 cnd r4.1 (
 (vl (e 3) r4.2).bind fun r5 =>
 (vl (e 4) r5.2).bind fun r6 =>
 (vl (e 0) r6.2).bind fun r7 =>
 (vl (e 4) r7.2).bind fun r8 =>
 (ia P 38 r7.1 r8.1 r8.2).bind fun r9 =>
 (ld P 125 r9.1 r9.2).bind fun r10 =>
 (EV P 85 #[r10.1] r10.2).bind fun r11 =>
 (ia P 47 r5.1 r6.1 r11.2).bind fun r12 =>
 (st P 69 r12.1 r11.1 r12.2).bind fun r13 =>
 (vl (e 4) r13.2).bind fun r14 =>
 (bo P .add 3 (.tmp 12) (.const (.int .i64 1)) r14.1 (.int .i64 1) r14.2).bind fun r15 =>
 (vl r15.1 r15.2).bind fun r16 =>
 laws_toVerS_l1 (ups e [(8, r1.1), (9, r2.1), (10, r3.1), (11, r4.1), (14, r5.1), (15, r6.1), (16, r7.1), (17, r8.1), (18, r9.1), (19, r10.1), (20, r11.1), (21, r12.1), (12, r14.1), (13, r15.1), (4, r16.1)]) r16.2) (
 (vl (e 3) r4.2).bind fun r17 =>
 (vl r17.1 r17.2).bind fun r18 =>
 some (r18.1, r18.2)) := (exC_loop P (EV P) 42 23 (cA (cA (cB (cA (cB (cB (bodyOf P 42))))))) e w (kBlock 0 (kSeq P (EV P) 42 23 (cB (cB (cB (bodyOf P 42)))) (kFn P (fnOf P 42))))).trans (by kernel_rfl)
theorem laws_toVerS_fn (x0 : Value) (w : World) : fnC P (EV P) 42 #[x0] w =
 (vl (Go.Value.slice none 0 0) w).bind fun r1 =>
 (vl x0 r1.2).bind fun r2 =>
 (b_len P #[38] 3 #[r2.1] r2.2).bind fun r3 =>
 (ms P 47 r3.1 r3.1 r3.2).bind fun r4 =>
 (vl r4.1 r4.2).bind fun r5 =>
 (vl (.int .i64 0) r5.2).bind fun r6 =>
 laws_toVerS_l1 (ups (env0 #[x0]) [(2, r1.1), (5, r2.1), (6, r3.1), (7, r4.1), (3, r5.1), (4, r6.1)]) r6.2 := by kernel_rfl
noncomputable def laws_toVerSS_l1 (e : Env) (w : World) : Option (Value × World) := exC P (EV P) 43 23 (.loop (cA (cA (cB (cA (cB (cB (bodyOf P 43)))))))) e w (kBlock 0 (kSeq P (EV P) 43 23 (cB (cB (cB (bodyOf P 43)))) (kFn P (fnOf P 43))))
theorem laws_toVerSS_l1_eq (e : Env) (w : World) : laws_toVerSS_l1 e w =
 (vl (e 4) w).bind fun r1 =>
 (vl (e 0) r1.2).bind fun r2 =>
 (b_len P #[39] 3 #[r2.1] r2.2).bind fun r3 =>
 (bo P .lss 3 (.tmp 8) (.tmp 10) r1.1 r3.1 r3.2).bind fun r4 =>
 cnd r4.1 (
 (vl (e 3) r4.2).bind fun r5 =>
 (vl (e 4) r5.2).bind fun r6 =>
 (vl (e 0) r6.2).bind fun r7 =>
 (vl (e 4) r7.2).bind fun r8 =>
 (ia P 39 r7.1 r8.1 r8.2).bind fun r9 =>
 (ld P 38 r9.1 r9.2).bind fun r10 =>
 (EV P 42 #[r10.1] r10.2).bind fun r11 =>
 (ia P 48 r5.1 r6.1 r11.2).bind fun r12 =>
 (st P 47 r12.1 r11.1 r12.2).bind fun r13 =>
 (vl (e 4) r13.2).bind fun r14 =>
 (bo P .add 3 (.tmp 12) (.const (.int .i64 1)) r14.1 (.int .i64 1) r14.2).bind fun r15 =>
 (vl r15.1 r15.2).bind fun r16 =>
 laws_toVerSS_l1 (ups e [(8, r1.1), (9, r2.1), (10, r3.1), (11, r4.1), (14, r5.1), (15, r6.1), (16, r7.1), (17, r8.1), (18, r9.1), (19, r10.1), (20, r11.1), (21, r12.1), (12, r14.1), (13, r15.1), (4, r16.1)]) r16.2) (
 (vl (e 3) r4.2).bind fun r17 =>
 (vl r17.1 r17.2).bind fun r18 =>
 some (r18.1, r18.2)) := (exC_loop P (EV P) 43 23 (cA (cA (cB (cA (cB (cB (bodyOf P 43))))))) e w (kBlock 0 (kSeq P (EV P) 43 23 (cB (cB (cB (bodyOf P 43)))) (kFn P (fnOf P 43))))).trans (by kernel_rfl)
theorem laws_toVerSS_fn (x0 : Value) (w : World) : fnC P (EV P) 43 #[x0] w =
 (vl (Go.Value.slice none 0 0) w).bind fun r1 =>
 (vl x0 r1.2).bind fun r2 =>
 (b_len P #[39] 3 #[r2.1] r2.2).bind fun r3 =>
 (ms P 48 r3.1 r3.1 r3.2).bind fun r4 =>
 (vl r4.1 r4.2).bind fun r5 =>
 (vl (.int .i64 0) r5.2).bind fun r6 =>
 laws_toVerSS_l1 (ups (env0 #[x0]) [(2, r1.1), (5, r2.1), (6, r3.1), (7, r4.1), (3, r5.1), (4, r6.1)]) r6.2 := by kernel_rfl
theorem impl_placeOk_fn (x0 : Value) (w : World) : fnC P (EV P) 44 #[x0] w =
 (vl (.bool false) w).bind fun r1 =>
 (vl x0 r1.2).bind fun r2 =>
 (EV P 45 #[r2.1, (.int .i64 0), (.int .i64 2)] r2.2).bind fun r3 =>
 (vl r3.1 r3.2).bind fun r4 =>
 some (r4.1, r4.2) := by kernel_rfl
theorem impl_within_fn (x0 x1 x2 : Value) (w : World) : fnC P (EV P) 45 #[x0, x1, x2] w =
 (vl (.bool false) w).bind fun r1 =>
 (vl x0 r1.2).bind fun r2 =>
 (vl x1 r2.2).bind fun r3 =>
 (bo P .geq 3 (.tmp 7) (.tmp 8) r2.1 r3.1 r3.2).bind fun r4 =>
 (vl r4.1 r4.2).bind fun r5 =>
 (gif r5.1 true (vl x0 r5.2) r5.2).bind fun r6 =>
 (gif r5.1 true (vl x2 r6.2) r6.2).bind fun r7 =>
 (gif r5.1 true (bo P .leq 3 (.tmp 11) (.tmp 12) r6.1 r7.1 r7.2) r7.2).bind fun r8 =>
 (pickV r5.1 r8.1 (.bool false) r8.2).bind fun r9 =>
 (vl r9.1 r9.2).bind fun r10 =>
 some (r10.1, r10.2) := by kernel_rfl
noncomputable def impl_ChainOk_l1 (e : Env) (w : World) : Option (Value × World) := exC P (EV P) 46 71 (.loop (cA (cA (cB (cA (cB (cB (bodyOf P 46)))))))) e w (kBlock 0 (kSeq P (EV P) 46 71 (cB (cB (cB (bodyOf P 46)))) (kFn P (fnOf P 46))))
noncomputable def impl_ChainOk_l2 (e : Env) (w : World) : Option (Value × World) := exC P (EV P) 46 71 (.loop (cA (cA (cB (cA (cB (cB (cB (bodyOf P 46))))))))) e w (kBlock 2 (kSeq P (EV P) 46 71 (cB (cB (cB (cB (bodyOf P 46))))) (kFn P (fnOf P 46))))
theorem impl_ChainOk_l1_eq (e : Env) (w : World) : impl_ChainOk_l1 e w =
 (bo P .lss 3 (.tmp 15) (.tmp 14) (e 15) (e 14) w).bind fun r1 =>
 cnd r1.1 (
 (ia P 44 (e 13) (e 15) r1.2).bind fun r2 =>
 (ld P 95 r2.1 r2.2).bind fun r3 =>
 (al P 95 r3.2).bind fun r4 =>
 (st P 95 r4.1 r3.1 r4.2).bind fun r5 =>
 (fa P 95 r4.1 0 r5.2).bind fun r6 =>
 (ld P 91 r6.1 r6.2).bind fun r7 =>
 (EV P 86 #[r7.1] r7.2).bind fun r8 =>
 (uo P .not r8.1 r8.2).bind fun r9 =>
 (vl r9.1 r9.2).bind fun r10 =>
 (gif r10.1 false (fa P 95 r4.1 1 r10.2) r10.2).bind fun r11 =>
 (gif r10.1 false (ld P 47 r11.1 r11.2) r11.2).bind fun r12 =>
 (gif r10.1 false (b_len P #[47] 3 #[r12.1] r12.2) r12.2).bind fun r13 =>
 (gif r10.1 false (bo P .gtr 3 (.tmp 26) (.const (.int .i64 6)) r13.1 (.int .i64 6) r13.2) r13.2).bind fun r14 =>
 (pickV r10.1 (.bool true) r14.1 r14.2).bind fun r15 =>
 (vl r15.1 r15.2).bind fun r16 =>
 (gif r16.1 false (fa P 95 r4.1 1 r16.2) r16.2).bind fun r17 =>
 (gif r16.1 false (ld P 47 r17.1 r17.2) r17.2).bind fun r18 =>
 (gif r16.1 false (EV P 87 #[r18.1, (.func (.func 88) #[] #[])] r18.2) r18.2).bind fun r19 =>
 (pickV r16.1 (.bool true) r19.1 r19.2).bind fun r20 =>
 cnd r20.1 (
 (vl (.bool false) r20.2).bind fun r21 =>
 some (r21.1, r21.2)) (
 (bo P .add 3 (.tmp 15) (.const (.int .i64 1)) (e 15) (.int .i64 1) r20.2).bind fun r22 =>
 (vl r22.1 r22.2).bind fun r23 =>
 impl_ChainOk_l1 (ups e [(16, r1.1), (17, r2.1), (18, r3.1), (4, r4.1), (19, r6.1), (20, r7.1), (21, r8.1), (22, r9.1), (23, r10.1), (24, r11.1), (25, r12.1), (26, r13.1), (27, r14.1), (28, r15.1), (29, r16.1), (30, r17.1), (31, r18.1), (32, r19.1), (33, r20.1), (34, r22.1), (15, r23.1)]) r23.2)) (
 (fa P 46 (e 1) 0 r1.2).bind fun r24 =>
 (ld P 44 r24.1 r24.2).bind fun r25 =>
 (b_len P #[44] 3 #[r25.1] r25.2).bind fun r26 =>
 (vl (.int .i64 0) r26.2).bind fun r27 =>
 impl_ChainOk_l2 (ups e [(16, r1.1), (35, r24.1), (36, r25.1), (37, r26.1), (38, r27.1)]) r27.2) := (exC_loop P (EV P) 46 71 (cA (cA (cB (cA (cB (cB (bodyOf P 46))))))) e w (kBlock 0 (kSeq P (EV P) 46 71 (cB (cB (cB (bodyOf P 46)))) (kFn P (fnOf P 46))))).trans (by kernel_rfl)
theorem impl_ChainOk_l2_eq (e : Env) (w : World) : impl_ChainOk_l2 e w =
 (bo P .lss 3 (.tmp 38) (.tmp 37) (e 38) (e 37) w).bind fun r1 =>
 cnd r1.1 (
 (vl (e 38) r1.2).bind fun r2 =>
 (ia P 44 (e 36) (e 38) r2.2).bind fun r3 =>
 (ld P 95 r3.1 r3.2).bind fun r4 =>
 (al P 95 r4.2).bind fun r5 =>
 (vl r2.1 r5.2).bind fun r6 =>
 (st P 95 r5.1 r4.1 r6.2).bind fun r7 =>
 (ld P 46 (e 1) (dw r7.2)).bind fun r9 =>
 ifP (r9.2 = (dw r7.2)) <|
 (vl r6.1 (dw r7.2)).bind fun r10 =>
 ifP (r10.2 = (dw r7.2)) <|
 (EV P 90 #[r9.1, r10.1] (dw r7.2)).bind fun r11 =>
 ifP (True ∧ True) <|
 (vl r11.1 r11.2).bind fun r12 =>
 ifP (r12.2 = r11.2) <|
 (gif r12.1 true (fa P 95 r5.1 1 r11.2) r11.2).bind fun r13 =>
 ifP (r13.2 = r11.2) <|
 (gif r12.1 true (ld P 47 r13.1 r11.2) r11.2).bind fun r14 =>
 ifP (r14.2 = r11.2) <|
 (gif r12.1 true (b_len P #[47] 3 #[r14.1] r11.2) r11.2).bind fun r15 =>
 ifP (r15.2 = r11.2) <|
 (gif r12.1 true (bo P .gtr 3 (.tmp 49) (.const (.int .i64 0)) r15.1 (.int .i64 0) r11.2) r11.2).bind fun r16 =>
 ifP (r16.2 = r11.2) <|
 (pickV r12.1 r16.1 (.bool false) r11.2).bind fun r17 =>
 ifP (r17.2 = r11.2) <|
 (vl r17.1 r11.2).bind fun r18 =>
 ifP (r18.2 = r11.2) <|
 (gif r18.1 false (ld P 46 (e 1) r11.2) r11.2).bind fun r19 =>
 ifP (r19.2 = r11.2) <|
 (gif r18.1 false (vl r6.1 r11.2) r11.2).bind fun r20 =>
 ifP (r20.2 = r11.2) <|
 (gif r18.1 false (EV P 90 #[r19.1, r20.1] r11.2) r11.2).bind fun r21 =>
 ifP (True ∧ True ∧ True ∧ True ∧ True ∧ True ∧ True) <|
 (gif r18.1 false (uo P .not r21.1 r21.2) r21.2).bind fun r22 =>
 ifP (r22.2 = r21.2) <|
 (gif r18.1 false (vl r22.1 r21.2) r21.2).bind fun r23 =>
 ifP (r23.2 = r21.2) <|
 (gif r23.1 true (ld P 95 r5.1 r21.2) r21.2).bind fun r24 =>
 ifP (r24.2 = r21.2) <|
 (gif r23.1 true (fa P 46 (e 1) 0 r21.2) r21.2).bind fun r25 =>
 ifP (r25.2 = r21.2) <|
 (gif r23.1 true (ld P 44 r25.1 r21.2) r21.2).bind fun r26 =>
 ifP (r26.2 = r21.2) <|
 (gif r23.1 true (vl r6.1 r21.2) r21.2).bind fun r27 =>
 ifP (r27.2 = r21.2) <|
 (gif r23.1 true (bo P .add 3 (.tmp 61) (.const (.int .i64 1)) r27.1 (.int .i64 1) r21.2) r21.2).bind fun r28 =>
 ifP (r28.2 = r21.2) <|
 (gif r23.1 true (ia P 44 r26.1 r28.1 r21.2) r21.2).bind fun r29 =>
 ifP (r29.2 = r21.2) <|
 (gif r23.1 true (fa P 95 r29.1 0 r21.2) r21.2).bind fun r30 =>
 ifP (r30.2 = r21.2) <|
 (gif r23.1 true (ld P 91 r30.1 r21.2) r21.2).bind fun r31 =>
 ifP (r31.2 = r21.2) <|
 (gif r23.1 true (EV P 91 #[r24.1, r31.1] r21.2) r21.2).bind fun r32 =>
 ifP (True ∧ True ∧ True ∧ True ∧ True ∧ True ∧ True ∧ True ∧ True ∧ True ∧ True ∧ True ∧ True ∧ True ∧ True) <|
 (gif r23.1 true (uo P .not r32.1 r32.2) r32.2).bind fun r33 =>
 ifP (r33.2 = r32.2) <|
 (gif r18.1 false (pickV r23.1 r33.1 (.bool false) r32.2) r32.2).bind fun r34 =>
 ifP (r34.2 = r32.2) <|
 (pickV r18.1 (.bool true) r34.1 r32.2).bind fun r35 =>
 ifP (r35.2 = r32.2) <|
 cnd r35.1 (
 (vl (.bool false) r32.2).bind fun r36 =>
 some (r36.1, r36.2)) (
 (bo P .add 3 (.tmp 38) (.const (.int .i64 1)) (e 38) (.int .i64 1) r32.2).bind fun r37 =>
 (vl r37.1 r37.2).bind fun r38 =>
 impl_ChainOk_l2 (ups e [(39, r1.1), (40, r2.1), (41, r3.1), (42, r4.1), (6, r5.1), (5, r6.1), (43, r9.1), (44, r10.1), (45, r11.1), (46, r12.1), (47, r13.1), (48, r14.1), (49, r15.1), (50, r16.1), (51, r17.1), (52, r18.1), (53, r19.1), (54, r20.1), (55, r21.1), (56, r22.1), (57, r23.1), (58, r24.1), (59, r25.1), (60, r26.1), (61, r27.1), (62, r28.1), (63, r29.1), (64, r30.1), (65, r31.1), (66, r32.1), (67, r33.1), (68, r34.1), (69, r35.1), (70, r37.1), (38, r38.1)]) r38.2)) (
 (vl (.bool true) r1.2).bind fun r39 =>
 some (r39.1, r39.2)) := (exC_loop P (EV P) 46 71 (cA (cA (cB (cA (cB (cB (cB (bodyOf P 46)))))))) e w (kBlock 2 (kSeq P (EV P) 46 71 (cB (cB (cB (cB (bodyOf P 46))))) (kFn P (fnOf P 46))))).trans (by kernel_rfl)
theorem impl_ChainOk_fn (x0 : Value) (w : World) : fnC P (EV P) 46 #[x0] w =
 (bx P 46 x0 w).bind fun r1 =>
 (vl (.bool false) r1.2).bind fun r2 =>
 (fa P 46 r1.1 0 r2.2).bind fun r3 =>
 (ld P 44 r3.1 r3.2).bind fun r4 =>
 (b_len P #[44] 3 #[r4.1] r4.2).bind fun r5 =>
 (EV P 56 #[r5.1] r5.2).bind fun r6 =>
 (uo P .not r6.1 r6.2).bind fun r7 =>
 cnd r7.1 (
 (vl (.bool false) r7.2).bind fun r8 =>
 some (r8.1, r8.2)) (
 (fa P 46 r1.1 0 r7.2).bind fun r9 =>
 (ld P 44 r9.1 r9.2).bind fun r10 =>
 (b_len P #[44] 3 #[r10.1] r10.2).bind fun r11 =>
 (vl (.int .i64 0) r11.2).bind fun r12 =>
 impl_ChainOk_l1 (ups (env0 #[x0]) [(1, r1.1), (2, r2.1), (7, r3.1), (8, r4.1), (9, r5.1), (10, r6.1), (11, r7.1), (12, r9.1), (13, r10.1), (14, r11.1), (15, r12.1)]) r12.2) := by kernel_rfl
noncomputable def impl_logOk_l1 (e : Env) (w : World) : Option (Value × World) := exC P (EV P) 47 36 (.loop (cA (cA (cB (cA (cB (bodyOf P 47))))))) e w (kBlock 0 (kSeq P (EV P) 47 36 (cB (cB (bodyOf P 47))) (kFn P (fnOf P 47))))
theorem impl_logOk_l1_eq (e : Env) (w : World) : impl_logOk_l1 e w =
 (bo P .lss 3 (.tmp 9) (.tmp 8) (e 9) (e 8) w).bind fun r1 =>
 cnd r1.1 (
 (vl (e 9) r1.2).bind fun r2 =>
 (ia P 47 (e 7) (e 9) r2.2).bind fun r3 =>
 (ld P 69 r3.1 r3.2).bind fun r4 =>
 (al P 69 r4.2).bind fun r5 =>
 (vl r2.1 r5.2).bind fun r6 =>
 (st P 69 r5.1 r4.1 r6.2).bind fun r7 =>
 (ld P 69 r5.1 (dw r7.2)).bind fun r9 =>
 ifP (r9.2 = (dw r7.2)) <|
 (EV P 89 #[r9.1] (dw r7.2)).bind fun r10 =>
 ifP (True ∧ True) <|
 (uo P .not r10.1 r10.2).bind fun r11 =>
 ifP (r11.2 = r10.2) <|
 (vl r11.1 r10.2).bind fun r12 =>
 ifP (r12.2 = r10.2) <|
 (gif r12.1 false (fa P 69 r5.1 1 r10.2) r10.2).bind fun r13 =>
 ifP (r13.2 = r10.2) <|
 (gif r12.1 false (fa P 64 r13.1 1 r10.2) r10.2).bind fun r14 =>
 ifP (r14.2 = r10.2) <|
 (gif r12.1 false (ld P 3 r14.1 r10.2) r10.2).bind fun r15 =>
 ifP (r15.2 = r10.2) <|
 (gif r12.1 false (vl (e 1) r10.2) r10.2).bind fun r16 =>
 ifP (r16.2 = r10.2) <|
 (gif r12.1 false (bo P .neq 3 (.tmp 20) (.tmp 21) r15.1 r16.1 r10.2) r10.2).bind fun r17 =>
 ifP (r17.2 = r10.2) <|
 (pickV r12.1 (.bool true) r17.1 r10.2).bind fun r18 =>
 ifP (r18.2 = r10.2) <|
 (vl r18.1 r10.2).bind fun r19 =>
 ifP (r19.2 = r10.2) <|
 (gif r19.1 false (vl (e 0) r10.2) r10.2).bind fun r20 =>
 ifP (r20.2 = r10.2) <|
 (gif r19.1 false (vl r6.1 r10.2) r10.2).bind fun r21 =>
 ifP (r21.2 = r10.2) <|
 (gif r19.1 false (sl P 47 r20.1 none (some r21.1) none r10.2) r10.2).bind fun r22 =>
 ifP (r22.2 = r10.2) <|
 (gif r19.1 false (fa P 69 r5.1 1 r10.2) r10.2).bind fun r23 =>
 ifP (r23.2 = r10.2) <|
 (gif r19.1 false (ld P 64 r23.1 r10.2) r10.2).bind fun r24 =>
 ifP (r24.2 = r10.2) <|
 (gif r19.1 false (EV P 92 #[r22.1, r24.1] r10.2) r10.2).bind fun r25 =>
 ifP (True ∧ True ∧ True ∧ True ∧ True ∧ True ∧ True ∧ True ∧ True ∧ True) <|
 (pickV r19.1 (.bool true) r25.1 r25.2).bind fun r26 =>
 ifP (r26.2 = r25.2) <|
 cnd r26.1 (
 (vl (.bool false) r25.2).bind fun r27 =>
 some (r27.1, r27.2)) (
 (bo P .add 3 (.tmp 9) (.const (.int .i64 1)) (e 9) (.int .i64 1) r25.2).bind fun r28 =>
 (vl r28.1 r28.2).bind fun r29 =>
 impl_logOk_l1 (ups e [(10, r1.1), (11, r2.1), (12, r3.1), (13, r4.1), (6, r5.1), (5, r6.1), (14, r9.1), (15, r10.1), (16, r11.1), (17, r12.1), (18, r13.1), (19, r14.1), (20, r15.1), (21, r16.1), (22, r17.1), (23, r18.1), (24, r19.1), (25, r20.1), (26, r21.1), (27, r22.1), (28, r23.1), (29, r24.1), (30, r25.1), (31, r26.1), (32, r28.1), (9, r29.1)]) r29.2)) (
 (vl (e 0) r1.2).bind fun r30 =>
 (b_len P #[47] 3 #[r30.1] r30.2).bind fun r31 =>
 (bo P .leq 3 (.tmp 34) (.const (.int .i64 60)) r31.1 (.int .i64 60) r31.2).bind fun r32 =>
 (vl r32.1 r32.2).bind fun r33 =>
 some (r33.1, r33.2)) := (exC_loop P (EV P) 47 36 (cA (cA (cB (cA (cB (bodyOf P 47)))))) e w (kBlock 0 (kSeq P (EV P) 47 36 (cB (cB (bodyOf P 47))) (kFn P (fnOf P 47))))).trans (by kernel_rfl)
theorem impl_logOk_fn (x0 x1 : Value) (w : World) : fnC P (EV P) 47 #[x0, x1] w =
 (vl (.bool false) w).bind fun r1 =>
 (vl x0 r1.2).bind fun r2 =>
 (b_len P #[47] 3 #[r2.1] r2.2).bind fun r3 =>
 (vl (.int .i64 0) r3.2).bind fun r4 =>
 impl_logOk_l1 (ups (env0 #[x0, x1]) [(4, r1.1), (7, r2.1), (8, r3.1), (9, r4.1)]) r4.2 := by kernel_rfl
theorem impl_Chain_tail_fn (x0 : Value) (w : World) : fnC P (EV P) 48 #[x0] w =
 (al P 91 w).bind fun r1 =>
 (vl x0 (dw r1.2)).bind fun r3 =>
 ifP (r3.2 = (dw r1.2)) <|
 (nk P r3.1 (dw r1.2)).bind fun r4 =>
 ifP (r4.2 = (dw r1.2)) <|
 (fa P 46 r4.1 0 (dw r1.2)).bind fun r5 =>
 ifP (r5.2 = (dw r1.2)) <|
 (ld P 44 r5.1 (dw r1.2)).bind fun r6 =>
 ifP (r6.2 = (dw r1.2)) <|
 (vl x0 (dw r1.2)).bind fun r7 =>
 ifP (r7.2 = (dw r1.2)) <|
 (nk P r7.1 (dw r1.2)).bind fun r8 =>
 ifP (r8.2 = (dw r1.2)) <|
 (fa P 46 r8.1 0 (dw r1.2)).bind fun r9 =>
 ifP (r9.2 = (dw r1.2)) <|
 (ld P 44 r9.1 (dw r1.2)).bind fun r10 =>
 ifP (r10.2 = (dw r1.2)) <|
 (b_len P #[44] 3 #[r10.1] (dw r1.2)).bind fun r11 =>
 ifP (r11.2 = (dw r1.2)) <|
 (bo P .sub 3 (.tmp 11) (.const (.int .i64 1)) r11.1 (.int .i64 1) (dw r1.2)).bind fun r12 =>
 ifP (r12.2 = (dw r1.2)) <|
 (ia P 44 r6.1 r12.1 (dw r1.2)).bind fun r13 =>
 ifP (r13.2 = (dw r1.2)) <|
 (fa P 95 r13.1 0 (dw r1.2)).bind fun r14 =>
 ifP (r14.2 = (dw r1.2)) <|
 (ld P 91 r14.1 (dw r1.2)).bind fun r15 =>
 ifP (r15.2 = (dw r1.2)) <|
 (st P 91 r1.1 r15.1 (dw r1.2)).bind fun r16 =>
 ifP (True ∧ True ∧ True ∧ True ∧ True ∧ True ∧ True ∧ True ∧ True ∧ True ∧ True ∧ True) <|
 ((ld P 91 r1.1 r16.2).bind fun r17 => ifP (r17.2 = r16.2) (some r17.1)).bind fun v18 =>
 some (v18, r16.2) := by kernel_rfl
noncomputable def impl_Store_tags_l1 (e : Env) (w : World) : Option (Value × World) := exC P (EV P) 49 23 (.loop (cA (cA (cB (cA (cB (cB (bodyOf P 49)))))))) e w (kBlock 0 (kSeq P (EV P) 49 23 (cB (cB (cB (bodyOf P 49)))) (kFn P (fnOf P 49))))
theorem impl_Store_tags_l1_eq (e : Env) (w : World) : impl_Store_tags_l1 e w =
 (bo P .lss 3 (.tmp 10) (.tmp 9) (e 10) (e 9) w).bind fun r1 =>
 cnd r1.1 (
 (vl (e 10) r1.2).bind fun r2 =>
 (ia P 47 (e 8) (e 10) r2.2).bind fun r3 =>
 (ld P 69 r3.1 r3.2).bind fun r4 =>
 (al P 69 r4.2).bind fun r5 =>
 (vl r2.1 r5.2).bind fun r6 =>
 (st P 69 r5.1 r4.1 r6.2).bind fun r7 =>
 (fa P 62 (e 3) 0 r7.2).bind fun r8 =>
 (ld P 60 r8.1 r8.2).bind fun r9 =>
 (vl r6.1 r9.2).bind fun r10 =>
 (fa P 69 r5.1 1 r10.2).bind fun r11 =>
 (ld P 64 r11.1 r11.2).bind fun r12 =>
 (ia P 60 r9.1 r10.1 r12.2).bind fun r13 =>
 (st P 64 r13.1 r12.1 r13.2).bind fun r14 =>
 (bo P .add 3 (.tmp 10) (.const (.int .i64 1)) (e 10) (.int .i64 1) r14.2).bind fun r15 =>
 (vl r15.1 r15.2).bind fun r16 =>
 impl_Store_tags_l1 (ups e [(11, r1.1), (12, r2.1), (13, r3.1), (14, r4.1), (5, r5.1), (4, r6.1), (15, r8.1), (16, r9.1), (17, r10.1), (18, r11.1), (19, r12.1), (20, r13.1), (21, r15.1), (10, r16.1)]) r16.2) (
 (ld P 62 (e 3) r1.2).bind fun r17 =>
 (st P 62 (e 2) r17.1 r17.2).bind fun r18 =>
 ((ld P 62 (e 2) r18.2).bind fun r19 => ifP (r19.2 = r18.2) (some r19.1)).bind fun v20 =>
 some (v20, r18.2)) := (exC_loop P (EV P) 49 23 (cA (cA (cB (cA (cB (cB (bodyOf P 49))))))) e w (kBlock 0 (kSeq P (EV P) 49 23 (cB (cB (cB (bodyOf P 49)))) (kFn P (fnOf P 49))))).trans (by kernel_rfl)
theorem impl_Store_tags_fn (x0 : Value) (w : World) : fnC P (EV P) 49 #[x0] w =
 (bx P 91 x0 w).bind fun r1 =>
 (al P 62 r1.2).bind fun r2 =>
 (EV P 58 #[] r2.2).bind fun r3 =>
 (al P 62 r3.2).bind fun r4 =>
 (st P 62 r4.1 r3.1 r4.2).bind fun r5 =>
 (fa P 91 r1.1 0 r5.2).bind fun r6 =>
 (ld P 47 r6.1 r6.2).bind fun r7 =>
 (b_len P #[47] 3 #[r7.1] r7.2).bind fun r8 =>
 (vl (.int .i64 0) r8.2).bind fun r9 =>
 impl_Store_tags_l1 (ups (env0 #[x0]) [(1, r1.1), (2, r2.1), (6, r3.1), (3, r4.1), (7, r6.1), (8, r7.1), (9, r8.1), (10, r9.1)]) r9.2 := by kernel_rfl
noncomputable def slices_Concat_Ver_l1 (e : Env) (w : World) : Option (Value × World) := exC P (EV P) 50 36 (.loop (cA (cA (cB (cA (cB (cB (bodyOf P 50)))))))) e w (kBlock 0 (kSeq P (EV P) 50 36 (cB (cB (cB (bodyOf P 50)))) (kFn P (fnOf P 50))))
noncomputable def slices_Concat_Ver_j1 (e : Env) (w : World) : Option (Value × World) := exC P (EV P) 50 36 (cB (cB (cB (cA (cA (cB (cA (cB (cB (bodyOf P 50)))))))))) e w (kLoop P (EV P) 50 36 (cA (cA (cB (cA (cB (cB (bodyOf P 50))))))) (kBlock 0 (kSeq P (EV P) 50 36 (cB (cB (cB (bodyOf P 50)))) (kFn P (fnOf P 50)))))
noncomputable def slices_Concat_Ver_l2 (e : Env) (w : World) : Option (Value × World) := exC P (EV P) 50 36 (.loop (cA (cA (cB (cA (cB (cB (cB (cB (bodyOf P 50)))))))))) e w (kBlock 2 (kSeq P (EV P) 50 36 (cB (cB (cB (cB (cB (bodyOf P 50)))))) (kFn P (fnOf P 50))))
theorem slices_Concat_Ver_l1_eq (e : Env) (w : World) : slices_Concat_Ver_l1 e w =
 (bo P .lss 3 (.tmp 11) (.tmp 10) (e 11) (e 10) w).bind fun r1 =>
 cnd r1.1 (
 (ia P 48 (e 9) (e 11) r1.2).bind fun r2 =>
 (ld P 47 r2.1 r2.2).bind fun r3 =>
 (vl r3.1 r3.2).bind fun r4 =>
 (vl (e 3) r4.2).bind fun r5 =>
 (vl r4.1 r5.2).bind fun r6 =>
 (b_len P #[47] 3 #[r6.1] r6.2).bind fun r7 =>
 (bo P .add 3 (.tmp 15) (.tmp 17) r5.1 r7.1 r7.2).bind fun r8 =>
 (vl r8.1 r8.2).bind fun r9 =>
 (vl r9.1 r9.2).bind fun r10 =>
 (bo P .lss 3 (.tmp 19) (.const (.int .i64 0)) r10.1 (.int .i64 0) r10.2).bind fun r11 =>
 cnd r11.1 (
 (mi P 9 (Go.Value.string { data := #[108, 101, 110, 32, 111, 117, 116, 32, 111, 102, 32, 114, 97, 110, 103, 101] }) r11.2).bind fun r12 =>
 (gn P { dst := none, op := (Go.Op.panic (Go.Operand.tmp 21)), type := 0, pos := "slices.go:496", after := #[{ on := 0, ground := Go.Ground.data }], guard := none } (ups e [(12, r1.1), (13, r2.1), (14, r3.1), (5, r4.1), (15, r5.1), (16, r6.1), (17, r7.1), (18, r8.1), (3, r9.1), (19, r10.1), (20, r11.1), (21, r12.1)]) r12.2).bind fun r13 =>
 slices_Concat_Ver_j1 (ups e [(12, r1.1), (13, r2.1), (14, r3.1), (5, r4.1), (15, r5.1), (16, r6.1), (17, r7.1), (18, r8.1), (3, r9.1), (19, r10.1), (20, r11.1), (21, r12.1)]) r13.2) (
 slices_Concat_Ver_j1 (ups e [(12, r1.1), (13, r2.1), (14, r3.1), (5, r4.1), (15, r5.1), (16, r6.1), (17, r7.1), (18, r8.1), (3, r9.1), (19, r10.1), (20, r11.1)]) r11.2)) (
 (vl (e 3) r1.2).bind fun r14 =>
 (EV P 93 #[(Go.Value.slice none 0 0), r14.1] r14.2).bind fun r15 =>
 (vl r15.1 r15.2).bind fun r16 =>
 (vl (e 0) r16.2).bind fun r17 =>
 (b_len P #[48] 3 #[r17.1] r17.2).bind fun r18 =>
 (vl (.int .i64 0) r18.2).bind fun r19 =>
 slices_Concat_Ver_l2 (ups e [(12, r1.1), (23, r14.1), (24, r15.1), (6, r16.1), (25, r17.1), (26, r18.1), (27, r19.1)]) r19.2) := (exC_loop P (EV P) 50 36 (cA (cA (cB (cA (cB (cB (bodyOf P 50))))))) e w (kBlock 0 (kSeq P (EV P) 50 36 (cB (cB (cB (bodyOf P 50)))) (kFn P (fnOf P 50))))).trans (by kernel_rfl)
theorem slices_Concat_Ver_j1_eq (e : Env) (w : World) : slices_Concat_Ver_j1 e w =
 (bo P .add 3 (.tmp 11) (.const (.int .i64 1)) (e 11) (.int .i64 1) w).bind fun r1 =>
 (vl r1.1 r1.2).bind fun r2 =>
 slices_Concat_Ver_l1 (ups e [(22, r1.1), (11, r2.1)]) r2.2 := by kernel_rfl
theorem slices_Concat_Ver_l2_eq (e : Env) (w : World) : slices_Concat_Ver_l2 e w =
 (bo P .lss 3 (.tmp 27) (.tmp 26) (e 27) (e 26) w).bind fun r1 =>
 cnd r1.1 (
 (ia P 48 (e 25) (e 27) r1.2).bind fun r2 =>
 (ld P 47 r2.1 r2.2).bind fun r3 =>
 (vl r3.1 r3.2).bind fun r4 =>
 (vl (e 6) r4.2).bind fun r5 =>
 (vl r4.1 r5.2).bind fun r6 =>
 (b_append P #[47, 47] 47 #[r5.1, r6.1] r6.2).bind fun r7 =>
 (vl r7.1 r7.2).bind fun r8 =>
 (bo P .add 3 (.tmp 27) (.const (.int .i64 1)) (e 27) (.int .i64 1) r8.2).bind fun r9 =>
 (vl r9.1 r9.2).bind fun r10 =>
 slices_Concat_Ver_l2 (ups e [(28, r1.1), (29, r2.1), (30, r3.1), (8, r4.1), (31, r5.1), (32, r6.1), (33, r7.1), (6, r8.1), (34, r9.1), (27, r10.1)]) r10.2) (
 (vl (e 6) r1.2).bind fun r11 =>
 (vl r11.1 r11.2).bind fun r12 =>
 some (r12.1, r12.2)) := (exC_loop P (EV P) 50 36 (cA (cA (cB (cA (cB (cB (cB (cB (bodyOf P 50))))))))) e w (kBlock 2 (kSeq P (EV P) 50 36 (cB (cB (cB (cB (cB (bodyOf P 50)))))) (kFn P (fnOf P 50))))).trans (by kernel_rfl)
theorem slices_Concat_Ver_fn (x0 : Value) (w : World) : fnC P (EV P) 50 #[x0] w =
 (vl (Go.Value.slice none 0 0) w).bind fun r1 =>
 (vl (.int .i64 0) r1.2).bind fun r2 =>
 (vl x0 r2.2).bind fun r3 =>
 (b_len P #[48] 3 #[r3.1] r3.2).bind fun r4 =>
 (vl (.int .i64 0) r4.2).bind fun r5 =>
 slices_Concat_Ver_l1 (ups (env0 #[x0]) [(2, r1.1), (3, r2.1), (9, r3.1), (10, r4.1), (11, r5.1)]) r5.2 := by kernel_rfl
noncomputable def impl_Past_under_l1 (e : Env) (w : World) : Option (Value × World) := exC P (EV P) 51 23 (.loop (cA (cA (cB (cA (cB (bodyOf P 51))))))) e w (kBlock 0 (kSeq P (EV P) 51 23 (cB (cB (bodyOf P 51))) (kFn P (fnOf P 51))))
theorem impl_Past_under_l1_eq (e : Env) (w : World) : impl_Past_under_l1 e w =
 (bo P .lss 3 (.tmp 10) (.tmp 9) (e 10) (e 9) w).bind fun r1 =>
 cnd r1.1 (
 (vl (e 10) r1.2).bind fun r2 =>
 (ia P 60 (e 8) (e 10) r2.2).bind fun r3 =>
 (ld P 64 r3.1 r3.2).bind fun r4 =>
 (al P 64 r4.2).bind fun r5 =>
 (vl r2.1 r5.2).bind fun r6 =>
 (st P 64 r5.1 r4.1 r6.2).bind fun r7 =>
 (fa P 62 (e 3) 0 (dw r7.2)).bind fun r9 =>
 ifP (r9.2 = (dw r7.2)) <|
 (ld P 60 r9.1 (dw r7.2)).bind fun r10 =>
 ifP (r10.2 = (dw r7.2)) <|
 (vl r6.1 (dw r7.2)).bind fun r11 =>
 ifP (r11.2 = (dw r7.2)) <|
 (ia P 60 r10.1 r11.1 (dw r7.2)).bind fun r12 =>
 ifP (r12.2 = (dw r7.2)) <|
 (ld P 64 r12.1 (dw r7.2)).bind fun r13 =>
 ifP (r13.2 = (dw r7.2)) <|
 (ld P 64 r5.1 (dw r7.2)).bind fun r14 =>
 ifP (r14.2 = (dw r7.2)) <|
 (EV P 94 #[r13.1, r14.1] (dw r7.2)).bind fun r15 =>
 ifP (True ∧ True ∧ True ∧ True ∧ True ∧ True) <|
 cnd r15.1 (
 (vl (.bool false) r15.2).bind fun r16 =>
 some (r16.1, r16.2)) (
 (bo P .add 3 (.tmp 10) (.const (.int .i64 1)) (e 10) (.int .i64 1) r15.2).bind fun r17 =>
 (vl r17.1 r17.2).bind fun r18 =>
 impl_Past_under_l1 (ups e [(11, r1.1), (12, r2.1), (13, r3.1), (14, r4.1), (6, r5.1), (5, r6.1), (15, r9.1), (16, r10.1), (17, r11.1), (18, r12.1), (19, r13.1), (20, r14.1), (21, r15.1), (22, r17.1), (10, r18.1)]) r18.2)) (
 (vl (.bool true) r1.2).bind fun r19 =>
 some (r19.1, r19.2)) := (exC_loop P (EV P) 51 23 (cA (cA (cB (cA (cB (bodyOf P 51)))))) e w (kBlock 0 (kSeq P (EV P) 51 23 (cB (cB (bodyOf P 51))) (kFn P (fnOf P 51))))).trans (by kernel_rfl)
theorem impl_Past_under_fn (x0 x1 : Value) (w : World) : fnC P (EV P) 51 #[x0, x1] w =
 (bx P 62 x0 w).bind fun r1 =>
 (bx P 62 x1 r1.2).bind fun r2 =>
 (vl (.bool false) r2.2).bind fun r3 =>
 (fa P 62 r1.1 0 r3.2).bind fun r4 =>
 (ld P 60 r4.1 r4.2).bind fun r5 =>
 (b_len P #[60] 3 #[r5.1] r5.2).bind fun r6 =>
 (vl (.int .i64 0) r6.2).bind fun r7 =>
 impl_Past_under_l1 (ups (env0 #[x0, x1]) [(2, r1.1), (3, r2.1), (4, r3.1), (7, r4.1), (8, r5.1), (9, r6.1), (10, r7.1)]) r7.2 := by kernel_rfl
theorem laws_eqChain_fn (x0 x1 : Value) (w : World) : fnC P (EV P) 52 #[x0, x1] w =
 (bx P 46 x0 w).bind fun r1 =>
 (bx P 46 x1 r1.2).bind fun r2 =>
 (vl (.bool false) r2.2).bind fun r3 =>
 (fa P 46 r1.1 0 r3.2).bind fun r4 =>
 (ld P 44 r4.1 r4.2).bind fun r5 =>
 (fa P 46 r2.1 0 r5.2).bind fun r6 =>
 (ld P 44 r6.1 r6.2).bind fun r7 =>
 (EV P 95 #[r5.1, r7.1] r7.2).bind fun r8 =>
 (uo P .not r8.1 r8.2).bind fun r9 =>
 cnd r9.1 (
 (vl (.bool false) r9.2).bind fun r10 =>
 some (r10.1, r10.2)) (
 (vl (.bool true) r9.2).bind fun r11 =>
 some (r11.1, r11.2)) := by kernel_rfl
noncomputable def laws_eqVerS_l1 (e : Env) (w : World) : Option (Value × World) := exC P (EV P) 53 27 (.loop (cA (cA (cB (cA (cB (cB (bodyOf P 53)))))))) e w (kBlock 0 (kSeq P (EV P) 53 27 (cB (cB (cB (bodyOf P 53)))) (kFn P (fnOf P 53))))
theorem laws_eqVerS_l1_eq (e : Env) (w : World) : laws_eqVerS_l1 e w =
 (vl (e 5) w).bind fun r1 =>
 (vl (e 0) r1.2).bind fun r2 =>
 (b_len P #[47] 3 #[r2.1] r2.2).bind fun r3 =>
 (bo P .lss 3 (.tmp 11) (.tmp 13) r1.1 r3.1 r3.2).bind fun r4 =>
 cnd r4.1 (
 (vl (e 0) (dw r4.2)).bind fun r6 =>
 ifP (r6.2 = (dw r4.2)) <|
 (vl (e 5) (dw r4.2)).bind fun r7 =>
 ifP (r7.2 = (dw r4.2)) <|
 (ia P 47 r6.1 r7.1 (dw r4.2)).bind fun r8 =>
 ifP (r8.2 = (dw r4.2)) <|
 (ld P 69 r8.1 (dw r4.2)).bind fun r9 =>
 ifP (r9.2 = (dw r4.2)) <|
 (vl (e 1) (dw r4.2)).bind fun r10 =>
 ifP (r10.2 = (dw r4.2)) <|
 (vl (e 5) (dw r4.2)).bind fun r11 =>
 ifP (r11.2 = (dw r4.2)) <|
 (ia P 47 r10.1 r11.1 (dw r4.2)).bind fun r12 =>
 ifP (r12.2 = (dw r4.2)) <|
 (ld P 69 r12.1 (dw r4.2)).bind fun r13 =>
 ifP (r13.2 = (dw r4.2)) <|
 (EV P 96 #[r9.1, r13.1] (dw r4.2)).bind fun r14 =>
 ifP (True ∧ True ∧ True ∧ True ∧ True) <|
 (uo P .not r14.1 r14.2).bind fun r15 =>
 ifP (r15.2 = r14.2) <|
 cnd r15.1 (
 (vl (.bool false) r14.2).bind fun r16 =>
 some (r16.1, r16.2)) (
 (vl (e 5) r14.2).bind fun r17 =>
 (bo P .add 3 (.tmp 15) (.const (.int .i64 1)) r17.1 (.int .i64 1) r17.2).bind fun r18 =>
 (vl r18.1 r18.2).bind fun r19 =>
 laws_eqVerS_l1 (ups e [(11, r1.1), (12, r2.1), (13, r3.1), (14, r4.1), (17, r6.1), (18, r7.1), (19, r8.1), (20, r9.1), (21, r10.1), (22, r11.1), (23, r12.1), (24, r13.1), (25, r14.1), (26, r15.1), (15, r17.1), (16, r18.1), (5, r19.1)]) r19.2)) (
 (vl (.bool true) r4.2).bind fun r20 =>
 some (r20.1, r20.2)) := (exC_loop P (EV P) 53 27 (cA (cA (cB (cA (cB (cB (bodyOf P 53))))))) e w (kBlock 0 (kSeq P (EV P) 53 27 (cB (cB (cB (bodyOf P 53)))) (kFn P (fnOf P 53))))).trans (by kernel_rfl)
theorem laws_eqVerS_fn (x0 x1 : Value) (w : World) : fnC P (EV P) 53 #[x0, x1] w =
 (vl (.bool false) w).bind fun r1 =>
 (vl x0 r1.2).bind fun r2 =>
 (b_len P #[47] 3 #[r2.1] r2.2).bind fun r3 =>
 (vl x1 r3.2).bind fun r4 =>
 (b_len P #[47] 3 #[r4.1] r4.2).bind fun r5 =>
 (bo P .neq 3 (.tmp 7) (.tmp 9) r3.1 r5.1 r5.2).bind fun r6 =>
 cnd r6.1 (
 (vl (.bool false) r6.2).bind fun r7 =>
 some (r7.1, r7.2)) (
 (vl (.int .i64 0) r6.2).bind fun r8 =>
 laws_eqVerS_l1 (ups (env0 #[x0, x1]) [(4, r1.1), (6, r2.1), (7, r3.1), (8, r4.1), (9, r5.1), (10, r6.1), (5, r8.1)]) r8.2) := by kernel_rfl
noncomputable def laws_eqVerSS_l1 (e : Env) (w : World) : Option (Value × World) := exC P (EV P) 54 27 (.loop (cA (cA (cB (cA (cB (cB (bodyOf P 54)))))))) e w (kBlock 0 (kSeq P (EV P) 54 27 (cB (cB (cB (bodyOf P 54)))) (kFn P (fnOf P 54))))
theorem laws_eqVerSS_l1_eq (e : Env) (w : World) : laws_eqVerSS_l1 e w =
 (vl (e 5) w).bind fun r1 =>
 (vl (e 0) r1.2).bind fun r2 =>
 (b_len P #[48] 3 #[r2.1] r2.2).bind fun r3 =>
 (bo P .lss 3 (.tmp 11) (.tmp 13) r1.1 r3.1 r3.2).bind fun r4 =>
 cnd r4.1 (
 (vl (e 0) (dw r4.2)).bind fun r6 =>
 ifP (r6.2 = (dw r4.2)) <|
 (vl (e 5) (dw r4.2)).bind fun r7 =>
 ifP (r7.2 = (dw r4.2)) <|
 (ia P 48 r6.1 r7.1 (dw r4.2)).bind fun r8 =>
 ifP (r8.2 = (dw r4.2)) <|
 (ld P 47 r8.1 (dw r4.2)).bind fun r9 =>
 ifP (r9.2 = (dw r4.2)) <|
 (vl (e 1) (dw r4.2)).bind fun r10 =>
 ifP (r10.2 = (dw r4.2)) <|
 (vl (e 5) (dw r4.2)).bind fun r11 =>
 ifP (r11.2 = (dw r4.2)) <|
 (ia P 48 r10.1 r11.1 (dw r4.2)).bind fun r12 =>
 ifP (r12.2 = (dw r4.2)) <|
 (ld P 47 r12.1 (dw r4.2)).bind fun r13 =>
 ifP (r13.2 = (dw r4.2)) <|
 (EV P 53 #[r9.1, r13.1] (dw r4.2)).bind fun r14 =>
 ifP (True ∧ True ∧ True ∧ True ∧ True) <|
 (uo P .not r14.1 r14.2).bind fun r15 =>
 ifP (r15.2 = r14.2) <|
 cnd r15.1 (
 (vl (.bool false) r14.2).bind fun r16 =>
 some (r16.1, r16.2)) (
 (vl (e 5) r14.2).bind fun r17 =>
 (bo P .add 3 (.tmp 15) (.const (.int .i64 1)) r17.1 (.int .i64 1) r17.2).bind fun r18 =>
 (vl r18.1 r18.2).bind fun r19 =>
 laws_eqVerSS_l1 (ups e [(11, r1.1), (12, r2.1), (13, r3.1), (14, r4.1), (17, r6.1), (18, r7.1), (19, r8.1), (20, r9.1), (21, r10.1), (22, r11.1), (23, r12.1), (24, r13.1), (25, r14.1), (26, r15.1), (15, r17.1), (16, r18.1), (5, r19.1)]) r19.2)) (
 (vl (.bool true) r4.2).bind fun r20 =>
 some (r20.1, r20.2)) := (exC_loop P (EV P) 54 27 (cA (cA (cB (cA (cB (cB (bodyOf P 54))))))) e w (kBlock 0 (kSeq P (EV P) 54 27 (cB (cB (cB (bodyOf P 54)))) (kFn P (fnOf P 54))))).trans (by kernel_rfl)
theorem laws_eqVerSS_fn (x0 x1 : Value) (w : World) : fnC P (EV P) 54 #[x0, x1] w =
 (vl (.bool false) w).bind fun r1 =>
 (vl x0 r1.2).bind fun r2 =>
 (b_len P #[48] 3 #[r2.1] r2.2).bind fun r3 =>
 (vl x1 r3.2).bind fun r4 =>
 (b_len P #[48] 3 #[r4.1] r4.2).bind fun r5 =>
 (bo P .neq 3 (.tmp 7) (.tmp 9) r3.1 r5.1 r5.2).bind fun r6 =>
 cnd r6.1 (
 (vl (.bool false) r6.2).bind fun r7 =>
 some (r7.1, r7.2)) (
 (vl (.int .i64 0) r6.2).bind fun r8 =>
 laws_eqVerSS_l1 (ups (env0 #[x0, x1]) [(4, r1.1), (6, r2.1), (7, r3.1), (8, r4.1), (9, r5.1), (10, r6.1), (5, r8.1)]) r8.2) := by kernel_rfl
theorem impl_nodesOk_fn (x0 : Value) (w : World) : fnC P (EV P) 56 #[x0] w =
 (vl (.bool false) w).bind fun r1 =>
 (vl x0 r1.2).bind fun r2 =>
 (EV P 45 #[r2.1, (.int .i64 1), (.int .i64 4)] r2.2).bind fun r3 =>
 (vl r3.1 r3.2).bind fun r4 =>
 some (r4.1, r4.2) := by kernel_rfl
theorem impl_PastNone_fn (w : World) : fnC P (EV P) 58 #[] w =
 (al P 62 w).bind fun r1 =>
 (ms P 60 (.int .i64 4) (.int .i64 4) r1.2).bind fun r2 =>
 (bd P 62 #[(0, r2.1)] r2.2).bind fun r3 =>
 (st P 62 r1.1 r3.1 r3.2).bind fun r4 =>
 ((ld P 62 r1.1 r4.2).bind fun r5 => ifP (r5.2 = r4.2) (some r5.1)).bind fun v6 =>
 some (v6, r4.2) := by kernel_rfl
theorem impl_keyOk_fn (x0 : Value) (w : World) : fnC P (EV P) 65 #[x0] w =
 (vl (.bool false) w).bind fun r1 =>
 (vl x0 r1.2).bind fun r2 =>
 (EV P 45 #[r2.1, (.int .i64 0), (.int .i64 3)] r2.2).bind fun r3 =>
 (vl r3.1 r3.2).bind fun r4 =>
 some (r4.1, r4.2) := by kernel_rfl
theorem impl_TagOk_fn (x0 : Value) (w : World) : fnC P (EV P) 66 #[x0] w =
 (bx P 64 x0 w).bind fun r1 =>
 (vl (.bool false) r1.2).bind fun r2 =>
 (ld P 64 r1.1 r2.2).bind fun r3 =>
 (bd P 64 #[] r3.2).bind fun r4 =>
 (bo P .eql 64 (.tmp 3) (.tmp 4) r3.1 r4.1 r4.2).bind fun r5 =>
 (vl r5.1 r5.2).bind fun r6 =>
 (gif r6.1 false (fa P 64 r1.1 0 r6.2) r6.2).bind fun r7 =>
 (gif r6.1 false (ld P 3 r7.1 r7.2) r7.2).bind fun r8 =>
 (gif r6.1 false (EV P 45 #[r8.1, (.int .i64 1), (.int .i64 999)] r8.2) r8.2).bind fun r9 =>
 (gif r6.1 false (vl r9.1 r9.2) r9.2).bind fun r10 =>
 (gif r10.1 true (fa P 64 r1.1 1 r10.2) r10.2).bind fun r11 =>
 (gif r10.1 true (ld P 3 r11.1 r11.2) r11.2).bind fun r12 =>
 (gif r10.1 true (EV P 44 #[r12.1] r12.2) r12.2).bind fun r13 =>
 (gif r6.1 false (pickV r10.1 r13.1 (.bool false) r13.2) r13.2).bind fun r14 =>
 (pickV r6.1 (.bool true) r14.1 r14.2).bind fun r15 =>
 (vl r15.1 r15.2).bind fun r16 =>
 some (r16.1, r16.2) := by kernel_rfl
noncomputable def slices_EqualFunc_Ver_l1 (e : Env) (w : World) : Option (Value × World) := exC P (EV P) 67 32 (.loop (cA (cA (cB (cA (cB (cB (bodyOf P 67)))))))) e w (kBlock 0 (kSeq P (EV P) 67 32 (cB (cB (cB (bodyOf P 67)))) (kFn P (fnOf P 67))))
theorem slices_EqualFunc_Ver_l1_eq (e : Env) (w : World) : slices_EqualFunc_Ver_l1 e w =
 (bo P .lss 3 (.tmp 17) (.tmp 16) (e 17) (e 16) w).bind fun r1 =>
 cnd r1.1 (
 (vl (e 17) r1.2).bind fun r2 =>
 (ia P 47 (e 15) (e 17) r2.2).bind fun r3 =>
 (ld P 69 r3.1 r3.2).bind fun r4 =>
 (al P 69 r4.2).bind fun r5 =>
 (vl r2.1 r5.2).bind fun r6 =>
 (st P 69 r5.1 r4.1 r6.2).bind fun r7 =>
 (vl (e 1) r7.2).bind fun r8 =>
 (vl r6.1 r8.2).bind fun r9 =>
 (ia P 47 r8.1 r9.1 r9.2).bind fun r10 =>
 (ld P 69 r10.1 r10.2).bind fun r11 =>
 (al P 69 r11.2).bind fun r12 =>
 (st P 69 r12.1 r11.1 r12.2).bind fun r13 =>
 (vl (e 2) r13.2).bind fun r14 =>
 (ld P 69 r5.1 r14.2).bind fun r15 =>
 (ld P 69 r12.1 r15.2).bind fun r16 =>
 (clo P r14.1 #[r15.1, r16.1] r16.2).bind fun r17 =>
 (uo P .not r17.1 r17.2).bind fun r18 =>
 cnd r18.1 (
 (vl (.bool false) r18.2).bind fun r19 =>
 some (r19.1, r19.2)) (
 (bo P .add 3 (.tmp 17) (.const (.int .i64 1)) (e 17) (.int .i64 1) r18.2).bind fun r20 =>
 (vl r20.1 r20.2).bind fun r21 =>
 slices_EqualFunc_Ver_l1 (ups e [(18, r1.1), (19, r2.1), (20, r3.1), (21, r4.1), (8, r5.1), (7, r6.1), (22, r8.1), (23, r9.1), (24, r10.1), (25, r11.1), (9, r12.1), (26, r14.1), (27, r15.1), (28, r16.1), (29, r17.1), (30, r18.1), (31, r20.1), (17, r21.1)]) r21.2)) (
 (vl (.bool true) r1.2).bind fun r22 =>
 some (r22.1, r22.2)) := (exC_loop P (EV P) 67 32 (cA (cA (cB (cA (cB (cB (bodyOf P 67))))))) e w (kBlock 0 (kSeq P (EV P) 67 32 (cB (cB (cB (bodyOf P 67)))) (kFn P (fnOf P 67))))).trans (by kernel_rfl)
theorem slices_EqualFunc_Ver_fn (x0 x1 x2 : Value) (w : World) : fnC P (EV P) 67 #[x0, x1, x2] w =
 (vl (.bool false) w).bind fun r1 =>
 (vl x0 r1.2).bind fun r2 =>
 (b_len P #[47] 3 #[r2.1] r2.2).bind fun r3 =>
 (vl x1 r3.2).bind fun r4 =>
 (b_len P #[47] 3 #[r4.1] r4.2).bind fun r5 =>
 (bo P .neq 3 (.tmp 11) (.tmp 13) r3.1 r5.1 r5.2).bind fun r6 =>
 cnd r6.1 (
 (vl (.bool false) r6.2).bind fun r7 =>
 some (r7.1, r7.2)) (
 (vl x0 r6.2).bind fun r8 =>
 (b_len P #[47] 3 #[r8.1] r8.2).bind fun r9 =>
 (vl (.int .i64 0) r9.2).bind fun r10 =>
 slices_EqualFunc_Ver_l1 (ups (env0 #[x0, x1, x2]) [(6, r1.1), (10, r2.1), (11, r3.1), (12, r4.1), (13, r5.1), (14, r6.1), (15, r8.1), (16, r9.1), (17, r10.1)]) r10.2) := by kernel_rfl
theorem impl_Ver_same_fn (x0 x1 : Value) (w : World) : fnC P (EV P) 68 #[x0, x1] w =
 (bx P 69 x0 w).bind fun r1 =>
 (bx P 69 x1 r1.2).bind fun r2 =>
 (vl (.bool false) r2.2).bind fun r3 =>
 (fa P 69 r1.1 0 r3.2).bind fun r4 =>
 (ld P 3 r4.1 r4.2).bind fun r5 =>
 (fa P 69 r2.1 0 r5.2).bind fun r6 =>
 (ld P 3 r6.1 r6.2).bind fun r7 =>
 (bo P .eql 3 (.tmp 6) (.tmp 8) r5.1 r7.1 r7.2).bind fun r8 =>
 (vl r8.1 r8.2).bind fun r9 =>
 (gif r9.1 true (fa P 69 r1.1 1 r9.2) r9.2).bind fun r10 =>
 (gif r9.1 true (ld P 64 r10.1 r10.2) r10.2).bind fun r11 =>
 (gif r9.1 true (fa P 69 r2.1 1 r11.2) r11.2).bind fun r12 =>
 (gif r9.1 true (ld P 64 r12.1 r12.2) r12.2).bind fun r13 =>
 (gif r9.1 true (bo P .eql 64 (.tmp 12) (.tmp 14) r11.1 r13.1 r13.2) r13.2).bind fun r14 =>
 (pickV r9.1 r14.1 (.bool false) r14.2).bind fun r15 =>
 (vl r15.1 r15.2).bind fun r16 =>
 (gif r16.1 true (fa P 69 r1.1 2 r16.2) r16.2).bind fun r17 =>
 (gif r16.1 true (fa P 62 r17.1 0 r17.2) r17.2).bind fun r18 =>
 (gif r16.1 true (ld P 60 r18.1 r18.2) r18.2).bind fun r19 =>
 (gif r16.1 true (fa P 69 r2.1 2 r19.2) r19.2).bind fun r20 =>
 (gif r16.1 true (fa P 62 r20.1 0 r20.2) r20.2).bind fun r21 =>
 (gif r16.1 true (ld P 60 r21.1 r21.2) r21.2).bind fun r22 =>
 (gif r16.1 true (EV P 101 #[r19.1, r22.1] r22.2) r22.2).bind fun r23 =>
 (pickV r16.1 r23.1 (.bool false) r23.2).bind fun r24 =>
 (vl r24.1 r24.2).bind fun r25 =>
 (gif r25.1 true (fa P 69 r1.1 3 r25.2) r25.2).bind fun r26 =>
 (gif r25.1 true (ld P 9 r26.1 r26.2) r26.2).bind fun r27 =>
 (gif r25.1 true (fa P 69 r2.1 3 r27.2) r27.2).bind fun r28 =>
 (gif r25.1 true (ld P 9 r28.1 r28.2) r28.2).bind fun r29 =>
 (gif r25.1 true (bo P .eql 9 (.tmp 28) (.tmp 30) r27.1 r29.1 r29.2) r29.2).bind fun r30 =>
 (pickV r25.1 r30.1 (.bool false) r30.2).bind fun r31 =>
 (vl r31.1 r31.2).bind fun r32 =>
 (gif r32.1 true (fa P 69 r1.1 4 r32.2) r32.2).bind fun r33 =>
 (gif r32.1 true (ld P 4 r33.1 r33.2) r33.2).bind fun r34 =>
 (gif r32.1 true (fa P 69 r2.1 4 r34.2) r34.2).bind fun r35 =>
 (gif r32.1 true (ld P 4 r35.1 r35.2) r35.2).bind fun r36 =>
 (gif r32.1 true (bo P .eql 4 (.tmp 35) (.tmp 37) r34.1 r36.1 r36.2) r36.2).bind fun r37 =>
 (pickV r32.1 r37.1 (.bool false) r37.2).bind fun r38 =>
 (vl r38.1 r38.2).bind fun r39 =>
 some (r39.1, r39.2) := by kernel_rfl
theorem impl_PastOk_fn (x0 : Value) (w : World) : fnC P (EV P) 70 #[x0] w =
 (bx P 62 x0 w).bind fun r1 =>
 (vl (.bool false) r1.2).bind fun r2 =>
 (fa P 62 r1.1 0 r2.2).bind fun r3 =>
 (ld P 60 r3.1 r3.2).bind fun r4 =>
 (b_len P #[60] 3 #[r4.1] r4.2).bind fun r5 =>
 (bo P .eql 3 (.tmp 5) (.const (.int .i64 4)) r5.1 (.int .i64 4) r5.2).bind fun r6 =>
 (vl r6.1 r6.2).bind fun r7 =>
 (gif r7.1 true (fa P 62 r1.1 0 r7.2) r7.2).bind fun r8 =>
 (gif r7.1 true (ld P 60 r8.1 r8.2) r8.2).bind fun r9 =>
 (gif r7.1 true (EV P 102 #[r9.1, (.func (.func 103) #[] #[])] r9.2) r9.2).bind fun r10 =>
 (gif r7.1 true (uo P .not r10.1 r10.2) r10.2).bind fun r11 =>
 (pickV r7.1 r11.1 (.bool false) r11.2).bind fun r12 =>
 (vl r12.1 r12.2).bind fun r13 =>
 some (r13.1, r13.2) := by kernel_rfl
theorem impl_Store_same_fn (x0 x1 : Value) (w : World) : fnC P (EV P) 78 #[x0, x1] w =
 (bx P 91 x0 w).bind fun r1 =>
 (bx P 91 x1 r1.2).bind fun r2 =>
 (vl (.bool false) r2.2).bind fun r3 =>
 (fa P 91 r1.1 0 r3.2).bind fun r4 =>
 (ld P 47 r4.1 r4.2).bind fun r5 =>
 (fa P 91 r2.1 0 r5.2).bind fun r6 =>
 (ld P 47 r6.1 r6.2).bind fun r7 =>
 (EV P 67 #[r5.1, r7.1, (.func (.func 68) #[] #[])] r7.2).bind fun r8 =>
 (vl r8.1 r8.2).bind fun r9 =>
 some (r9.1, r9.2) := by kernel_rfl
noncomputable def laws_szNodeS_l1 (e : Env) (w : World) : Option (Value × World) := exC P (EV P) 79 27 (.loop (cA (cA (cB (cA (cB (cB (cB (bodyOf P 79))))))))) e w (kBlock 0 (kSeq P (EV P) 79 27 (cB (cB (cB (cB (bodyOf P 79))))) (kFn P (fnOf P 79))))
theorem laws_szNodeS_l1_eq (e : Env) (w : World) : laws_szNodeS_l1 e w =
 (vl (e 5) w).bind fun r1 =>
 (vl (e 0) r1.2).bind fun r2 =>
 (b_len P #[35] 3 #[r2.1] r2.2).bind fun r3 =>
 (bo P .lss 3 (.tmp 12) (.tmp 14) r1.1 r3.1 r3.2).bind fun r4 =>
 cnd r4.1 (
 (vl (e 0) r4.2).bind fun r5 =>
 (vl (e 5) r5.2).bind fun r6 =>
 (ia P 35 r5.1 r6.1 r6.2).bind fun r7 =>
 (ld P 148 r7.1 r7.2).bind fun r8 =>
 (vl (e 1) r8.2).bind fun r9 =>
 (EV P 108 #[r8.1, r9.1] r9.2).bind fun r10 =>
 (vl r10.1 r10.2).bind fun r11 =>
 (vl r11.1 r11.2).bind fun r12 =>
 (bo P .lss 3 (.tmp 24) (.const (.int .i64 0)) r12.1 (.int .i64 0) r12.2).bind fun r13 =>
 cnd r13.1 (
 (vl (.int .i64 (-1)) r13.2).bind fun r14 =>
 some (r14.1, r14.2)) (
 (vl (e 5) r13.2).bind fun r15 =>
 (bo P .add 3 (.tmp 16) (.const (.int .i64 1)) r15.1 (.int .i64 1) r15.2).bind fun r16 =>
 (vl r16.1 r16.2).bind fun r17 =>
 laws_szNodeS_l1 (ups e [(12, r1.1), (13, r2.1), (14, r3.1), (15, r4.1), (18, r5.1), (19, r6.1), (20, r7.1), (21, r8.1), (22, r9.1), (23, r10.1), (1, r11.1), (24, r12.1), (25, r13.1), (16, r15.1), (17, r16.1), (5, r17.1)]) r17.2)) (
 (vl (e 1) r4.2).bind fun r18 =>
 (vl r18.1 r18.2).bind fun r19 =>
 some (r19.1, r19.2)) := (exC_loop P (EV P) 79 27 (cA (cA (cB (cA (cB (cB (cB (bodyOf P 79)))))))) e w (kBlock 0 (kSeq P (EV P) 79 27 (cB (cB (cB (cB (bodyOf P 79))))) (kFn P (fnOf P 79))))).trans (by kernel_rfl)
theorem laws_szNodeS_fn (x0 x1 : Value) (w : World) : fnC P (EV P) 79 #[x0, x1] w =
 (vl (.int .i64 0) w).bind fun r1 =>
 (vl x1 r1.2).bind fun r2 =>
 (vl x0 r2.2).bind fun r3 =>
 (b_len P #[35] 3 #[r3.1] r3.2).bind fun r4 =>
 (bo P .sub 3 (.tmp 6) (.tmp 8) r2.1 r4.1 r4.2).bind fun r5 =>
 (vl r5.1 r5.2).bind fun r6 =>
 (vl r6.1 r6.2).bind fun r7 =>
 (bo P .lss 3 (.tmp 10) (.const (.int .i64 0)) r7.1 (.int .i64 0) r7.2).bind fun r8 =>
 cnd r8.1 (
 (vl (.int .i64 (-1)) r8.2).bind fun r9 =>
 some (r9.1, r9.2)) (
 (vl (.int .i64 0) r8.2).bind fun r10 =>
 laws_szNodeS_l1 (ups (env0 #[x0, x1]) [(4, r1.1), (6, r2.1), (7, r3.1), (8, r4.1), (9, r5.1), (1, r6.1), (10, r7.1), (11, r8.1), (5, r10.1)]) r10.2) := by kernel_rfl
theorem laws_szVer_fn (x0 x1 : Value) (w : World) : fnC P (EV P) 80 #[x0, x1] w =
 (bx P 125 x0 w).bind fun r1 =>
 (vl (.int .i64 0) r1.2).bind fun r2 =>
 (fa P 125 r1.1 2 r2.2).bind fun r3 =>
 (ld P 123 r3.1 r3.2).bind fun r4 =>
 (vl x1 r4.2).bind fun r5 =>
 (EV P 109 #[r4.1, r5.1] r5.2).bind fun r6 =>
 (vl r6.1 r6.2).bind fun r7 =>
 (vl r7.1 r7.2).bind fun r8 =>
 (bo P .lss 3 (.tmp 9) (.const (.int .i64 0)) r8.1 (.int .i64 0) r8.2).bind fun r9 =>
 cnd r9.1 (
 (vl (.int .i64 (-1)) r9.2).bind fun r10 =>
 some (r10.1, r10.2)) (
 (vl r7.1 r9.2).bind fun r11 =>
 (fa P 125 r1.1 3 r11.2).bind fun r12 =>
 (ld P 9 r12.1 r12.2).bind fun r13 =>
 (b_len P #[9] 3 #[r13.1] r13.2).bind fun r14 =>
 (bo P .sub 3 (.tmp 11) (.tmp 14) r11.1 r14.1 r14.2).bind fun r15 =>
 (vl r15.1 r15.2).bind fun r16 =>
 (vl r16.1 r16.2).bind fun r17 =>
 (bo P .lss 3 (.tmp 16) (.const (.int .i64 0)) r17.1 (.int .i64 0) r17.2).bind fun r18 =>
 cnd r18.1 (
 (vl (.int .i64 (-1)) r18.2).bind fun r19 =>
 some (r19.1, r19.2)) (
 (vl r16.1 r18.2).bind fun r20 =>
 (vl r20.1 r20.2).bind fun r21 =>
 some (r21.1, r21.2))) := by kernel_rfl
end Go.Proofs.YtggmfmanpjcjkaaGreat.X
