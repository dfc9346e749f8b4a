/- A part of the proof: an evaluator of the model, its laws, and contracts of functions; no condition. -/
import Derived.Test.YtjagkbamkohnoaaEvT
set_option linter.unusedVariables false
set_option maxRecDepth 100000
namespace Go.Proofs.Ytjagkbamkohnoaa.X
open Go Go.Ev
noncomputable def laws_FnChainDrain_l1 (e : Env) (w : World) : Option (Value × World) := exC P (EV P) 4 106 (.loop (cA (cA (cB (cA (cB (cB (cB (cB (cB (cB (cB (Yi P 4))))))))))))) e w (Yj 0 (kSeq P (EV P) 4 106 (cB (cB (cB (cB (cB (cB (cB (cB (Yi P 4))))))))) (kFn P (fnOf P 4))))
noncomputable def laws_FnChainDrain_l2 (e : Env) (w : World) : Option (Value × World) := exC P (EV P) 4 106 (.loop (cA (cA (cB (cA (cA (cB (cA (cA (cB (cA (cB (cB (cB (cB (cB (cB (cB (Yi P 4))))))))))))))))))) e w (Yj 2 (Yj 1 (kSeq P (EV P) 4 106 (cB (cB (cA (cA (cB (cA (cB (cB (cB (cB (cB (cB (cB (Yi P 4)))))))))))))) (kLoop P (EV P) 4 106 (cA (cA (cB (cA (cB (cB (cB (cB (cB (cB (cB (Yi P 4)))))))))))) (Yj 0 (kSeq P (EV P) 4 106 (cB (cB (cB (cB (cB (cB (cB (cB (Yi P 4))))))))) (kFn P (fnOf P 4))))))))
noncomputable def laws_FnChainDrain_l3 (e : Env) (w : World) : Option (Value × World) := exC P (EV P) 4 106 (.loop (cA (cA (cB (cA (cB (cB (cB (cB (cB (cB (cB (cB (Yi P 4)))))))))))))) e w (Yj 4 (kSeq P (EV P) 4 106 (cB (cB (cB (cB (cB (cB (cB (cB (cB (Yi P 4)))))))))) (kFn P (fnOf P 4))))
theorem laws_FnChainDrain_l1_eq (e : Env) (w : World) : laws_FnChainDrain_l1 e w =
 (vl (e 10) w).bind fun r1 =>
 (bo P .lss 3 (.tmp 56) (.const (.int .i64 24)) r1.1 (.int .i64 24) r1.2).bind fun r2 =>
 cnd r2.1 (
 (fa P 25 (e 3) 0 r2.2).bind fun r3 =>
 (ld P 23 r3.1 r3.2).bind fun r4 =>
 (Yo P #[23] 3 #[r4.1] r4.2).bind fun r5 =>
 (bo P .sub 3 (.tmp 62) (.const (.int .i64 1)) r5.1 (.int .i64 1) r5.2).bind fun r6 =>
 (vl r6.1 r6.2).bind fun r7 =>
 laws_FnChainDrain_l2 (ups e [(56, r1.1), (57, r2.1), (60, r3.1), (61, r4.1), (62, r5.1), (63, r6.1), (11, r7.1)]) r7.2) (
 (vl (.int .i64 0) r2.2).bind fun r8 =>
 laws_FnChainDrain_l3 (ups e [(56, r1.1), (57, r2.1), (12, r8.1)]) r8.2) := (exC_loop P (EV P) 4 106 (cA (cA (cB (cA (cB (cB (cB (cB (cB (cB (cB (Yi P 4)))))))))))) e w (Yj 0 (kSeq P (EV P) 4 106 (cB (cB (cB (cB (cB (cB (cB (cB (Yi P 4))))))))) (kFn P (fnOf P 4))))).trans (by kernel_rfl)
theorem laws_FnChainDrain_l2_eq (e : Env) (w : World) : laws_FnChainDrain_l2 e w =
 (vl (e 11) w).bind fun r1 =>
 (bo P .geq 3 (.tmp 64) (.const (.int .i64 0)) r1.1 (.int .i64 0) r1.2).bind fun r2 =>
 cnd r2.1 (
 (ld P 25 (e 9) r2.2).bind fun r3 =>
 (vl (e 11) r3.2).bind fun r4 =>
 (EV P 18 #[r3.1, r4.1] r4.2).bind fun r5 =>
 (vl r5.1 r5.2).bind fun r6 =>
 (xt P r6.1 0 r6.2).bind fun r7 =>
 (xt P r6.1 1 r7.2).bind fun r8 =>
 (st P 25 (e 9) r7.1 r8.2).bind fun r9 =>
 (vl (e 11) r9.2).bind fun r10 =>
 (bo P .sub 3 (.tmp 66) (.const (.int .i64 1)) r10.1 (.int .i64 1) r10.2).bind fun r11 =>
 (vl r11.1 r11.2).bind fun r12 =>
 laws_FnChainDrain_l2 (ups e [(64, r1.1), (65, r2.1), (69, r3.1), (70, r4.1), (71, r5.1), (68, r6.1), (72, r7.1), (73, r8.1), (66, r10.1), (67, r11.1), (11, r12.1)]) r12.2) (
 (vl (e 10) r2.2).bind fun r13 =>
 (bo P .add 3 (.tmp 58) (.const (.int .i64 1)) r13.1 (.int .i64 1) r13.2).bind fun r14 =>
 (vl r14.1 r14.2).bind fun r15 =>
 laws_FnChainDrain_l1 (ups e [(64, r1.1), (65, r2.1), (58, r13.1), (59, r14.1), (10, r15.1)]) r15.2) := (exC_loop P (EV P) 4 106 (cA (cA (cB (cA (cA (cB (cA (cA (cB (cA (cB (cB (cB (cB (cB (cB (cB (Yi P 4)))))))))))))))))) e w (Yj 2 (Yj 1 (kSeq P (EV P) 4 106 (cB (cB (cA (cA (cB (cA (cB (cB (cB (cB (cB (cB (cB (Yi P 4)))))))))))))) (kLoop P (EV P) 4 106 (cA (cA (cB (cA (cB (cB (cB (cB (cB (cB (cB (Yi P 4)))))))))))) (Yj 0 (kSeq P (EV P) 4 106 (cB (cB (cB (cB (cB (cB (cB (cB (Yi P 4))))))))) (kFn P (fnOf P 4))))))))).trans (by kernel_rfl)
theorem laws_FnChainDrain_l3_eq (e : Env) (w : World) : laws_FnChainDrain_l3 e w =
 (vl (e 12) w).bind fun r1 =>
 (fa P 25 (e 9) 0 r1.2).bind fun r2 =>
 (ld P 23 r2.1 r2.2).bind fun r3 =>
 (Yo P #[23] 3 #[r3.1] r3.2).bind fun r4 =>
 (bo P .lss 3 (.tmp 74) (.tmp 77) r1.1 r4.1 r4.2).bind fun r5 =>
 cnd r5.1 (
 (fa P 25 (e 9) 0 (dw r5.2)).bind fun r7 =>
 ifP (r7.2 = (dw r5.2)) <|
 (ld P 23 r7.1 (dw r5.2)).bind fun r8 =>
 ifP (r8.2 = (dw r5.2)) <|
 (vl (e 12) (dw r5.2)).bind fun r9 =>
 ifP (r9.2 = (dw r5.2)) <|
 (ia P 23 r8.1 r9.1 (dw r5.2)).bind fun r10 =>
 ifP (r10.2 = (dw r5.2)) <|
 (fa P 45 r10.1 1 (dw r5.2)).bind fun r11 =>
 ifP (r11.2 = (dw r5.2)) <|
 (ld P 41 r11.1 (dw r5.2)).bind fun r12 =>
 ifP (r12.2 = (dw r5.2)) <|
 (Yo P #[41] 3 #[r12.1] (dw r5.2)).bind fun r13 =>
 ifP (r13.2 = (dw r5.2)) <|
 (bo P .gtr 3 (.tmp 87) (.const (.int .i64 0)) r13.1 (.int .i64 0) (dw r5.2)).bind fun r14 =>
 ifP (r14.2 = (dw r5.2)) <|
 (vl r14.1 (dw r5.2)).bind fun r15 =>
 ifP (r15.2 = (dw r5.2)) <|
 (gif r15.1 false (fa P 25 (e 9) 0 (dw r5.2)) (dw r5.2)).bind fun r16 =>
 ifP (r16.2 = (dw r5.2)) <|
 (gif r15.1 false (ld P 23 r16.1 (dw r5.2)) (dw r5.2)).bind fun r17 =>
 ifP (r17.2 = (dw r5.2)) <|
 (gif r15.1 false (vl (e 12) (dw r5.2)) (dw r5.2)).bind fun r18 =>
 ifP (r18.2 = (dw r5.2)) <|
 (gif r15.1 false (ia P 23 r17.1 r18.1 (dw r5.2)) (dw r5.2)).bind fun r19 =>
 ifP (r19.2 = (dw r5.2)) <|
 (gif r15.1 false (fa P 45 r19.1 0 (dw r5.2)) (dw r5.2)).bind fun r20 =>
 ifP (r20.2 = (dw r5.2)) <|
 (gif r15.1 false (ld P 43 r20.1 (dw r5.2)) (dw r5.2)).bind fun r21 =>
 ifP (r21.2 = (dw r5.2)) <|
 (gif r15.1 false (fa P 25 (e 3) 0 (dw r5.2)) (dw r5.2)).bind fun r22 =>
 ifP (r22.2 = (dw r5.2)) <|
 (gif r15.1 false (ld P 23 r22.1 (dw r5.2)) (dw r5.2)).bind fun r23 =>
 ifP (r23.2 = (dw r5.2)) <|
 (gif r15.1 false (ia P 23 r23.1 (.int .i64 0) (dw r5.2)) (dw r5.2)).bind fun r24 =>
 ifP (r24.2 = (dw r5.2)) <|
 (gif r15.1 false (fa P 45 r24.1 0 (dw r5.2)) (dw r5.2)).bind fun r25 =>
 ifP (r25.2 = (dw r5.2)) <|
 (gif r15.1 false (ld P 43 r25.1 (dw r5.2)) (dw r5.2)).bind fun r26 =>
 ifP (r26.2 = (dw r5.2)) <|
 (gif r15.1 false (EV P 15 #[r21.1, r26.1] (dw r5.2)) (dw r5.2)).bind fun r27 =>
 ifP (True ∧ True ∧ True ∧ True ∧ True ∧ True ∧ True ∧ True ∧ True ∧ True ∧ True ∧ True ∧ True ∧ True ∧ True ∧ True ∧ True ∧ True) <|
 (gif r15.1 false (uo P .not r27.1 r27.2) r27.2).bind fun r28 =>
 ifP (r28.2 = r27.2) <|
 (pickV r15.1 (.bool true) r28.1 r27.2).bind fun r29 =>
 ifP (r29.2 = r27.2) <|
 cnd r29.1 (
 (vl (.bool false) r27.2).bind fun r30 =>
 some (r30.1, r30.2)) (
 (vl (e 12) r27.2).bind fun r31 =>
 (bo P .add 3 (.tmp 79) (.const (.int .i64 1)) r31.1 (.int .i64 1) r31.2).bind fun r32 =>
 (vl r32.1 r32.2).bind fun r33 =>
 laws_FnChainDrain_l3 (ups e [(74, r1.1), (75, r2.1), (76, r3.1), (77, r4.1), (78, r5.1), (81, r7.1), (82, r8.1), (83, r9.1), (84, r10.1), (85, r11.1), (86, r12.1), (87, r13.1), (88, r14.1), (89, r15.1), (90, r16.1), (91, r17.1), (92, r18.1), (93, r19.1), (94, r20.1), (95, r21.1), (96, r22.1), (97, r23.1), (98, r24.1), (99, r25.1), (100, r26.1), (101, r27.1), (102, r28.1), (103, r29.1), (79, r31.1), (80, r32.1), (12, r33.1)]) r33.2)) (
 (ld P 25 (e 9) r5.2).bind fun r34 =>
 (EV P 12 #[r34.1] r34.2).bind fun r35 =>
 (vl r35.1 r35.2).bind fun r36 =>
 some (r36.1, r36.2)) := (exC_loop P (EV P) 4 106 (cA (cA (cB (cA (cB (cB (cB (cB (cB (cB (cB (cB (Yi P 4))))))))))))) e w (Yj 4 (kSeq P (EV P) 4 106 (cB (cB (cB (cB (cB (cB (cB (cB (cB (Yi P 4)))))))))) (kFn P (fnOf P 4))))).trans (by kernel_rfl)
theorem laws_FnChainDrain_fn (x0 : Value) (w : World) : fnC P (EV P) 4 #[x0] w =
 (vl (.bool false) w).bind fun r1 =>
 (vl x0 r1.2).bind fun r2 =>
 (Yo P #[22] 3 #[r2.1] r2.2).bind fun r3 =>
 (bo P .gtr 3 (.tmp 14) (.const (.int .i64 1048576)) r3.1 (.int .i64 1048576) r3.2).bind fun r4 =>
 cnd r4.1 (
 (vl (.bool true) r4.2).bind fun r5 =>
 some (r5.1, r5.2)) (
 (vl x0 r4.2).bind fun r6 =>
 (EV P 17 #[r6.1] r6.2).bind fun r7 =>
 (vl r7.1 r7.2).bind fun r8 =>
 (xt P r8.1 0 r8.2).bind fun r9 =>
 (xt P r8.1 1 r9.2).bind fun r10 =>
 (al P 25 r10.2).bind fun r11 =>
 (st P 25 r11.1 r9.1 r11.2).bind fun r12 =>
 (vl r10.1 r12.2).bind fun r13 =>
 (ld P 25 r11.1 r13.2).bind fun r14 =>
 (vl r13.1 r14.2).bind fun r15 =>
 (EV P 18 #[r14.1, r15.1] r15.2).bind fun r16 =>
 (vl r16.1 r16.2).bind fun r17 =>
 (xt P r17.1 0 r17.2).bind fun r18 =>
 (xt P r17.1 1 r18.2).bind fun r19 =>
 (al P 25 r19.2).bind fun r20 =>
 (st P 25 r20.1 r18.1 r20.2).bind fun r21 =>
 (vl r19.1 r21.2).bind fun r22 =>
 (ld P 25 r11.1 r22.2).bind fun r23 =>
 (vl r13.1 r23.2).bind fun r24 =>
 (EV P 19 #[r23.1, r24.1] r24.2).bind fun r25 =>
 (vl r25.1 r25.2).bind fun r26 =>
 (xt P r26.1 0 r26.2).bind fun r27 =>
 (xt P r26.1 1 r27.2).bind fun r28 =>
 (al P 25 r28.2).bind fun r29 =>
 (st P 25 r29.1 r27.1 r29.2).bind fun r30 =>
 (vl r28.1 r30.2).bind fun r31 =>
 (vl r22.1 r31.2).bind fun r32 =>
 (vl r31.1 r32.2).bind fun r33 =>
 (bo P .neq 4 (.tmp 33) (.tmp 34) r32.1 r33.1 r33.2).bind fun r34 =>
 (vl r34.1 r34.2).bind fun r35 =>
 (gif r35.1 false (ld P 25 r20.1 r35.2) r35.2).bind fun r36 =>
 (gif r35.1 false (ld P 25 r29.1 r36.2) r36.2).bind fun r37 =>
 (gif r35.1 false (EV P 11 #[r36.1, r37.1] r37.2) r37.2).bind fun r38 =>
 (gif r35.1 false (uo P .not r38.1 r38.2) r38.2).bind fun r39 =>
 (pickV r35.1 (.bool true) r39.1 r39.2).bind fun r40 =>
 (vl r40.1 r40.2).bind fun r41 =>
 (gif r41.1 false (ld P 25 r11.1 r41.2) r41.2).bind fun r42 =>
 (gif r41.1 false (EV P 12 #[r42.1] r42.2) r42.2).bind fun r43 =>
 (gif r41.1 false (uo P .not r43.1 r43.2) r43.2).bind fun r44 =>
 (pickV r41.1 (.bool true) r44.1 r44.2).bind fun r45 =>
 cnd r45.1 (
 (vl r22.1 r45.2).bind fun r46 =>
 (vl r31.1 r46.2).bind fun r47 =>
 (bo P .eql 4 (.tmp 47) (.tmp 48) r46.1 r47.1 r47.2).bind fun r48 =>
 (vl r48.1 r48.2).bind fun r49 =>
 (gif r49.1 true (ld P 25 r20.1 r49.2) r49.2).bind fun r50 =>
 (gif r49.1 true (ld P 25 r29.1 r50.2) r50.2).bind fun r51 =>
 (gif r49.1 true (EV P 11 #[r50.1, r51.1] r51.2) r51.2).bind fun r52 =>
 (pickV r49.1 r52.1 (.bool false) r52.2).bind fun r53 =>
 (vl r53.1 r53.2).bind fun r54 =>
 some (r54.1, r54.2)) (
 (ld P 25 r11.1 r45.2).bind fun r55 =>
 (al P 25 r55.2).bind fun r56 =>
 (st P 25 r56.1 r55.1 r56.2).bind fun r57 =>
 (vl (.int .i64 0) r57.2).bind fun r58 =>
 laws_FnChainDrain_l1 (ups (env0 #[x0]) [(2, r1.1), (13, r2.1), (14, r3.1), (15, r4.1), (17, r6.1), (18, r7.1), (16, r8.1), (19, r9.1), (20, r10.1), (3, r11.1), (4, r13.1), (22, r14.1), (23, r15.1), (24, r16.1), (21, r17.1), (25, r18.1), (26, r19.1), (5, r20.1), (6, r22.1), (28, r23.1), (29, r24.1), (30, r25.1), (27, r26.1), (31, r27.1), (32, r28.1), (7, r29.1), (8, r31.1), (33, r32.1), (34, r33.1), (35, r34.1), (36, r35.1), (37, r36.1), (38, r37.1), (39, r38.1), (40, r39.1), (41, r40.1), (42, r41.1), (43, r42.1), (44, r43.1), (45, r44.1), (46, r45.1), (55, r55.1), (9, r56.1), (10, r58.1)]) r58.2)) := by kernel_rfl
noncomputable def laws_cfChain_l1 (e : Env) (w : World) : Option (Value × World) := exC P (EV P) 11 50 (.loop (cA (cA (cB (cA (cB (cB (Yi P 11)))))))) e w (Yj 0 (kSeq P (EV P) 11 50 (cB (cB (cB (Yi P 11)))) (kFn P (fnOf P 11))))
theorem laws_cfChain_l1_eq (e : Env) (w : World) : laws_cfChain_l1 e w =
 (vl (e 5) w).bind fun r1 =>
 (fa P 25 (e 2) 0 r1.2).bind fun r2 =>
 (ld P 23 r2.1 r2.2).bind fun r3 =>
 (Yo P #[23] 3 #[r3.1] r3.2).bind fun r4 =>
 (bo P .lss 3 (.tmp 13) (.tmp 16) r1.1 r4.1 r4.2).bind fun r5 =>
 cnd r5.1 (
 (fa P 25 (e 2) 0 (dw r5.2)).bind fun r7 =>
 ifP (r7.2 = (dw r5.2)) <|
 (ld P 23 r7.1 (dw r5.2)).bind fun r8 =>
 ifP (r8.2 = (dw r5.2)) <|
 (vl (e 5) (dw r5.2)).bind fun r9 =>
 ifP (r9.2 = (dw r5.2)) <|
 (ia P 23 r8.1 r9.1 (dw r5.2)).bind fun r10 =>
 ifP (r10.2 = (dw r5.2)) <|
 (fa P 45 r10.1 0 (dw r5.2)).bind fun r11 =>
 ifP (r11.2 = (dw r5.2)) <|
 (ld P 43 r11.1 (dw r5.2)).bind fun r12 =>
 ifP (r12.2 = (dw r5.2)) <|
 (fa P 25 (e 3) 0 (dw r5.2)).bind fun r13 =>
 ifP (r13.2 = (dw r5.2)) <|
 (ld P 23 r13.1 (dw r5.2)).bind fun r14 =>
 ifP (r14.2 = (dw r5.2)) <|
 (vl (e 5) (dw r5.2)).bind fun r15 =>
 ifP (r15.2 = (dw r5.2)) <|
 (ia P 23 r14.1 r15.1 (dw r5.2)).bind fun r16 =>
 ifP (r16.2 = (dw r5.2)) <|
 (fa P 45 r16.1 0 (dw r5.2)).bind fun r17 =>
 ifP (r17.2 = (dw r5.2)) <|
 (ld P 43 r17.1 (dw r5.2)).bind fun r18 =>
 ifP (r18.2 = (dw r5.2)) <|
 (EV P 15 #[r12.1, r18.1] (dw r5.2)).bind fun r19 =>
 ifP (True ∧ True ∧ True ∧ True ∧ True ∧ True ∧ True ∧ True ∧ True ∧ True ∧ True) <|
 (uo P .not r19.1 r19.2).bind fun r20 =>
 ifP (r20.2 = r19.2) <|
 (vl r20.1 r19.2).bind fun r21 =>
 ifP (r21.2 = r19.2) <|
 (gif r21.1 false (fa P 25 (e 2) 0 r19.2) r19.2).bind fun r22 =>
 ifP (r22.2 = r19.2) <|
 (gif r21.1 false (ld P 23 r22.1 r19.2) r19.2).bind fun r23 =>
 ifP (r23.2 = r19.2) <|
 (gif r21.1 false (vl (e 5) r19.2) r19.2).bind fun r24 =>
 ifP (r24.2 = r19.2) <|
 (gif r21.1 false (ia P 23 r23.1 r24.1 r19.2) r19.2).bind fun r25 =>
 ifP (r25.2 = r19.2) <|
 (gif r21.1 false (fa P 45 r25.1 1 r19.2) r19.2).bind fun r26 =>
 ifP (r26.2 = r19.2) <|
 (gif r21.1 false (ld P 41 r26.1 r19.2) r19.2).bind fun r27 =>
 ifP (r27.2 = r19.2) <|
 (gif r21.1 false (fa P 25 (e 3) 0 r19.2) r19.2).bind fun r28 =>
 ifP (r28.2 = r19.2) <|
 (gif r21.1 false (ld P 23 r28.1 r19.2) r19.2).bind fun r29 =>
 ifP (r29.2 = r19.2) <|
 (gif r21.1 false (vl (e 5) r19.2) r19.2).bind fun r30 =>
 ifP (r30.2 = r19.2) <|
 (gif r21.1 false (ia P 23 r29.1 r30.1 r19.2) r19.2).bind fun r31 =>
 ifP (r31.2 = r19.2) <|
 (gif r21.1 false (fa P 45 r31.1 1 r19.2) r19.2).bind fun r32 =>
 ifP (r32.2 = r19.2) <|
 (gif r21.1 false (ld P 41 r32.1 r19.2) r19.2).bind fun r33 =>
 ifP (r33.2 = r19.2) <|
 (gif r21.1 false (EV P 49 #[r27.1, r33.1] r19.2) r19.2).bind fun r34 =>
 ifP (True ∧ True ∧ True ∧ True ∧ True ∧ True ∧ True ∧ True ∧ True ∧ True ∧ True ∧ True ∧ True ∧ True ∧ True ∧ True ∧ True ∧ True ∧ True ∧ True ∧ True ∧ True) <|
 (gif r21.1 false (uo P .not r34.1 r34.2) r34.2).bind fun r35 =>
 ifP (r35.2 = r34.2) <|
 (pickV r21.1 (.bool true) r35.1 r34.2).bind fun r36 =>
 ifP (r36.2 = r34.2) <|
 cnd r36.1 (
 (vl (.bool false) r34.2).bind fun r37 =>
 some (r37.1, r37.2)) (
 (vl (e 5) r34.2).bind fun r38 =>
 (bo P .add 3 (.tmp 18) (.const (.int .i64 1)) r38.1 (.int .i64 1) r38.2).bind fun r39 =>
 (vl r39.1 r39.2).bind fun r40 =>
 laws_cfChain_l1 (ups e [(13, r1.1), (14, r2.1), (15, r3.1), (16, r4.1), (17, r5.1), (20, r7.1), (21, r8.1), (22, r9.1), (23, r10.1), (24, r11.1), (25, r12.1), (26, r13.1), (27, r14.1), (28, r15.1), (29, r16.1), (30, r17.1), (31, r18.1), (32, r19.1), (33, r20.1), (34, r21.1), (35, r22.1), (36, r23.1), (37, r24.1), (38, r25.1), (39, r26.1), (40, r27.1), (41, r28.1), (42, r29.1), (43, r30.1), (44, r31.1), (45, r32.1), (46, r33.1), (47, r34.1), (48, r35.1), (49, r36.1), (18, r38.1), (19, r39.1), (5, r40.1)]) r40.2)) (
 (vl (.bool true) r5.2).bind fun r41 =>
 some (r41.1, r41.2)) := (exC_loop P (EV P) 11 50 (cA (cA (cB (cA (cB (cB (Yi P 11))))))) e w (Yj 0 (kSeq P (EV P) 11 50 (cB (cB (cB (Yi P 11)))) (kFn P (fnOf P 11))))).trans (by kernel_rfl)
theorem laws_cfChain_fn (x0 x1 : Value) (w : World) : fnC P (EV P) 11 #[x0, x1] w =
 (bx P 25 x0 w).bind fun r1 =>
 (bx P 25 x1 r1.2).bind fun r2 =>
 (vl (.bool false) r2.2).bind fun r3 =>
 (fa P 25 r1.1 0 r3.2).bind fun r4 =>
 (ld P 23 r4.1 r4.2).bind fun r5 =>
 (Yo P #[23] 3 #[r5.1] r5.2).bind fun r6 =>
 (fa P 25 r2.1 0 r6.2).bind fun r7 =>
 (ld P 23 r7.1 r7.2).bind fun r8 =>
 (Yo P #[23] 3 #[r8.1] r8.2).bind fun r9 =>
 (bo P .neq 3 (.tmp 8) (.tmp 11) r6.1 r9.1 r9.2).bind fun r10 =>
 cnd r10.1 (
 (vl (.bool false) r10.2).bind fun r11 =>
 some (r11.1, r11.2)) (
 (vl (.int .i64 0) r10.2).bind fun r12 =>
 laws_cfChain_l1 (ups (env0 #[x0, x1]) [(2, r1.1), (3, r2.1), (4, r3.1), (6, r4.1), (7, r5.1), (8, r6.1), (9, r7.1), (10, r8.1), (11, r9.1), (12, r10.1), (5, r12.1)]) r12.2) := by kernel_rfl
noncomputable def impl_ChainOk_l1 (e : Env) (w : World) : Option (Value × World) := exC P (EV P) 12 71 (.loop (cA (cA (cB (cA (cB (cB (Yi P 12)))))))) e w (Yj 0 (kSeq P (EV P) 12 71 (cB (cB (cB (Yi P 12)))) (kFn P (fnOf P 12))))
noncomputable def impl_ChainOk_l2 (e : Env) (w : World) : Option (Value × World) := exC P (EV P) 12 71 (.loop (cA (cA (cB (cA (cB (cB (cB (Yi P 12))))))))) e w (Yj 2 (kSeq P (EV P) 12 71 (cB (cB (cB (cB (Yi P 12))))) (kFn P (fnOf P 12))))
theorem impl_ChainOk_l1_eq (e : Env) (w : World) : impl_ChainOk_l1 e w =
 (bo P .lss 3 (.tmp 15) (.tmp 14) (e 15) (e 14) w).bind fun r1 =>
 cnd r1.1 (
 (ia P 23 (e 13) (e 15) r1.2).bind fun r2 =>
 (ld P 45 r2.1 r2.2).bind fun r3 =>
 (al P 45 r3.2).bind fun r4 =>
 (st P 45 r4.1 r3.1 r4.2).bind fun r5 =>
 (fa P 45 r4.1 0 r5.2).bind fun r6 =>
 (ld P 43 r6.1 r6.2).bind fun r7 =>
 (EV P 22 #[r7.1] r7.2).bind fun r8 =>
 (uo P .not r8.1 r8.2).bind fun r9 =>
 (vl r9.1 r9.2).bind fun r10 =>
 (gif r10.1 false (fa P 45 r4.1 1 r10.2) r10.2).bind fun r11 =>
 (gif r10.1 false (ld P 41 r11.1 r11.2) r11.2).bind fun r12 =>
 (gif r10.1 false (Yo P #[41] 3 #[r12.1] r12.2) r12.2).bind fun r13 =>
 (gif r10.1 false (bo P .gtr 3 (.tmp 26) (.const (.int .i64 6)) r13.1 (.int .i64 6) r13.2) r13.2).bind fun r14 =>
 (pickV r10.1 (.bool true) r14.1 r14.2).bind fun r15 =>
 (vl r15.1 r15.2).bind fun r16 =>
 (gif r16.1 false (fa P 45 r4.1 1 r16.2) r16.2).bind fun r17 =>
 (gif r16.1 false (ld P 41 r17.1 r17.2) r17.2).bind fun r18 =>
 (gif r16.1 false (EV P 51 #[r18.1, (.func (.func 52) #[] #[])] r18.2) r18.2).bind fun r19 =>
 (pickV r16.1 (.bool true) r19.1 r19.2).bind fun r20 =>
 cnd r20.1 (
 (vl (.bool false) r20.2).bind fun r21 =>
 some (r21.1, r21.2)) (
 (bo P .add 3 (.tmp 15) (.const (.int .i64 1)) (e 15) (.int .i64 1) r20.2).bind fun r22 =>
 (vl r22.1 r22.2).bind fun r23 =>
 impl_ChainOk_l1 (ups e [(16, r1.1), (17, r2.1), (18, r3.1), (4, r4.1), (19, r6.1), (20, r7.1), (21, r8.1), (22, r9.1), (23, r10.1), (24, r11.1), (25, r12.1), (26, r13.1), (27, r14.1), (28, r15.1), (29, r16.1), (30, r17.1), (31, r18.1), (32, r19.1), (33, r20.1), (34, r22.1), (15, r23.1)]) r23.2)) (
 (fa P 25 (e 1) 0 r1.2).bind fun r24 =>
 (ld P 23 r24.1 r24.2).bind fun r25 =>
 (Yo P #[23] 3 #[r25.1] r25.2).bind fun r26 =>
 (vl (.int .i64 0) r26.2).bind fun r27 =>
 impl_ChainOk_l2 (ups e [(16, r1.1), (35, r24.1), (36, r25.1), (37, r26.1), (38, r27.1)]) r27.2) := (exC_loop P (EV P) 12 71 (cA (cA (cB (cA (cB (cB (Yi P 12))))))) e w (Yj 0 (kSeq P (EV P) 12 71 (cB (cB (cB (Yi P 12)))) (kFn P (fnOf P 12))))).trans (by kernel_rfl)
theorem impl_ChainOk_l2_eq (e : Env) (w : World) : impl_ChainOk_l2 e w =
 (bo P .lss 3 (.tmp 38) (.tmp 37) (e 38) (e 37) w).bind fun r1 =>
 cnd r1.1 (
 (vl (e 38) r1.2).bind fun r2 =>
 (ia P 23 (e 36) (e 38) r2.2).bind fun r3 =>
 (ld P 45 r3.1 r3.2).bind fun r4 =>
 (al P 45 r4.2).bind fun r5 =>
 (vl r2.1 r5.2).bind fun r6 =>
 (st P 45 r5.1 r4.1 r6.2).bind fun r7 =>
 (ld P 25 (e 1) (dw r7.2)).bind fun r9 =>
 ifP (r9.2 = (dw r7.2)) <|
 (vl r6.1 (dw r7.2)).bind fun r10 =>
 ifP (r10.2 = (dw r7.2)) <|
 (EV P 53 #[r9.1, r10.1] (dw r7.2)).bind fun r11 =>
 ifP (True ∧ True) <|
 (vl r11.1 r11.2).bind fun r12 =>
 ifP (r12.2 = r11.2) <|
 (gif r12.1 true (fa P 45 r5.1 1 r11.2) r11.2).bind fun r13 =>
 ifP (r13.2 = r11.2) <|
 (gif r12.1 true (ld P 41 r13.1 r11.2) r11.2).bind fun r14 =>
 ifP (r14.2 = r11.2) <|
 (gif r12.1 true (Yo P #[41] 3 #[r14.1] r11.2) r11.2).bind fun r15 =>
 ifP (r15.2 = r11.2) <|
 (gif r12.1 true (bo P .gtr 3 (.tmp 49) (.const (.int .i64 0)) r15.1 (.int .i64 0) r11.2) r11.2).bind fun r16 =>
 ifP (r16.2 = r11.2) <|
 (pickV r12.1 r16.1 (.bool false) r11.2).bind fun r17 =>
 ifP (r17.2 = r11.2) <|
 (vl r17.1 r11.2).bind fun r18 =>
 ifP (r18.2 = r11.2) <|
 (gif r18.1 false (ld P 25 (e 1) r11.2) r11.2).bind fun r19 =>
 ifP (r19.2 = r11.2) <|
 (gif r18.1 false (vl r6.1 r11.2) r11.2).bind fun r20 =>
 ifP (r20.2 = r11.2) <|
 (gif r18.1 false (EV P 53 #[r19.1, r20.1] r11.2) r11.2).bind fun r21 =>
 ifP (True ∧ True ∧ True ∧ True ∧ True ∧ True ∧ True) <|
 (gif r18.1 false (uo P .not r21.1 r21.2) r21.2).bind fun r22 =>
 ifP (r22.2 = r21.2) <|
 (gif r18.1 false (vl r22.1 r21.2) r21.2).bind fun r23 =>
 ifP (r23.2 = r21.2) <|
 (gif r23.1 true (ld P 45 r5.1 r21.2) r21.2).bind fun r24 =>
 ifP (r24.2 = r21.2) <|
 (gif r23.1 true (fa P 25 (e 1) 0 r21.2) r21.2).bind fun r25 =>
 ifP (r25.2 = r21.2) <|
 (gif r23.1 true (ld P 23 r25.1 r21.2) r21.2).bind fun r26 =>
 ifP (r26.2 = r21.2) <|
 (gif r23.1 true (vl r6.1 r21.2) r21.2).bind fun r27 =>
 ifP (r27.2 = r21.2) <|
 (gif r23.1 true (bo P .add 3 (.tmp 61) (.const (.int .i64 1)) r27.1 (.int .i64 1) r21.2) r21.2).bind fun r28 =>
 ifP (r28.2 = r21.2) <|
 (gif r23.1 true (ia P 23 r26.1 r28.1 r21.2) r21.2).bind fun r29 =>
 ifP (r29.2 = r21.2) <|
 (gif r23.1 true (fa P 45 r29.1 0 r21.2) r21.2).bind fun r30 =>
 ifP (r30.2 = r21.2) <|
 (gif r23.1 true (ld P 43 r30.1 r21.2) r21.2).bind fun r31 =>
 ifP (r31.2 = r21.2) <|
 (gif r23.1 true (EV P 54 #[r24.1, r31.1] r21.2) r21.2).bind fun r32 =>
 ifP (True ∧ True ∧ True ∧ True ∧ True ∧ True ∧ True ∧ True ∧ True ∧ True ∧ True ∧ True ∧ True ∧ True ∧ True) <|
 (gif r23.1 true (uo P .not r32.1 r32.2) r32.2).bind fun r33 =>
 ifP (r33.2 = r32.2) <|
 (gif r18.1 false (pickV r23.1 r33.1 (.bool false) r32.2) r32.2).bind fun r34 =>
 ifP (r34.2 = r32.2) <|
 (pickV r18.1 (.bool true) r34.1 r32.2).bind fun r35 =>
 ifP (r35.2 = r32.2) <|
 cnd r35.1 (
 (vl (.bool false) r32.2).bind fun r36 =>
 some (r36.1, r36.2)) (
 (bo P .add 3 (.tmp 38) (.const (.int .i64 1)) (e 38) (.int .i64 1) r32.2).bind fun r37 =>
 (vl r37.1 r37.2).bind fun r38 =>
 impl_ChainOk_l2 (ups e [(39, r1.1), (40, r2.1), (41, r3.1), (42, r4.1), (6, r5.1), (5, r6.1), (43, r9.1), (44, r10.1), (45, r11.1), (46, r12.1), (47, r13.1), (48, r14.1), (49, r15.1), (50, r16.1), (51, r17.1), (52, r18.1), (53, r19.1), (54, r20.1), (55, r21.1), (56, r22.1), (57, r23.1), (58, r24.1), (59, r25.1), (60, r26.1), (61, r27.1), (62, r28.1), (63, r29.1), (64, r30.1), (65, r31.1), (66, r32.1), (67, r33.1), (68, r34.1), (69, r35.1), (70, r37.1), (38, r38.1)]) r38.2)) (
 (vl (.bool true) r1.2).bind fun r39 =>
 some (r39.1, r39.2)) := (exC_loop P (EV P) 12 71 (cA (cA (cB (cA (cB (cB (cB (Yi P 12)))))))) e w (Yj 2 (kSeq P (EV P) 12 71 (cB (cB (cB (cB (Yi P 12))))) (kFn P (fnOf P 12))))).trans (by kernel_rfl)
theorem impl_ChainOk_fn (x0 : Value) (w : World) : fnC P (EV P) 12 #[x0] w =
 (bx P 25 x0 w).bind fun r1 =>
 (vl (.bool false) r1.2).bind fun r2 =>
 (fa P 25 r1.1 0 r2.2).bind fun r3 =>
 (ld P 23 r3.1 r3.2).bind fun r4 =>
 (Yo P #[23] 3 #[r4.1] r4.2).bind fun r5 =>
 (EV P 50 #[r5.1] r5.2).bind fun r6 =>
 (uo P .not r6.1 r6.2).bind fun r7 =>
 cnd r7.1 (
 (vl (.bool false) r7.2).bind fun r8 =>
 some (r8.1, r8.2)) (
 (fa P 25 r1.1 0 r7.2).bind fun r9 =>
 (ld P 23 r9.1 r9.2).bind fun r10 =>
 (Yo P #[23] 3 #[r10.1] r10.2).bind fun r11 =>
 (vl (.int .i64 0) r11.2).bind fun r12 =>
 impl_ChainOk_l1 (ups (env0 #[x0]) [(1, r1.1), (2, r2.1), (7, r3.1), (8, r4.1), (9, r5.1), (10, r6.1), (11, r7.1), (12, r9.1), (13, r10.1), (14, r11.1), (15, r12.1)]) r12.2) := by kernel_rfl
theorem impl_VerOk_fn (x0 : Value) (w : World) : fnC P (EV P) 14 #[x0] w =
 (bx P 32 x0 w).bind fun r1 =>
 (vl (.bool false) r1.2).bind fun r2 =>
 (ld P 32 r1.1 (dw r2.2)).bind fun r4 =>
 ifP (r4.2 = (dw r2.2)) <|
 (EV P 55 #[r4.1] (dw r2.2)).bind fun r5 =>
 ifP (True ∧ True) <|
 (vl r5.1 r5.2).bind fun r6 =>
 ifP (r6.2 = r5.2) <|
 (gif r6.1 true (fa P 32 r1.1 1 r5.2) r5.2).bind fun r7 =>
 ifP (r7.2 = r5.2) <|
 (gif r6.1 true (ld P 27 r7.1 r5.2) r5.2).bind fun r8 =>
 ifP (r8.2 = r5.2) <|
 (gif r6.1 true (EV P 56 #[r8.1] r5.2) r5.2).bind fun r9 =>
 ifP (True ∧ True ∧ True ∧ True) <|
 (pickV r6.1 r9.1 (.bool false) r9.2).bind fun r10 =>
 ifP (r10.2 = r9.2) <|
 (vl r10.1 r9.2).bind fun r11 =>
 ifP (r11.2 = r9.2) <|
 (gif r11.1 true (fa P 32 r1.1 1 r9.2) r9.2).bind fun r12 =>
 ifP (r12.2 = r9.2) <|
 (gif r11.1 true (fa P 27 r12.1 0 r9.2) r9.2).bind fun r13 =>
 ifP (r13.2 = r9.2) <|
 (gif r11.1 true (ld P 3 r13.1 r9.2) r9.2).bind fun r14 =>
 ifP (r14.2 = r9.2) <|
 (gif r11.1 true (fa P 32 r1.1 2 r9.2) r9.2).bind fun r15 =>
 ifP (r15.2 = r9.2) <|
 (gif r11.1 true (ld P 30 r15.1 r9.2) r9.2).bind fun r16 =>
 ifP (r16.2 = r9.2) <|
 (gif r11.1 true (EV P 57 #[r16.1] r9.2) r9.2).bind fun r17 =>
 ifP (True ∧ True ∧ gif r11.1 true (ld P 3 r13.1 r17.2) r17.2 = some (r14.1, r17.2) ∧ gif r11.1 true (fa P 27 r12.1 0 r17.2) r17.2 = some (r13.1, r17.2) ∧ gif r11.1 true (fa P 32 r1.1 1 r17.2) r17.2 = some (r12.1, r17.2) ∧ True ∧ True ∧ True ∧ True) <|
 (gif r11.1 true (bo P .gtr 3 (.tmp 13) (.tmp 16) r14.1 r17.1 r17.2) r17.2).bind fun r18 =>
 ifP (r18.2 = r17.2) <|
 (pickV r11.1 r18.1 (.bool false) r17.2).bind fun r19 =>
 ifP (r19.2 = r17.2) <|
 (vl r19.1 r17.2).bind fun r20 =>
 ifP (r20.2 = r17.2) <|
 some (r20.1, r17.2) := by kernel_rfl
noncomputable def laws_cfStore_l1 (e : Env) (w : World) : Option (Value × World) := exC P (EV P) 15 32 (.loop (cA (cA (cB (cA (cB (cB (Yi P 15)))))))) e w (Yj 0 (kSeq P (EV P) 15 32 (cB (cB (cB (Yi P 15)))) (kFn P (fnOf P 15))))
theorem laws_cfStore_l1_eq (e : Env) (w : World) : laws_cfStore_l1 e w =
 (vl (e 5) w).bind fun r1 =>
 (fa P 43 (e 2) 0 r1.2).bind fun r2 =>
 (ld P 41 r2.1 r2.2).bind fun r3 =>
 (Yo P #[41] 3 #[r3.1] r3.2).bind fun r4 =>
 (bo P .lss 3 (.tmp 13) (.tmp 16) r1.1 r4.1 r4.2).bind fun r5 =>
 cnd r5.1 (
 (fa P 43 (e 2) 0 (dw r5.2)).bind fun r7 =>
 ifP (r7.2 = (dw r5.2)) <|
 (ld P 41 r7.1 (dw r5.2)).bind fun r8 =>
 ifP (r8.2 = (dw r5.2)) <|
 (vl (e 5) (dw r5.2)).bind fun r9 =>
 ifP (r9.2 = (dw r5.2)) <|
 (ia P 41 r8.1 r9.1 (dw r5.2)).bind fun r10 =>
 ifP (r10.2 = (dw r5.2)) <|
 (ld P 32 r10.1 (dw r5.2)).bind fun r11 =>
 ifP (r11.2 = (dw r5.2)) <|
 (fa P 43 (e 3) 0 (dw r5.2)).bind fun r12 =>
 ifP (r12.2 = (dw r5.2)) <|
 (ld P 41 r12.1 (dw r5.2)).bind fun r13 =>
 ifP (r13.2 = (dw r5.2)) <|
 (vl (e 5) (dw r5.2)).bind fun r14 =>
 ifP (r14.2 = (dw r5.2)) <|
 (ia P 41 r13.1 r14.1 (dw r5.2)).bind fun r15 =>
 ifP (r15.2 = (dw r5.2)) <|
 (ld P 32 r15.1 (dw r5.2)).bind fun r16 =>
 ifP (r16.2 = (dw r5.2)) <|
 (EV P 58 #[r11.1, r16.1] (dw r5.2)).bind fun r17 =>
 ifP (True ∧ True ∧ True ∧ True ∧ True ∧ True ∧ True ∧ True ∧ True) <|
 (uo P .not r17.1 r17.2).bind fun r18 =>
 ifP (r18.2 = r17.2) <|
 cnd r18.1 (
 (vl (.bool false) r17.2).bind fun r19 =>
 some (r19.1, r19.2)) (
 (vl (e 5) r17.2).bind fun r20 =>
 (bo P .add 3 (.tmp 18) (.const (.int .i64 1)) r20.1 (.int .i64 1) r20.2).bind fun r21 =>
 (vl r21.1 r21.2).bind fun r22 =>
 laws_cfStore_l1 (ups e [(13, r1.1), (14, r2.1), (15, r3.1), (16, r4.1), (17, r5.1), (20, r7.1), (21, r8.1), (22, r9.1), (23, r10.1), (24, r11.1), (25, r12.1), (26, r13.1), (27, r14.1), (28, r15.1), (29, r16.1), (30, r17.1), (31, r18.1), (18, r20.1), (19, r21.1), (5, r22.1)]) r22.2)) (
 (vl (.bool true) r5.2).bind fun r23 =>
 some (r23.1, r23.2)) := (exC_loop P (EV P) 15 32 (cA (cA (cB (cA (cB (cB (Yi P 15))))))) e w (Yj 0 (kSeq P (EV P) 15 32 (cB (cB (cB (Yi P 15)))) (kFn P (fnOf P 15))))).trans (by kernel_rfl)
theorem laws_cfStore_fn (x0 x1 : Value) (w : World) : fnC P (EV P) 15 #[x0, x1] w =
 (bx P 43 x0 w).bind fun r1 =>
 (bx P 43 x1 r1.2).bind fun r2 =>
 (vl (.bool false) r2.2).bind fun r3 =>
 (fa P 43 r1.1 0 r3.2).bind fun r4 =>
 (ld P 41 r4.1 r4.2).bind fun r5 =>
 (Yo P #[41] 3 #[r5.1] r5.2).bind fun r6 =>
 (fa P 43 r2.1 0 r6.2).bind fun r7 =>
 (ld P 41 r7.1 r7.2).bind fun r8 =>
 (Yo P #[41] 3 #[r8.1] r8.2).bind fun r9 =>
 (bo P .neq 3 (.tmp 8) (.tmp 11) r6.1 r9.1 r9.2).bind fun r10 =>
 cnd r10.1 (
 (vl (.bool false) r10.2).bind fun r11 =>
 some (r11.1, r11.2)) (
 (vl (.int .i64 0) r10.2).bind fun r12 =>
 laws_cfStore_l1 (ups (env0 #[x0, x1]) [(2, r1.1), (3, r2.1), (4, r3.1), (6, r4.1), (7, r5.1), (8, r6.1), (9, r7.1), (10, r8.1), (11, r9.1), (12, r10.1), (5, r12.1)]) r12.2) := by kernel_rfl
theorem spec_DrawChainPass_fn (x0 : Value) (w : World) : fnC P (EV P) 17 #[x0] w =
 (al P 25 w).bind fun r1 =>
 (vl (.int .i64 0) r1.2).bind fun r2 =>
 (vl x0 r2.2).bind fun r3 =>
 (EV P 38 #[r3.1] r3.2).bind fun r4 =>
 (vl r4.1 r4.2).bind fun r5 =>
 (vl r5.1 r5.2).bind fun r6 =>
 (EV P 39 #[r6.1] r6.2).bind fun r7 =>
 (al P 25 r7.2).bind fun r8 =>
 (st P 25 r8.1 r7.1 r8.2).bind fun r9 =>
 (ld P 25 r8.1 (dw r9.2)).bind fun r11 =>
 ifP (r11.2 = (dw r9.2)) <|
 (vl r5.1 (dw r9.2)).bind fun r12 =>
 ifP (r12.2 = (dw r9.2)) <|
 (bs P 85 8 #[(0, (.int .i64 0)), (1, (.int .i64 0)), (2, (.int .i64 0)), (3, (.int .i64 1)), (4, (.int .i64 1)), (5, (.int .i64 2)), (6, (.int .i64 3)), (7, (.int .i64 (-1)))] (dw r9.2)).bind fun r13 =>
 ifP (ld P 25 r8.1 r13.2 = some (r11.1, r13.2) ∧ True) <|
 (EV P 62 #[r12.1, r13.1] r13.2).bind fun r14 =>
 ifP (ld P 25 r8.1 r14.2 = some (r11.1, r14.2) ∧ True) <|
 (st P 25 r1.1 r11.1 r14.2).bind fun r15 =>
 ifP (True ∧ True) <|
 (vl r14.1 r15.2).bind fun r16 =>
 ifP (r16.2 = r15.2) <|
 ((ld P 25 r1.1 r15.2).bind fun r17 => ifP (r17.2 = r15.2) (some r17.1)).bind fun v18 =>
 some (.tuple #[v18, r16.1], r15.2) := by kernel_rfl
theorem impl_ChainPass_fn (x0 x1 : Value) (w : World) : fnC P (EV P) 18 #[x0, x1] w =
 (bx P 25 x0 w).bind fun r1 =>
 (bx P 3 x1 r1.2).bind fun r2 =>
 (al P 25 r2.2).bind fun r3 =>
 (vl (.bool false) r3.2).bind fun r4 =>
 (ld P 25 r1.1 r4.2).bind fun r5 =>
 (EV P 12 #[r5.1] r5.2).bind fun r6 =>
 (uo P .not r6.1 r6.2).bind fun r7 =>
 cnd r7.1 (
 (bd P 25 #[] r7.2).bind fun r8 =>
 (st P 25 r3.1 r8.1 r8.2).bind fun r9 =>
 (vl (.bool false) r9.2).bind fun r10 =>
 ((ld P 25 r3.1 r10.2).bind fun r11 => ifP (r11.2 = r10.2) (some r11.1)).bind fun v12 =>
 some (.tuple #[v12, r10.1], r10.2)) (
 (ld P 25 r1.1 r7.2).bind fun r13 =>
 (vl (.func (Go.Fn.func 63) #[] #[r2.1]) r13.2).bind fun r14 =>
 (EV P 41 #[r13.1, r14.1] r14.2).bind fun r15 =>
 (xt P r15.1 0 r15.2).bind fun r16 =>
 (xt P r15.1 1 r16.2).bind fun r17 =>
 (st P 25 r3.1 r16.1 r17.2).bind fun r18 =>
 (vl r17.1 r18.2).bind fun r19 =>
 ((ld P 25 r3.1 r19.2).bind fun r20 => ifP (r20.2 = r19.2) (some r20.1)).bind fun v21 =>
 some (.tuple #[v21, r19.1], r19.2)) := by kernel_rfl
theorem spec_ChainPass_fn (x0 x1 : Value) (w : World) : fnC P (EV P) 19 #[x0, x1] w =
 (bx P 25 x0 w).bind fun r1 =>
 (al P 25 r1.2).bind fun r2 =>
 (vl (.bool false) r2.2).bind fun r3 =>
 (ld P 25 r1.1 r3.2).bind fun r4 =>
 (EV P 44 #[r4.1] r4.2).bind fun r5 =>
 (uo P .not r5.1 r5.2).bind fun r6 =>
 cnd r6.1 (
 (bd P 25 #[] r6.2).bind fun r7 =>
 (st P 25 r2.1 r7.1 r7.2).bind fun r8 =>
 (vl (.bool false) r8.2).bind fun r9 =>
 ((ld P 25 r2.1 r9.2).bind fun r10 => ifP (r10.2 = r9.2) (some r10.1)).bind fun v11 =>
 some (.tuple #[v11, r9.1], r9.2)) (
 (ld P 25 r1.1 r6.2).bind fun r12 =>
 (vl x1 r12.2).bind fun r13 =>
 (EV P 65 #[r12.1, r13.1] r13.2).bind fun r14 =>
 (uo P .not r14.1 r14.2).bind fun r15 =>
 cnd r15.1 (
 (ld P 25 r1.1 r15.2).bind fun r16 =>
 (EV P 47 #[r16.1] r16.2).bind fun r17 =>
 (st P 25 r2.1 r17.1 r17.2).bind fun r18 =>
 (vl (.bool false) r18.2).bind fun r19 =>
 ((ld P 25 r2.1 r19.2).bind fun r20 => ifP (r20.2 = r19.2) (some r20.1)).bind fun v21 =>
 some (.tuple #[v21, r19.1], r19.2)) (
 (ld P 25 r1.1 r15.2).bind fun r22 =>
 (EV P 47 #[r22.1] r22.2).bind fun r23 =>
 (vl x1 r23.2).bind fun r24 =>
 (EV P 66 #[r23.1, r24.1] r24.2).bind fun r25 =>
 (st P 25 r2.1 r25.1 r25.2).bind fun r26 =>
 (vl (.bool true) r26.2).bind fun r27 =>
 ((ld P 25 r2.1 r27.2).bind fun r28 => ifP (r28.2 = r27.2) (some r28.1)).bind fun v29 =>
 some (.tuple #[v29, r27.1], r27.2))) := by kernel_rfl
noncomputable def impl_StoreOk_l1 (e : Env) (w : World) : Option (Value × World) := exC P (EV P) 22 33 (.loop (cA (cA (cB (cA (cB (Yi P 22))))))) e w (Yj 0 (kSeq P (EV P) 22 33 (cB (cB (Yi P 22))) (kFn P (fnOf P 22))))
theorem impl_StoreOk_l1_eq (e : Env) (w : World) : impl_StoreOk_l1 e w =
 (bo P .lss 3 (.tmp 8) (.tmp 7) (e 8) (e 7) w).bind fun r1 =>
 cnd r1.1 (
 (vl (e 8) r1.2).bind fun r2 =>
 (ia P 41 (e 6) (e 8) r2.2).bind fun r3 =>
 (ld P 32 r3.1 r3.2).bind fun r4 =>
 (al P 32 r4.2).bind fun r5 =>
 (vl r2.1 r5.2).bind fun r6 =>
 (st P 32 r5.1 r4.1 r6.2).bind fun r7 =>
 (ld P 32 r5.1 r7.2).bind fun r8 =>
 (bd P 32 #[] r8.2).bind fun r9 =>
 (EV P 71 #[r8.1, r9.1] r9.2).bind fun r10 =>
 (uo P .not r10.1 r10.2).bind fun r11 =>
 (vl r11.1 r11.2).bind fun r12 =>
 (gif r12.1 true (ld P 32 r5.1 r12.2) r12.2).bind fun r13 =>
 (gif r12.1 true (EV P 14 #[r13.1] r13.2) r13.2).bind fun r14 =>
 (gif r12.1 true (uo P .not r14.1 r14.2) r14.2).bind fun r15 =>
 (gif r12.1 true (vl r15.1 r15.2) r15.2).bind fun r16 =>
 (gif r16.1 false (fa P 32 r5.1 0 r16.2) r16.2).bind fun r17 =>
 (gif r16.1 false (ld P 3 r17.1 r17.2) r17.2).bind fun r18 =>
 (gif r16.1 false (vl r6.1 r18.2) r18.2).bind fun r19 =>
 (gif r16.1 false (bo P .neq 3 (.tmp 23) (.tmp 24) r18.1 r19.1 r19.2) r19.2).bind fun r20 =>
 (gif r12.1 true (pickV r16.1 (.bool true) r20.1 r20.2) r20.2).bind fun r21 =>
 (pickV r12.1 r21.1 (.bool false) r21.2).bind fun r22 =>
 cnd r22.1 (
 (vl (.bool false) r22.2).bind fun r23 =>
 some (r23.1, r23.2)) (
 (bo P .add 3 (.tmp 8) (.const (.int .i64 1)) (e 8) (.int .i64 1) r22.2).bind fun r24 =>
 (vl r24.1 r24.2).bind fun r25 =>
 impl_StoreOk_l1 (ups e [(9, r1.1), (10, r2.1), (11, r3.1), (12, r4.1), (4, r5.1), (3, r6.1), (13, r8.1), (14, r9.1), (15, r10.1), (16, r11.1), (17, r12.1), (18, r13.1), (19, r14.1), (20, r15.1), (21, r16.1), (22, r17.1), (23, r18.1), (24, r19.1), (25, r20.1), (26, r21.1), (27, r22.1), (28, r24.1), (8, r25.1)]) r25.2)) (
 (fa P 43 (e 1) 0 r1.2).bind fun r26 =>
 (ld P 41 r26.1 r26.2).bind fun r27 =>
 (Yo P #[41] 3 #[r27.1] r27.2).bind fun r28 =>
 (bo P .eql 3 (.tmp 31) (.const (.int .i64 4)) r28.1 (.int .i64 4) r28.2).bind fun r29 =>
 (vl r29.1 r29.2).bind fun r30 =>
 some (r30.1, r30.2)) := (exC_loop P (EV P) 22 33 (cA (cA (cB (cA (cB (Yi P 22)))))) e w (Yj 0 (kSeq P (EV P) 22 33 (cB (cB (Yi P 22))) (kFn P (fnOf P 22))))).trans (by kernel_rfl)
theorem impl_StoreOk_fn (x0 : Value) (w : World) : fnC P (EV P) 22 #[x0] w =
 (bx P 43 x0 w).bind fun r1 =>
 (vl (.bool false) r1.2).bind fun r2 =>
 (fa P 43 r1.1 0 r2.2).bind fun r3 =>
 (ld P 41 r3.1 r3.2).bind fun r4 =>
 (Yo P #[41] 3 #[r4.1] r4.2).bind fun r5 =>
 (vl (.int .i64 0) r5.2).bind fun r6 =>
 impl_StoreOk_l1 (ups (env0 #[x0]) [(1, r1.1), (2, r2.1), (5, r3.1), (6, r4.1), (7, r5.1), (8, r6.1)]) r6.2 := by kernel_rfl
end Go.Proofs.Ytjagkbamkohnoaa.X
