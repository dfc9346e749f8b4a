/- A part of the proof, without conditions. -/
import Derived.Test.YtjhhommnkaemlaaGreatEvT
set_option linter.unusedVariables false
set_option linter.unusedSimpArgs false
set_option linter.deprecated false
set_option maxRecDepth 100000
namespace Go.Proofs.YtjhhommnkaemlaaGreat.X
open Go Go.Ev
noncomputable def FH (e : Env) (w : World) : Option (Value × World) := Bt P (EV P) 138 59 (cB (cB (cB (cB (Af P 138))))) e w (Bf P (AB P 138))
theorem FQ (e : Env) (w : World) : FH e w =
 (ld P 81 (e 3) w).bind fun r1 =>
 (st P 81 (e 6) r1.1 r1.2).bind fun r2 =>
 ((ld P 81 (e 6) r2.2).bind fun r3 => Ah (r3.2 = r2.2) (some r3.1)).bind fun v4 =>
 some (v4, r2.2) := by kernel_rfl
theorem Mo (x0 x1 x2 : Value) (w : World) : Br P (EV P) 138 #[x0, x1, x2] w =
 (bx P 81 x0 w).bind fun r1 =>
 (bx P 49 x2 r1.2).bind fun r2 =>
 (al P 81 r2.2).bind fun r3 =>
 (fa P 81 r1.1 0 (dw r3.2)).bind fun r5 =>
 Ah (r5.2 = (dw r3.2)) <|
 (ld P 79 r5.1 (dw r3.2)).bind fun r6 =>
 Ah (r6.2 = (dw r3.2)) <|
 (vl x1 (dw r3.2)).bind fun r7 =>
 Ah (r7.2 = (dw r3.2)) <|
 (ia P 79 r6.1 r7.1 (dw r3.2)).bind fun r8 =>
 Ah (r8.2 = (dw r3.2)) <|
 (fa P 86 r8.1 0 (dw r3.2)).bind fun r9 =>
 Ah (r9.2 = (dw r3.2)) <|
 (fa P 44 r9.1 0 (dw r3.2)).bind fun r10 =>
 Ah (r10.2 = (dw r3.2)) <|
 (ld P 42 r10.1 (dw r3.2)).bind fun r11 =>
 Ah (r11.2 = (dw r3.2)) <|
 (fa P 49 r2.1 0 (dw r3.2)).bind fun r12 =>
 Ah (r12.2 = (dw r3.2)) <|
 (ld P 3 r12.1 (dw r3.2)).bind fun r13 =>
 Ah (r13.2 = (dw r3.2)) <|
 (ia P 42 r11.1 r13.1 (dw r3.2)).bind fun r14 =>
 Ah (r14.2 = (dw r3.2)) <|
 (fa P 49 r14.1 1 (dw r3.2)).bind fun r15 =>
 Ah (r15.2 = (dw r3.2)) <|
 (ld P 36 r15.1 (dw r3.2)).bind fun r16 =>
 Ah (r16.2 = (dw r3.2)) <|
 (fa P 49 r2.1 1 (dw r3.2)).bind fun r17 =>
 Ah (r17.2 = (dw r3.2)) <|
 (ld P 36 r17.1 (dw r3.2)).bind fun r18 =>
 Ah (r18.2 = (dw r3.2)) <|
 (EV P 63 #[r16.1, r18.1] (dw r3.2)).bind fun r19 =>
 Ah (True ∧ True ∧ True ∧ True ∧ True ∧ True ∧ True ∧ True ∧ True ∧ True ∧ True ∧ True ∧ True ∧ True) <|
 (uo P .not r19.1 r19.2).bind fun r20 =>
 Ah (r20.2 = r19.2) <|
 AR r20.1 (
 (ld P 81 r1.1 r19.2).bind fun r21 =>
 (st P 81 r3.1 r21.1 r21.2).bind fun r22 =>
 ((ld P 81 r3.1 r22.2).bind fun r23 => Ah (r23.2 = r22.2) (some r23.1)).bind fun v24 =>
 some (v24, r22.2)) (
 (fa P 81 r1.1 0 (dw r19.2)).bind fun r26 =>
 Ah (r26.2 = (dw r19.2)) <|
 (ld P 79 r26.1 (dw r19.2)).bind fun r27 =>
 Ah (r27.2 = (dw r19.2)) <|
 (vl x1 (dw r19.2)).bind fun r28 =>
 Ah (r28.2 = (dw r19.2)) <|
 (fa P 81 r1.1 0 (dw r19.2)).bind fun r29 =>
 Ah (r29.2 = (dw r19.2)) <|
 (ld P 79 r29.1 (dw r19.2)).bind fun r30 =>
 Ah (r30.2 = (dw r19.2)) <|
 (vl x1 (dw r19.2)).bind fun r31 =>
 Ah (r31.2 = (dw r19.2)) <|
 (ia P 79 r30.1 r31.1 (dw r19.2)).bind fun r32 =>
 Ah (r32.2 = (dw r19.2)) <|
 (fa P 86 r32.1 0 (dw r19.2)).bind fun r33 =>
 Ah (r33.2 = (dw r19.2)) <|
 (ld P 44 r33.1 (dw r19.2)).bind fun r34 =>
 Ah (r34.2 = (dw r19.2)) <|
 (ld P 49 r2.1 (dw r19.2)).bind fun r35 =>
 Ah (r35.2 = (dw r19.2)) <|
 (EV P 102 #[r34.1, r35.1] (dw r19.2)).bind fun r36 =>
 Ah (True ∧ True ∧ True ∧ True ∧ True ∧ True ∧ ld P 79 r26.1 r36.2 = some (r27.1, r36.2) ∧ fa P 81 r1.1 0 r36.2 = some (r26.1, r36.2) ∧ True) <|
 (ia P 79 r27.1 r28.1 r36.2).bind fun r37 =>
 Ah (r37.2 = r36.2) <|
 (fa P 86 r37.1 0 r36.2).bind fun r38 =>
 Ah (r38.2 = r36.2) <|
 (st P 44 r38.1 r36.1 r36.2).bind fun r39 =>
 Ah (True ∧ True ∧ True ∧ True ∧ True ∧ True ∧ True ∧ True ∧ True ∧ True ∧ True) <|
 (vl x1 r39.2).bind fun r40 =>
 (fa P 81 r1.1 0 r40.2).bind fun r41 =>
 (ld P 79 r41.1 r41.2).bind fun r42 =>
 (Ax P #[79] 3 #[r42.1] r42.2).bind fun r43 =>
 (bo P .sub 3 (.tmp 40) (.const (.int .i64 1)) r43.1 (.int .i64 1) r43.2).bind fun r44 =>
 (bo P .lss 3 (.tmp 37) (.tmp 41) r40.1 r44.1 r44.2).bind fun r45 =>
 AR r45.1 (
 (fa P 81 r1.1 0 (dw r45.2)).bind fun r47 =>
 Ah (r47.2 = (dw r45.2)) <|
 (ld P 79 r47.1 (dw r45.2)).bind fun r48 =>
 Ah (r48.2 = (dw r45.2)) <|
 (vl x1 (dw r45.2)).bind fun r49 =>
 Ah (r49.2 = (dw r45.2)) <|
 (fa P 81 r1.1 0 (dw r45.2)).bind fun r50 =>
 Ah (r50.2 = (dw r45.2)) <|
 (ld P 79 r50.1 (dw r45.2)).bind fun r51 =>
 Ah (r51.2 = (dw r45.2)) <|
 (vl x1 (dw r45.2)).bind fun r52 =>
 Ah (r52.2 = (dw r45.2)) <|
 (ia P 79 r51.1 r52.1 (dw r45.2)).bind fun r53 =>
 Ah (r53.2 = (dw r45.2)) <|
 (fa P 86 r53.1 1 (dw r45.2)).bind fun r54 =>
 Ah (r54.2 = (dw r45.2)) <|
 (ld P 42 r54.1 (dw r45.2)).bind fun r55 =>
 Ah (r55.2 = (dw r45.2)) <|
 (ld P 49 r2.1 (dw r45.2)).bind fun r56 =>
 Ah (r56.2 = (dw r45.2)) <|
 (EV P 98 #[r56.1] (dw r45.2)).bind fun r57 =>
 Ah (True ∧ ld P 42 r54.1 r57.2 = some (r55.1, r57.2) ∧ fa P 86 r53.1 1 r57.2 = some (r54.1, r57.2) ∧ ia P 79 r51.1 r52.1 r57.2 = some (r53.1, r57.2) ∧ ld P 79 r50.1 r57.2 = some (r51.1, r57.2) ∧ fa P 81 r1.1 0 r57.2 = some (r50.1, r57.2) ∧ ld P 79 r47.1 r57.2 = some (r48.1, r57.2) ∧ fa P 81 r1.1 0 r57.2 = some (r47.1, r57.2) ∧ True) <|
 (bs P 42 1 #[(0, r57.1)] r57.2).bind fun r58 =>
 Ah (True ∧ ld P 42 r54.1 r58.2 = some (r55.1, r58.2) ∧ fa P 86 r53.1 1 r58.2 = some (r54.1, r58.2) ∧ ia P 79 r51.1 r52.1 r58.2 = some (r53.1, r58.2) ∧ ld P 79 r50.1 r58.2 = some (r51.1, r58.2) ∧ fa P 81 r1.1 0 r58.2 = some (r50.1, r58.2) ∧ ld P 79 r47.1 r58.2 = some (r48.1, r58.2) ∧ fa P 81 r1.1 0 r58.2 = some (r47.1, r58.2) ∧ True) <|
 (Au P #[42, 42] 42 #[r55.1, r58.1] r58.2).bind fun r59 =>
 Ah (True ∧ True ∧ True ∧ True ∧ True ∧ True ∧ ld P 79 r47.1 r59.2 = some (r48.1, r59.2) ∧ fa P 81 r1.1 0 r59.2 = some (r47.1, r59.2) ∧ True) <|
 (ia P 79 r48.1 r49.1 r59.2).bind fun r60 =>
 Ah (r60.2 = r59.2) <|
 (fa P 86 r60.1 1 r59.2).bind fun r61 =>
 Ah (r61.2 = r59.2) <|
 (st P 42 r61.1 r59.1 r59.2).bind fun r62 =>
 Ah (True ∧ True ∧ True ∧ True ∧ True ∧ True ∧ True ∧ True ∧ True ∧ True ∧ True) <|
 FH (AK (AN #[x0, x1, x2]) [(3, r1.1), (5, r2.1), (6, r3.1), (7, r5.1), (8, r6.1), (9, r7.1), (10, r8.1), (11, r9.1), (12, r10.1), (13, r11.1), (14, r12.1), (15, r13.1), (16, r14.1), (17, r15.1), (18, r16.1), (19, r17.1), (20, r18.1), (21, r19.1), (22, r20.1), (24, r26.1), (25, r27.1), (26, r28.1), (27, r29.1), (28, r30.1), (29, r31.1), (30, r32.1), (31, r33.1), (32, r34.1), (33, r35.1), (34, r36.1), (35, r37.1), (36, r38.1), (37, r40.1), (38, r41.1), (39, r42.1), (40, r43.1), (41, r44.1), (42, r45.1), (43, r47.1), (44, r48.1), (45, r49.1), (46, r50.1), (47, r51.1), (48, r52.1), (49, r53.1), (50, r54.1), (51, r55.1), (52, r56.1), (53, r57.1), (54, r58.1), (55, r59.1), (56, r60.1), (57, r61.1)]) r62.2) (
 FH (AK (AN #[x0, x1, x2]) [(3, r1.1), (5, r2.1), (6, r3.1), (7, r5.1), (8, r6.1), (9, r7.1), (10, r8.1), (11, r9.1), (12, r10.1), (13, r11.1), (14, r12.1), (15, r13.1), (16, r14.1), (17, r15.1), (18, r16.1), (19, r17.1), (20, r18.1), (21, r19.1), (22, r20.1), (24, r26.1), (25, r27.1), (26, r28.1), (27, r29.1), (28, r30.1), (29, r31.1), (30, r32.1), (31, r33.1), (32, r34.1), (33, r35.1), (34, r36.1), (35, r37.1), (36, r38.1), (37, r40.1), (38, r41.1), (39, r42.1), (40, r43.1), (41, r44.1), (42, r45.1)]) r45.2)) := by kernel_rfl
noncomputable def Cp (e : Env) (w : World) : Option (Value × World) := Bt P (EV P) 139 19 (.loop (cA (cA (cB (cA (cB (Af P 139))))))) e w (Al 0 (Ay P (EV P) 139 19 (cB (cB (Af P 139))) (Bf P (AB P 139))))
theorem Ei (e : Env) (w : World) : Cp e w =
 (vl (e 5) w).bind fun r1 =>
 (vl (e 0) r1.2).bind fun r2 =>
 (Ax P #[42] 3 #[r2.1] r2.2).bind fun r3 =>
 (bo P .lss 3 (.tmp 6) (.tmp 8) r1.1 r3.1 r3.2).bind fun r4 =>
 AR r4.1 (
 (vl (e 0) (dw r4.2)).bind fun r6 =>
 Ah (r6.2 = (dw r4.2)) <|
 (vl (e 5) (dw r4.2)).bind fun r7 =>
 Ah (r7.2 = (dw r4.2)) <|
 (ia P 42 r6.1 r7.1 (dw r4.2)).bind fun r8 =>
 Ah (r8.2 = (dw r4.2)) <|
 (fa P 49 r8.1 1 (dw r4.2)).bind fun r9 =>
 Ah (r9.2 = (dw r4.2)) <|
 (ld P 36 r9.1 (dw r4.2)).bind fun r10 =>
 Ah (r10.2 = (dw r4.2)) <|
 (ld P 36 (e 3) (dw r4.2)).bind fun r11 =>
 Ah (r11.2 = (dw r4.2)) <|
 (bo P .eql 36 (.tmp 16) (.tmp 17) r10.1 r11.1 (dw r4.2)).bind fun r12 =>
 Ah (r12.2 = (dw r4.2)) <|
 AR r12.1 (
 (vl (.bool true) (dw r4.2)).bind fun r13 =>
 some (r13.1, r13.2)) (
 (vl (e 5) (dw r4.2)).bind fun r14 =>
 (bo P .add 3 (.tmp 10) (.const (.int .i64 1)) r14.1 (.int .i64 1) r14.2).bind fun r15 =>
 (vl r15.1 r15.2).bind fun r16 =>
 Cp (AK e [(6, r1.1), (7, r2.1), (8, r3.1), (9, r4.1), (12, r6.1), (13, r7.1), (14, r8.1), (15, r9.1), (16, r10.1), (17, r11.1), (18, r12.1), (10, r14.1), (11, r15.1), (5, r16.1)]) r16.2)) (
 (vl (.bool false) r4.2).bind fun r17 =>
 some (r17.1, r17.2)) := (AA P (EV P) 139 19 (cA (cA (cB (cA (cB (Af P 139)))))) e w (Al 0 (Ay P (EV P) 139 19 (cB (cB (Af P 139))) (Bf P (AB P 139))))).trans (by kernel_rfl)
theorem Jl (x0 x1 : Value) (w : World) : Br P (EV P) 139 #[x0, x1] w =
 (bx P 36 x1 w).bind fun r1 =>
 (vl (.bool false) r1.2).bind fun r2 =>
 (vl (.int .i64 0) r2.2).bind fun r3 =>
 Cp (AK (AN #[x0, x1]) [(3, r1.1), (4, r2.1), (5, r3.1)]) r3.2 := by kernel_rfl
noncomputable def CY (e : Env) (w : World) : Option (Value × World) := Bt P (EV P) 140 68 (.loop (cA (cA (cB (cA (cB (cB (Af P 140)))))))) e w (Al 0 (Ay P (EV P) 140 68 (cB (cB (cB (Af P 140)))) (Bf P (AB P 140))))
noncomputable def Cj (e : Env) (w : World) : Option (Value × World) := Bt P (EV P) 140 68 (cB (cB (cA (cA (cB (cA (cB (cB (Af P 140))))))))) e w (CO P (EV P) 140 68 (cA (cA (cB (cA (cB (cB (Af P 140))))))) (Al 0 (Ay P (EV P) 140 68 (cB (cB (cB (Af P 140)))) (Bf P (AB P 140)))))
noncomputable def CZ (e : Env) (w : World) : Option (Value × World) := Bt P (EV P) 140 68 (.loop (cA (cA (cA (cB (cB (cA (cA (cB (cA (cA (cB (cA (cB (cB (Af P 140)))))))))))))))) e w (Al 2 (Ay P (EV P) 140 68 (cB (cB (cB (cA (cA (cB (cA (cA (cB (cA (cB (cB (Af P 140))))))))))))) (Al 1 (Ay P (EV P) 140 68 (cB (cB (cA (cA (cB (cA (cB (cB (Af P 140))))))))) (CO P (EV P) 140 68 (cA (cA (cB (cA (cB (cB (Af P 140))))))) (Al 0 (Ay P (EV P) 140 68 (cB (cB (cB (Af P 140)))) (Bf P (AB P 140)))))))))
theorem Fa (e : Env) (w : World) : CY e w =
 (vl (e 6) w).bind fun r1 =>
 (bo P .lss 3 (.tmp 10) (.const (.int .i64 4)) r1.1 (.int .i64 4) r1.2).bind fun r2 =>
 AR r2.1 (
 (fa P 44 (e 3) 0 (dw r2.2)).bind fun r4 =>
 Ah (r4.2 = (dw r2.2)) <|
 (ld P 42 r4.1 (dw r2.2)).bind fun r5 =>
 Ah (r5.2 = (dw r2.2)) <|
 (vl (e 6) (dw r2.2)).bind fun r6 =>
 Ah (r6.2 = (dw r2.2)) <|
 (ia P 42 r5.1 r6.1 (dw r2.2)).bind fun r7 =>
 Ah (r7.2 = (dw r2.2)) <|
 (fa P 49 r7.1 1 (dw r2.2)).bind fun r8 =>
 Ah (r8.2 = (dw r2.2)) <|
 (ld P 36 r8.1 (dw r2.2)).bind fun r9 =>
 Ah (r9.2 = (dw r2.2)) <|
 (fa P 44 (e 2) 0 (dw r2.2)).bind fun r10 =>
 Ah (r10.2 = (dw r2.2)) <|
 (ld P 42 r10.1 (dw r2.2)).bind fun r11 =>
 Ah (r11.2 = (dw r2.2)) <|
 (vl (e 6) (dw r2.2)).bind fun r12 =>
 Ah (r12.2 = (dw r2.2)) <|
 (ia P 42 r11.1 r12.1 (dw r2.2)).bind fun r13 =>
 Ah (r13.2 = (dw r2.2)) <|
 (fa P 49 r13.1 1 (dw r2.2)).bind fun r14 =>
 Ah (r14.2 = (dw r2.2)) <|
 (ld P 36 r14.1 (dw r2.2)).bind fun r15 =>
 Ah (r15.2 = (dw r2.2)) <|
 (EV P 63 #[r9.1, r15.1] (dw r2.2)).bind fun r16 =>
 Ah (True ∧ True ∧ True ∧ True ∧ True ∧ True ∧ True ∧ True ∧ True ∧ True ∧ True) <|
 (uo P .not r16.1 r16.2).bind fun r17 =>
 Ah (r17.2 = r16.2) <|
 AR r17.1 (
 Cj (AK e [(10, r1.1), (11, r2.1), (14, r4.1), (15, r5.1), (16, r6.1), (17, r7.1), (18, r8.1), (19, r9.1), (20, r10.1), (21, r11.1), (22, r12.1), (23, r13.1), (24, r14.1), (25, r15.1), (26, r16.1), (27, r17.1)]) r16.2) (
 (vl (.int .i64 0) r16.2).bind fun r18 =>
 CZ (AK e [(10, r1.1), (11, r2.1), (14, r4.1), (15, r5.1), (16, r6.1), (17, r7.1), (18, r8.1), (19, r9.1), (20, r10.1), (21, r11.1), (22, r12.1), (23, r13.1), (24, r14.1), (25, r15.1), (26, r16.1), (27, r17.1), (7, r18.1)]) r18.2)) (
 (vl (e 5) r2.2).bind fun r19 =>
 (vl r19.1 r19.2).bind fun r20 =>
 some (r20.1, r20.2)) := (AA P (EV P) 140 68 (cA (cA (cB (cA (cB (cB (Af P 140))))))) e w (Al 0 (Ay P (EV P) 140 68 (cB (cB (cB (Af P 140)))) (Bf P (AB P 140))))).trans (by kernel_rfl)
theorem Iu (e : Env) (w : World) : Cj e w =
 (vl (e 6) w).bind fun r1 =>
 (bo P .add 3 (.tmp 12) (.const (.int .i64 1)) r1.1 (.int .i64 1) r1.2).bind fun r2 =>
 (vl r2.1 r2.2).bind fun r3 =>
 CY (AK e [(12, r1.1), (13, r2.1), (6, r3.1)]) r3.2 := by kernel_rfl
theorem Fb (e : Env) (w : World) : CZ e w =
 (vl (e 7) (dw w)).bind fun r2 =>
 Ah (r2.2 = (dw w)) <|
 (vl (e 5) (dw w)).bind fun r3 =>
 Ah (r3.2 = (dw w)) <|
 (Ax P #[42] 3 #[r3.1] (dw w)).bind fun r4 =>
 Ah (r4.2 = (dw w)) <|
 (bo P .lss 3 (.tmp 28) (.tmp 30) r2.1 r4.1 (dw w)).bind fun r5 =>
 Ah (r5.2 = (dw w)) <|
 (vl r5.1 (dw w)).bind fun r6 =>
 Ah (r6.2 = (dw w)) <|
 (Ao r6.1 true (vl (e 5) (dw w)) (dw w)).bind fun r7 =>
 Ah (r7.2 = (dw w)) <|
 (Ao r6.1 true (vl (e 7) (dw w)) (dw w)).bind fun r8 =>
 Ah (r8.2 = (dw w)) <|
 (Ao r6.1 true (ia P 42 r7.1 r8.1 (dw w)) (dw w)).bind fun r9 =>
 Ah (r9.2 = (dw w)) <|
 (Ao r6.1 true (fa P 49 r9.1 1 (dw w)) (dw w)).bind fun r10 =>
 Ah (r10.2 = (dw w)) <|
 (Ao r6.1 true (ld P 36 r10.1 (dw w)) (dw w)).bind fun r11 =>
 Ah (r11.2 = (dw w)) <|
 (Ao r6.1 true (fa P 44 (e 2) 0 (dw w)) (dw w)).bind fun r12 =>
 Ah (r12.2 = (dw w)) <|
 (Ao r6.1 true (ld P 42 r12.1 (dw w)) (dw w)).bind fun r13 =>
 Ah (r13.2 = (dw w)) <|
 (Ao r6.1 true (vl (e 6) (dw w)) (dw w)).bind fun r14 =>
 Ah (r14.2 = (dw w)) <|
 (Ao r6.1 true (ia P 42 r13.1 r14.1 (dw w)) (dw w)).bind fun r15 =>
 Ah (r15.2 = (dw w)) <|
 (Ao r6.1 true (fa P 49 r15.1 1 (dw w)) (dw w)).bind fun r16 =>
 Ah (r16.2 = (dw w)) <|
 (Ao r6.1 true (ld P 36 r16.1 (dw w)) (dw w)).bind fun r17 =>
 Ah (r17.2 = (dw w)) <|
 (Ao r6.1 true (EV P 63 #[r11.1, r17.1] (dw w)) (dw w)).bind fun r18 =>
 Ah (True ∧ True ∧ True ∧ True ∧ True ∧ True ∧ True ∧ True ∧ True ∧ True ∧ True) <|
 (Az r6.1 r18.1 (.bool false) r18.2).bind fun r19 =>
 Ah (r19.2 = r18.2) <|
 AR r19.1 (
 (vl (e 7) r18.2).bind fun r20 =>
 (bo P .add 3 (.tmp 46) (.const (.int .i64 1)) r20.1 (.int .i64 1) r20.2).bind fun r21 =>
 (vl r21.1 r21.2).bind fun r22 =>
 CZ (AK e [(28, r2.1), (29, r3.1), (30, r4.1), (31, r5.1), (32, r6.1), (33, r7.1), (34, r8.1), (35, r9.1), (36, r10.1), (37, r11.1), (38, r12.1), (39, r13.1), (40, r14.1), (41, r15.1), (42, r16.1), (43, r17.1), (44, r18.1), (45, r19.1), (46, r20.1), (47, r21.1), (7, r22.1)]) r22.2) (
 (bs P 42 0 #[] r18.2).bind fun r23 =>
 (vl (e 5) r23.2).bind fun r24 =>
 (vl (e 7) r24.2).bind fun r25 =>
 (sl P 42 r24.1 none (some r25.1) none r25.2).bind fun r26 =>
 (Au P #[42, 42] 42 #[r23.1, r26.1] r26.2).bind fun r27 =>
 (vl r27.1 r27.2).bind fun r28 =>
 (vl r28.1 r28.2).bind fun r29 =>
 (fa P 44 (e 2) 0 r29.2).bind fun r30 =>
 (ld P 42 r30.1 r30.2).bind fun r31 =>
 (vl (e 6) r31.2).bind fun r32 =>
 (ia P 42 r31.1 r32.1 r32.2).bind fun r33 =>
 (ld P 49 r33.1 r33.2).bind fun r34 =>
 (EV P 98 #[r34.1] r34.2).bind fun r35 =>
 (bs P 42 1 #[(0, r35.1)] r35.2).bind fun r36 =>
 (Au P #[42, 42] 42 #[r29.1, r36.1] r36.2).bind fun r37 =>
 (vl r37.1 r37.2).bind fun r38 =>
 (vl r38.1 r38.2).bind fun r39 =>
 (vl (e 5) r39.2).bind fun r40 =>
 (vl (e 7) r40.2).bind fun r41 =>
 (sl P 42 r40.1 (some r41.1) none none r41.2).bind fun r42 =>
 (Au P #[42, 42] 42 #[r39.1, r42.1] r42.2).bind fun r43 =>
 (vl r43.1 r43.2).bind fun r44 =>
 Cj (AK e [(28, r2.1), (29, r3.1), (30, r4.1), (31, r5.1), (32, r6.1), (33, r7.1), (34, r8.1), (35, r9.1), (36, r10.1), (37, r11.1), (38, r12.1), (39, r13.1), (40, r14.1), (41, r15.1), (42, r16.1), (43, r17.1), (44, r18.1), (45, r19.1), (48, r23.1), (49, r24.1), (50, r25.1), (51, r26.1), (52, r27.1), (8, r28.1), (53, r29.1), (54, r30.1), (55, r31.1), (56, r32.1), (57, r33.1), (58, r34.1), (59, r35.1), (60, r36.1), (61, r37.1), (8, r38.1), (62, r39.1), (63, r40.1), (64, r41.1), (65, r42.1), (66, r43.1), (5, r44.1)]) r44.2) := (AA P (EV P) 140 68 (cA (cA (cA (cB (cB (cA (cA (cB (cA (cA (cB (cA (cB (cB (Af P 140))))))))))))))) e w (Al 2 (Ay P (EV P) 140 68 (cB (cB (cB (cA (cA (cB (cA (cA (cB (cA (cB (cB (Af P 140))))))))))))) (Al 1 (Ay P (EV P) 140 68 (cB (cB (cA (cA (cB (cA (cB (cB (Af P 140))))))))) (CO P (EV P) 140 68 (cA (cA (cB (cA (cB (cB (Af P 140))))))) (Al 0 (Ay P (EV P) 140 68 (cB (cB (cB (Af P 140)))) (Bf P (AB P 140)))))))))).trans (by kernel_rfl)
theorem KJ (x0 x1 : Value) (w : World) : Br P (EV P) 140 #[x0, x1] w =
 (bx P 44 x0 w).bind fun r1 =>
 (bx P 44 x1 r1.2).bind fun r2 =>
 (vl (Go.Value.slice none 0 0) r2.2).bind fun r3 =>
 (bs P 42 0 #[] r3.2).bind fun r4 =>
 (vl r4.1 r4.2).bind fun r5 =>
 (vl (.int .i64 0) r5.2).bind fun r6 =>
 CY (AK (AN #[x0, x1]) [(2, r1.1), (3, r2.1), (4, r3.1), (9, r4.1), (5, r5.1), (6, r6.1)]) r6.2 := by kernel_rfl
noncomputable def CI (e : Env) (w : World) : Option (Value × World) := Bt P (EV P) 141 43 (.loop (cA (cA (cB (cA (cB (cB (Af P 141)))))))) e w (Al 0 (Ay P (EV P) 141 43 (cB (cB (cB (Af P 141)))) (Bf P (AB P 141))))
theorem EH (e : Env) (w : World) : CI e w =
 (vl (e 6) w).bind fun r1 =>
 (fa P 84 (e 2) 4 r1.2).bind fun r2 =>
 (ld P 82 r2.1 r2.2).bind fun r3 =>
 (vl (e 1) r3.2).bind fun r4 =>
 (ia P 82 r3.1 r4.1 r4.2).bind fun r5 =>
 (ld P 42 r5.1 r5.2).bind fun r6 =>
 (Ax P #[42] 3 #[r6.1] r6.2).bind fun r7 =>
 (bo P .lss 3 (.tmp 14) (.tmp 20) r1.1 r7.1 r7.2).bind fun r8 =>
 AR r8.1 (
 (fa P 84 (e 2) 4 r8.2).bind fun r9 =>
 (ld P 82 r9.1 r9.2).bind fun r10 =>
 (vl (e 1) r10.2).bind fun r11 =>
 (ia P 82 r10.1 r11.1 r11.2).bind fun r12 =>
 (ld P 42 r12.1 r12.2).bind fun r13 =>
 (vl (e 6) r13.2).bind fun r14 =>
 (ia P 42 r13.1 r14.1 r14.2).bind fun r15 =>
 (ld P 49 r15.1 r15.2).bind fun r16 =>
 (al P 49 r16.2).bind fun r17 =>
 (st P 49 r17.1 r16.1 r17.2).bind fun r18 =>
 (fa P 44 (e 5) 0 (dw r18.2)).bind fun r20 =>
 Ah (r20.2 = (dw r18.2)) <|
 (ld P 42 r20.1 (dw r18.2)).bind fun r21 =>
 Ah (r21.2 = (dw r18.2)) <|
 (fa P 49 r17.1 0 (dw r18.2)).bind fun r22 =>
 Ah (r22.2 = (dw r18.2)) <|
 (ld P 3 r22.1 (dw r18.2)).bind fun r23 =>
 Ah (r23.2 = (dw r18.2)) <|
 (ia P 42 r21.1 r23.1 (dw r18.2)).bind fun r24 =>
 Ah (r24.2 = (dw r18.2)) <|
 (fa P 49 r24.1 1 (dw r18.2)).bind fun r25 =>
 Ah (r25.2 = (dw r18.2)) <|
 (ld P 36 r25.1 (dw r18.2)).bind fun r26 =>
 Ah (r26.2 = (dw r18.2)) <|
 (fa P 49 r17.1 1 (dw r18.2)).bind fun r27 =>
 Ah (r27.2 = (dw r18.2)) <|
 (ld P 36 r27.1 (dw r18.2)).bind fun r28 =>
 Ah (r28.2 = (dw r18.2)) <|
 (EV P 63 #[r26.1, r28.1] (dw r18.2)).bind fun r29 =>
 Ah (True ∧ True ∧ True ∧ True ∧ True ∧ True ∧ True ∧ True ∧ True ∧ True) <|
 AR r29.1 (
 (vl (e 6) r29.2).bind fun r30 =>
 (vl r30.1 r30.2).bind fun r31 =>
 some (r31.1, r31.2)) (
 (vl (e 6) r29.2).bind fun r32 =>
 (bo P .add 3 (.tmp 22) (.const (.int .i64 1)) r32.1 (.int .i64 1) r32.2).bind fun r33 =>
 (vl r33.1 r33.2).bind fun r34 =>
 CI (AK e [(14, r1.1), (15, r2.1), (16, r3.1), (17, r4.1), (18, r5.1), (19, r6.1), (20, r7.1), (21, r8.1), (24, r9.1), (25, r10.1), (26, r11.1), (27, r12.1), (28, r13.1), (29, r14.1), (30, r15.1), (31, r16.1), (7, r17.1), (32, r20.1), (33, r21.1), (34, r22.1), (35, r23.1), (36, r24.1), (37, r25.1), (38, r26.1), (39, r27.1), (40, r28.1), (41, r29.1), (22, r32.1), (23, r33.1), (6, r34.1)]) r34.2)) (
 (vl (.int .i64 (-1)) r8.2).bind fun r35 =>
 some (r35.1, r35.2)) := (AA P (EV P) 141 43 (cA (cA (cB (cA (cB (cB (Af P 141))))))) e w (Al 0 (Ay P (EV P) 141 43 (cB (cB (cB (Af P 141)))) (Bf P (AB P 141))))).trans (by kernel_rfl)
theorem J5 (x0 x1 : Value) (w : World) : Br P (EV P) 141 #[x0, x1] w =
 (bx P 84 x0 w).bind fun r1 =>
 (vl (.int .i64 0) r1.2).bind fun r2 =>
 (fa P 84 r1.1 2 r2.2).bind fun r3 =>
 (fa P 81 r3.1 0 r3.2).bind fun r4 =>
 (ld P 79 r4.1 r4.2).bind fun r5 =>
 (ia P 79 r5.1 (.int .i64 0) r5.2).bind fun r6 =>
 (fa P 86 r6.1 0 r6.2).bind fun r7 =>
 (ld P 44 r7.1 r7.2).bind fun r8 =>
 (al P 44 r8.2).bind fun r9 =>
 (st P 44 r9.1 r8.1 r9.2).bind fun r10 =>
 (vl (.int .i64 0) r10.2).bind fun r11 =>
 CI (AK (AN #[x0, x1]) [(2, r1.1), (4, r2.1), (8, r3.1), (9, r4.1), (10, r5.1), (11, r6.1), (12, r7.1), (13, r8.1), (5, r9.1), (6, r11.1)]) r11.2 := by kernel_rfl
theorem KK (x0 : Value) (w : World) : Br P (EV P) 142 #[x0] w =
 (bx P 81 x0 w).bind fun r1 =>
 (vl (.bool false) r1.2).bind fun r2 =>
 (fa P 81 r1.1 0 r2.2).bind fun r3 =>
 (ld P 79 r3.1 r3.2).bind fun r4 =>
 (ia P 79 r4.1 (.int .i64 0) r4.2).bind fun r5 =>
 (fa P 86 r5.1 1 r5.2).bind fun r6 =>
 (ld P 42 r6.1 r6.2).bind fun r7 =>
 (Ax P #[42] 3 #[r7.1] r7.2).bind fun r8 =>
 (bo P .lss 3 (.tmp 8) (.const (.int .i64 6)) r8.1 (.int .i64 6) r8.2).bind fun r9 =>
 (vl r9.1 r9.2).bind fun r10 =>
 some (r10.1, r10.2) := by kernel_rfl
theorem Jm (x0 : Value) (w : World) : Br P (EV P) 143 #[x0] w =
 (bx P 81 x0 w).bind fun r1 =>
 (al P 32 r1.2).bind fun r2 =>
 (fa P 81 r1.1 0 r2.2).bind fun r3 =>
 (ld P 79 r3.1 r3.2).bind fun r4 =>
 (fa P 81 r1.1 0 r4.2).bind fun r5 =>
 (ld P 79 r5.1 r5.2).bind fun r6 =>
 (Ax P #[79] 3 #[r6.1] r6.2).bind fun r7 =>
 (bo P .sub 3 (.tmp 7) (.const (.int .i64 1)) r7.1 (.int .i64 1) r7.2).bind fun r8 =>
 (ia P 79 r4.1 r8.1 r8.2).bind fun r9 =>
 (fa P 86 r9.1 0 r9.2).bind fun r10 =>
 (ld P 44 r10.1 r10.2).bind fun r11 =>
 (EV P 83 #[r11.1] r11.2).bind fun r12 =>
 (st P 32 r2.1 r12.1 r12.2).bind fun r13 =>
 ((ld P 32 r2.1 r13.2).bind fun r14 => Ah (r14.2 = r13.2) (some r14.1)).bind fun v15 =>
 some (v15, r13.2) := by kernel_rfl
noncomputable def C4 (e : Env) (w : World) : Option (Value × World) := Bt P (EV P) 144 29 (.loop (cA (cA (cB (cA (cB (cB (Af P 144)))))))) e w (Al 0 (Ay P (EV P) 144 29 (cB (cB (cB (Af P 144)))) (Bf P (AB P 144))))
noncomputable def EI (e : Env) (w : World) : Option (Value × World) := Bt P (EV P) 144 29 (cB (cB (cA (cA (cB (cA (cB (cB (Af P 144))))))))) e w (CO P (EV P) 144 29 (cA (cA (cB (cA (cB (cB (Af P 144))))))) (Al 0 (Ay P (EV P) 144 29 (cB (cB (cB (Af P 144)))) (Bf P (AB P 144)))))
theorem Fc (e : Env) (w : World) : C4 e w =
 (vl (e 6) w).bind fun r1 =>
 (bo P .lss 3 (.tmp 9) (.const (.int .i64 4)) r1.1 (.int .i64 4) r1.2).bind fun r2 =>
 AR r2.1 (
 (fa P 32 (e 3) 0 r2.2).bind fun r3 =>
 (ld P 30 r3.1 r3.2).bind fun r4 =>
 (vl (e 6) r4.2).bind fun r5 =>
 (ia P 30 r4.1 r5.1 r5.2).bind fun r6 =>
 (fa P 36 r6.1 0 r6.2).bind fun r7 =>
 (ld P 3 r7.1 r7.2).bind fun r8 =>
 (vl (e 5) r8.2).bind fun r9 =>
 (bo P .gtr 3 (.tmp 18) (.tmp 19) r8.1 r9.1 r9.2).bind fun r10 =>
 AR r10.1 (
 (fa P 32 (e 3) 0 r10.2).bind fun r11 =>
 (ld P 30 r11.1 r11.2).bind fun r12 =>
 (vl (e 6) r12.2).bind fun r13 =>
 (ia P 30 r12.1 r13.1 r13.2).bind fun r14 =>
 (fa P 36 r14.1 0 r14.2).bind fun r15 =>
 (ld P 3 r15.1 r15.2).bind fun r16 =>
 (vl r16.1 r16.2).bind fun r17 =>
 EI (AK e [(9, r1.1), (10, r2.1), (13, r3.1), (14, r4.1), (15, r5.1), (16, r6.1), (17, r7.1), (18, r8.1), (19, r9.1), (20, r10.1), (21, r11.1), (22, r12.1), (23, r13.1), (24, r14.1), (25, r15.1), (26, r16.1), (5, r17.1)]) r17.2) (
 EI (AK e [(9, r1.1), (10, r2.1), (13, r3.1), (14, r4.1), (15, r5.1), (16, r6.1), (17, r7.1), (18, r8.1), (19, r9.1), (20, r10.1)]) r10.2)) (
 (vl (e 5) r2.2).bind fun r18 =>
 (bo P .add 3 (.tmp 27) (.const (.int .i64 1)) r18.1 (.int .i64 1) r18.2).bind fun r19 =>
 (vl r19.1 r19.2).bind fun r20 =>
 some (r20.1, r20.2)) := (AA P (EV P) 144 29 (cA (cA (cB (cA (cB (cB (Af P 144))))))) e w (Al 0 (Ay P (EV P) 144 29 (cB (cB (cB (Af P 144)))) (Bf P (AB P 144))))).trans (by kernel_rfl)
theorem Fe (e : Env) (w : World) : EI e w =
 (vl (e 6) w).bind fun r1 =>
 (bo P .add 3 (.tmp 11) (.const (.int .i64 1)) r1.1 (.int .i64 1) r1.2).bind fun r2 =>
 (vl r2.1 r2.2).bind fun r3 =>
 C4 (AK e [(11, r1.1), (12, r2.1), (6, r3.1)]) r3.2 := by kernel_rfl
theorem KL (x0 x1 : Value) (w : World) : Br P (EV P) 144 #[x0, x1] w =
 (bx P 84 x0 w).bind fun r1 =>
 (bx P 32 x1 r1.2).bind fun r2 =>
 (vl (.int .i64 0) r2.2).bind fun r3 =>
 (fa P 84 r1.1 1 r3.2).bind fun r4 =>
 (ld P 3 r4.1 r4.2).bind fun r5 =>
 (vl r5.1 r5.2).bind fun r6 =>
 (vl (.int .i64 0) r6.2).bind fun r7 =>
 C4 (AK (AN #[x0, x1]) [(2, r1.1), (3, r2.1), (4, r3.1), (7, r4.1), (8, r5.1), (5, r6.1), (6, r7.1)]) r7.2 := by kernel_rfl
end Go.Proofs.YtjhhommnkaemlaaGreat.X
