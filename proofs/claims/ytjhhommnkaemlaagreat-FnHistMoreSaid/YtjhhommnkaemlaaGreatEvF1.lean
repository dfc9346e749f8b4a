/- A part of the proof, without conditions. -/
import Derived.Test.YtjhhommnkaemlaaGreatEvT
set_option linter.unusedVariables false
set_option linter.unusedSimpArgs false
set_option linter.deprecated false
set_option maxRecDepth 100000
namespace Go.Proofs.YtjhhommnkaemlaaGreat.X
open Go Go.Ev
noncomputable def CS (e : Env) (w : World) : Option (Value × World) := Bt P (EV P) 31 136 (.loop (cA (cA (cB (cA (cB (cB (Af P 31)))))))) e w (Al 0 (Ay P (EV P) 31 136 (cB (cB (cB (Af P 31)))) (Bf P (AB P 31))))
noncomputable def CT (e : Env) (w : World) : Option (Value × World) := Bt P (EV P) 31 136 (.loop (cA (cA (cB (cA (cB (cB (cB (cB (Af P 31)))))))))) e w (Al 2 (Ay P (EV P) 31 136 (cB (cB (cB (cB (cB (Af P 31)))))) (Bf P (AB P 31))))
noncomputable def EC (e : Env) (w : World) : Option (Value × World) := Bt P (EV P) 31 136 (cA (cA (cB (cA (cB (cB (cA (cA (cB (cA (cA (cB (cA (cB (cB (cB (cB (Af P 31)))))))))))))))))) e w (Ay P (EV P) 31 136 (cB (cA (cB (cA (cB (cB (cA (cA (cB (cA (cA (cB (cA (cB (cB (cB (cB (Af P 31)))))))))))))))))) (Ay P (EV P) 31 136 (cB (cB (cB (cA (cA (cB (cA (cA (cB (cA (cB (cB (cB (cB (Af P 31))))))))))))))) (Al 3 (Ay P (EV P) 31 136 (cB (cB (cA (cA (cB (cA (cB (cB (cB (cB (Af P 31))))))))))) (CO P (EV P) 31 136 (cA (cA (cB (cA (cB (cB (cB (cB (Af P 31))))))))) (Al 2 (Ay P (EV P) 31 136 (cB (cB (cB (cB (cB (Af P 31)))))) (Bf P (AB P 31)))))))))
noncomputable def ED (e : Env) (w : World) : Option (Value × World) := Bt P (EV P) 31 136 (cA (cA (cB (cA (cB (cB (cB (cB (cA (cA (cB (cA (cA (cB (cA (cB (cB (cB (cB (Af P 31)))))))))))))))))))) e w (Ay P (EV P) 31 136 (cB (cA (cB (cA (cB (cB (cB (cB (cA (cA (cB (cA (cA (cB (cA (cB (cB (cB (cB (Af P 31)))))))))))))))))))) (Ay P (EV P) 31 136 (cB (cB (cB (cB (cB (cA (cA (cB (cA (cA (cB (cA (cB (cB (cB (cB (Af P 31))))))))))))))))) (Al 3 (Ay P (EV P) 31 136 (cB (cB (cA (cA (cB (cA (cB (cB (cB (cB (Af P 31))))))))))) (CO P (EV P) 31 136 (cA (cA (cB (cA (cB (cB (cB (cB (Af P 31))))))))) (Al 2 (Ay P (EV P) 31 136 (cB (cB (cB (cB (cB (Af P 31)))))) (Bf P (AB P 31)))))))))
noncomputable def CU (e : Env) (w : World) : Option (Value × World) := Bt P (EV P) 31 136 (cB (cB (cB (cB (cB (cA (cA (cB (cA (cA (cB (cA (cB (cB (cB (cB (Af P 31))))))))))))))))) e w (Al 3 (Ay P (EV P) 31 136 (cB (cB (cA (cA (cB (cA (cB (cB (cB (cB (Af P 31))))))))))) (CO P (EV P) 31 136 (cA (cA (cB (cA (cB (cB (cB (cB (Af P 31))))))))) (Al 2 (Ay P (EV P) 31 136 (cB (cB (cB (cB (cB (Af P 31)))))) (Bf P (AB P 31)))))))
noncomputable def CV (e : Env) (w : World) : Option (Value × World) := Bt P (EV P) 31 136 (cB (cA (cB (cA (cB (cB (cA (cA (cB (cA (cA (cB (cA (cB (cB (cB (cB (Af P 31)))))))))))))))))) e w (Ay P (EV P) 31 136 (cB (cB (cB (cA (cA (cB (cA (cA (cB (cA (cB (cB (cB (cB (Af P 31))))))))))))))) (Al 3 (Ay P (EV P) 31 136 (cB (cB (cA (cA (cB (cA (cB (cB (cB (cB (Af P 31))))))))))) (CO P (EV P) 31 136 (cA (cA (cB (cA (cB (cB (cB (cB (Af P 31))))))))) (Al 2 (Ay P (EV P) 31 136 (cB (cB (cB (cB (cB (Af P 31)))))) (Bf P (AB P 31))))))))
noncomputable def CW (e : Env) (w : World) : Option (Value × World) := Bt P (EV P) 31 136 (cB (cA (cB (cA (cB (cB (cB (cB (cA (cA (cB (cA (cA (cB (cA (cB (cB (cB (cB (Af P 31)))))))))))))))))))) e w (Ay P (EV P) 31 136 (cB (cB (cB (cB (cB (cA (cA (cB (cA (cA (cB (cA (cB (cB (cB (cB (Af P 31))))))))))))))))) (Al 3 (Ay P (EV P) 31 136 (cB (cB (cA (cA (cB (cA (cB (cB (cB (cB (Af P 31))))))))))) (CO P (EV P) 31 136 (cA (cA (cB (cA (cB (cB (cB (cB (Af P 31))))))))) (Al 2 (Ay P (EV P) 31 136 (cB (cB (cB (cB (cB (Af P 31)))))) (Bf P (AB P 31))))))))
noncomputable def CX (e : Env) (w : World) : Option (Value × World) := Bt P (EV P) 31 136 (cB (cB (cA (cA (cB (cA (cB (cB (cB (cB (Af P 31))))))))))) e w (CO P (EV P) 31 136 (cA (cA (cB (cA (cB (cB (cB (cB (Af P 31))))))))) (Al 2 (Ay P (EV P) 31 136 (cB (cB (cB (cB (cB (Af P 31)))))) (Bf P (AB P 31)))))
theorem E7 (e : Env) (w : World) : CS e w =
 (vl (e 5) w).bind fun r1 =>
 (bo P .lss 3 (.tmp 15) (.const (.int .i64 4)) r1.1 (.int .i64 4) r1.2).bind fun r2 =>
 AR r2.1 (
 (vl (e 4) r2.2).bind fun r3 =>
 (EV P 38 #[] r3.2).bind fun r4 =>
 (bs P 58 1 #[(0, r4.1)] r4.2).bind fun r5 =>
 (Au P #[58, 58] 58 #[r3.1, r5.1] r5.2).bind fun r6 =>
 (vl r6.1 r6.2).bind fun r7 =>
 (vl (e 5) r7.2).bind fun r8 =>
 (bo P .add 3 (.tmp 17) (.const (.int .i64 1)) r8.1 (.int .i64 1) r8.2).bind fun r9 =>
 (vl r9.1 r9.2).bind fun r10 =>
 CS (AK e [(15, r1.1), (16, r2.1), (19, r3.1), (20, r4.1), (21, r5.1), (22, r6.1), (4, r7.1), (17, r8.1), (18, r9.1), (5, r10.1)]) r10.2) (
 (bs P 58 0 #[] r2.2).bind fun r11 =>
 (vl r11.1 r11.2).bind fun r12 =>
 (vl (.int .i64 0) r12.2).bind fun r13 =>
 CT (AK e [(15, r1.1), (16, r2.1), (23, r11.1), (6, r12.1), (7, r13.1)]) r13.2) := (AA P (EV P) 31 136 (cA (cA (cB (cA (cB (cB (Af P 31))))))) e w (Al 0 (Ay P (EV P) 31 136 (cB (cB (cB (Af P 31)))) (Bf P (AB P 31))))).trans (by kernel_rfl)
theorem E8 (e : Env) (w : World) : CT e w =
 (vl (e 7) w).bind fun r1 =>
 (vl (e 0) r1.2).bind fun r2 =>
 (Ax P #[23] 3 #[r2.1] r2.2).bind fun r3 =>
 (bo P .lss 3 (.tmp 24) (.tmp 26) r1.1 r3.1 r3.2).bind fun r4 =>
 AR r4.1 (
 (vl (e 0) r4.2).bind fun r5 =>
 (vl (e 7) r5.2).bind fun r6 =>
 (ia P 23 r5.1 r6.1 r6.2).bind fun r7 =>
 (ld P 38 r7.1 r7.2).bind fun r8 =>
 (al P 38 r8.2).bind fun r9 =>
 (st P 38 r9.1 r8.1 r9.2).bind fun r10 =>
 (vl (e 4) r10.2).bind fun r11 =>
 (fa P 38 r9.1 0 r11.2).bind fun r12 =>
 (ld P 3 r12.1 r12.2).bind fun r13 =>
 (ia P 58 r11.1 r13.1 r13.2).bind fun r14 =>
 (ld P 32 r14.1 r14.2).bind fun r15 =>
 (al P 32 r15.2).bind fun r16 =>
 (st P 32 r16.1 r15.1 r16.2).bind fun r17 =>
 (fa P 38 r9.1 1 r17.2).bind fun r18 =>
 (ld P 3 r18.1 r18.2).bind fun r19 =>
 (bo P .eql 3 (.tmp 40) (.const (.int .i64 1)) r19.1 (.int .i64 1) r19.2).bind fun r20 =>
 AR r20.1 (
 EC (AK e [(24, r1.1), (25, r2.1), (26, r3.1), (27, r4.1), (30, r5.1), (31, r6.1), (32, r7.1), (33, r8.1), (8, r9.1), (34, r11.1), (35, r12.1), (36, r13.1), (37, r14.1), (38, r15.1), (9, r16.1), (39, r18.1), (40, r19.1), (41, r20.1)]) r20.2) (
 (fa P 38 r9.1 3 (dw r20.2)).bind fun r22 =>
 Ah (r22.2 = (dw r20.2)) <|
 (ld P 36 r22.1 (dw r20.2)).bind fun r23 =>
 Ah (r23.2 = (dw r20.2)) <|
 (fa P 32 r16.1 0 (dw r20.2)).bind fun r24 =>
 Ah (r24.2 = (dw r20.2)) <|
 (ld P 30 r24.1 (dw r20.2)).bind fun r25 =>
 Ah (r25.2 = (dw r20.2)) <|
 (fa P 38 r9.1 2 (dw r20.2)).bind fun r26 =>
 Ah (r26.2 = (dw r20.2)) <|
 (ld P 3 r26.1 (dw r20.2)).bind fun r27 =>
 Ah (r27.2 = (dw r20.2)) <|
 (ia P 30 r25.1 r27.1 (dw r20.2)).bind fun r28 =>
 Ah (r28.2 = (dw r20.2)) <|
 (ld P 36 r28.1 (dw r20.2)).bind fun r29 =>
 Ah (r29.2 = (dw r20.2)) <|
 (EV P 63 #[r23.1, r29.1] (dw r20.2)).bind fun r30 =>
 Ah (True ∧ True ∧ True ∧ True ∧ True ∧ True ∧ True ∧ True ∧ True) <|
 AR r30.1 (
 (vl (e 6) r30.2).bind fun r31 =>
 (vl (e 7) r31.2).bind fun r32 =>
 (vl r31.1 r32.2).bind fun r33 =>
 (vl r32.1 r33.2).bind fun r34 =>
 some (.tuple #[r33.1, r34.1], r34.2)) (
 (fa P 38 r9.1 3 r30.2).bind fun r35 =>
 (fa P 36 r35.1 0 r35.2).bind fun r36 =>
 (ld P 3 r36.1 r36.2).bind fun r37 =>
 (bo P .gtr 3 (.tmp 79) (.const (.int .i64 0)) r37.1 (.int .i64 0) r37.2).bind fun r38 =>
 AR r38.1 (
 ED (AK e [(24, r1.1), (25, r2.1), (26, r3.1), (27, r4.1), (30, r5.1), (31, r6.1), (32, r7.1), (33, r8.1), (8, r9.1), (34, r11.1), (35, r12.1), (36, r13.1), (37, r14.1), (38, r15.1), (9, r16.1), (39, r18.1), (40, r19.1), (41, r20.1), (66, r22.1), (67, r23.1), (68, r24.1), (69, r25.1), (70, r26.1), (71, r27.1), (72, r28.1), (73, r29.1), (74, r30.1), (77, r35.1), (78, r36.1), (79, r37.1), (80, r38.1)]) r38.2) (
 CU (AK e [(24, r1.1), (25, r2.1), (26, r3.1), (27, r4.1), (30, r5.1), (31, r6.1), (32, r7.1), (33, r8.1), (8, r9.1), (34, r11.1), (35, r12.1), (36, r13.1), (37, r14.1), (38, r15.1), (9, r16.1), (39, r18.1), (40, r19.1), (41, r20.1), (66, r22.1), (67, r23.1), (68, r24.1), (69, r25.1), (70, r26.1), (71, r27.1), (72, r28.1), (73, r29.1), (74, r30.1), (77, r35.1), (78, r36.1), (79, r37.1), (80, r38.1)]) r38.2)))) (
 (vl (e 6) r4.2).bind fun r39 =>
 (vl (e 0) r39.2).bind fun r40 =>
 (Ax P #[23] 3 #[r40.1] r40.2).bind fun r41 =>
 (vl r39.1 r41.2).bind fun r42 =>
 (vl r41.1 r42.2).bind fun r43 =>
 some (.tuple #[r42.1, r43.1], r43.2)) := (AA P (EV P) 31 136 (cA (cA (cB (cA (cB (cB (cB (cB (Af P 31))))))))) e w (Al 2 (Ay P (EV P) 31 136 (cB (cB (cB (cB (cB (Af P 31)))))) (Bf P (AB P 31))))).trans (by kernel_rfl)
theorem HP (e : Env) (w : World) {Q : Value × World → Prop} (h :
 (Ae (vl (e 0) (dw w)) fun r1 => r1.2 = (dw w) ∧
 (Ae (vl (e 7) (dw w)) fun r2 => r2.2 = (dw w) ∧
 (Ae (sl P 23 r1.1 none (some r2.1) none (dw w)) fun r3 => r3.2 = (dw w) ∧
 (Ae (vl (e 6) (dw w)) fun r4 => r4.2 = (dw w) ∧
 (Ae (fa P 38 (e 8) 3 (dw w)) fun r5 => r5.2 = (dw w) ∧
 (Ae (ld P 36 r5.1 (dw w)) fun r6 => r6.2 = (dw w) ∧
 ((Ae (EV P 61 #[r3.1, r4.1, r6.1] (dw w)) fun r7 => (True ∧ True ∧ True ∧ True) ∧
 (Ae (vl r7.1 r7.2) fun r8 => r8.2 = r7.2 ∧
 (Ae (xt P r8.1 0 r7.2) fun r9 => r9.2 = r7.2 ∧
 (Ae (xt P r8.1 1 r7.2) fun r10 => r10.2 = r7.2 ∧
 ((Ae (al P 32 r7.2) fun r11 => (xt P r8.1 1 r11.2 = some (r10.1, r11.2) ∧ xt P r8.1 0 r11.2 = some (r9.1, r11.2) ∧ ld P 36 r5.1 r11.2 = some (r6.1, r11.2) ∧ fa P 38 (e 8) 3 r11.2 = some (r5.1, r11.2) ∧ sl P 23 r1.1 none (some r2.1) none r11.2 = some (r3.1, r11.2) ∧ True) ∧
 ((Ae (st P 32 r11.1 r9.1 r11.2) fun r12 => (xt P r8.1 1 r12.2 = some (r10.1, r12.2) ∧ True ∧ True ∧ True ∧ True ∧ True) ∧
 (Ae (vl r10.1 r12.2) fun r13 => r13.2 = r12.2 ∧
 Ae (CV (AK e [(43, r1.1), (44, r2.1), (45, r3.1), (46, r4.1), (47, r5.1), (48, r6.1), (49, r7.1), (42, r8.1), (50, r9.1), (51, r10.1), (10, r11.1), (11, r13.1)]) r12.2) Q))))))))) ∧
 (Ae (al P 32 (dw w)) fun r14 => (ld P 36 r5.1 r14.2 = some (r6.1, r14.2) ∧ fa P 38 (e 8) 3 r14.2 = some (r5.1, r14.2) ∧ sl P 23 r1.1 none (some r2.1) none r14.2 = some (r3.1, r14.2) ∧ True) ∧
 ((Ae (EV P 61 #[r3.1, r4.1, r6.1] r14.2) fun r15 => (True ∧ True ∧ True ∧ True) ∧
 (Ae (vl r15.1 r15.2) fun r16 => r16.2 = r15.2 ∧
 (Ae (xt P r16.1 0 r15.2) fun r17 => r17.2 = r15.2 ∧
 (Ae (xt P r16.1 1 r15.2) fun r18 => r18.2 = r15.2 ∧
 ((Ae (st P 32 r14.1 r17.1 r15.2) fun r19 => (xt P r16.1 1 r19.2 = some (r18.1, r19.2) ∧ True ∧ True ∧ True ∧ True ∧ True) ∧
 (Ae (vl r18.1 r19.2) fun r20 => r20.2 = r19.2 ∧
 Ae (CV (AK e [(43, r1.1), (44, r2.1), (45, r3.1), (46, r4.1), (47, r5.1), (48, r6.1), (10, r14.1), (49, r15.1), (42, r16.1), (50, r17.1), (51, r18.1), (11, r20.1)]) r19.2) Q))))))))))))))))) : Ae (EC e w) Q := Et (id := 13) (ops := opsOf (cA (cA (cB (cA (cB (cB (cA (cA (cB (cA (cA (cB (cA (cB (cB (cB (cB (Af P 31))))))))))))))))))) (by kernel_rfl) (by kernel_rfl) (Eq.mpr (by kernel_rfl) h)
theorem HQ (e : Env) (w : World) {Q : Value × World → Prop} (h :
 (Ae (vl (e 0) (dw w)) fun r1 => r1.2 = (dw w) ∧
 (Ae (vl (e 7) (dw w)) fun r2 => r2.2 = (dw w) ∧
 (Ae (sl P 23 r1.1 none (some r2.1) none (dw w)) fun r3 => r3.2 = (dw w) ∧
 (Ae (vl (e 6) (dw w)) fun r4 => r4.2 = (dw w) ∧
 (Ae (fa P 38 (e 8) 3 (dw w)) fun r5 => r5.2 = (dw w) ∧
 (Ae (ld P 36 r5.1 (dw w)) fun r6 => r6.2 = (dw w) ∧
 ((Ae (EV P 61 #[r3.1, r4.1, r6.1] (dw w)) fun r7 => (True ∧ True ∧ True ∧ True) ∧
 (Ae (vl r7.1 r7.2) fun r8 => r8.2 = r7.2 ∧
 (Ae (xt P r8.1 0 r7.2) fun r9 => r9.2 = r7.2 ∧
 (Ae (xt P r8.1 1 r7.2) fun r10 => r10.2 = r7.2 ∧
 ((Ae (al P 32 r7.2) fun r11 => (xt P r8.1 1 r11.2 = some (r10.1, r11.2) ∧ xt P r8.1 0 r11.2 = some (r9.1, r11.2) ∧ ld P 36 r5.1 r11.2 = some (r6.1, r11.2) ∧ fa P 38 (e 8) 3 r11.2 = some (r5.1, r11.2) ∧ sl P 23 r1.1 none (some r2.1) none r11.2 = some (r3.1, r11.2) ∧ True) ∧
 ((Ae (st P 32 r11.1 r9.1 r11.2) fun r12 => (xt P r8.1 1 r12.2 = some (r10.1, r12.2) ∧ True ∧ True ∧ True ∧ True ∧ True) ∧
 (Ae (vl r10.1 r12.2) fun r13 => r13.2 = r12.2 ∧
 Ae (CW (AK e [(82, r1.1), (83, r2.1), (84, r3.1), (85, r4.1), (86, r5.1), (87, r6.1), (88, r7.1), (81, r8.1), (89, r9.1), (90, r10.1), (12, r11.1), (13, r13.1)]) r12.2) Q))))))))) ∧
 (Ae (al P 32 (dw w)) fun r14 => (ld P 36 r5.1 r14.2 = some (r6.1, r14.2) ∧ fa P 38 (e 8) 3 r14.2 = some (r5.1, r14.2) ∧ sl P 23 r1.1 none (some r2.1) none r14.2 = some (r3.1, r14.2) ∧ True) ∧
 ((Ae (EV P 61 #[r3.1, r4.1, r6.1] r14.2) fun r15 => (True ∧ True ∧ True ∧ True) ∧
 (Ae (vl r15.1 r15.2) fun r16 => r16.2 = r15.2 ∧
 (Ae (xt P r16.1 0 r15.2) fun r17 => r17.2 = r15.2 ∧
 (Ae (xt P r16.1 1 r15.2) fun r18 => r18.2 = r15.2 ∧
 ((Ae (st P 32 r14.1 r17.1 r15.2) fun r19 => (xt P r16.1 1 r19.2 = some (r18.1, r19.2) ∧ True ∧ True ∧ True ∧ True ∧ True) ∧
 (Ae (vl r18.1 r19.2) fun r20 => r20.2 = r19.2 ∧
 Ae (CW (AK e [(82, r1.1), (83, r2.1), (84, r3.1), (85, r4.1), (86, r5.1), (87, r6.1), (12, r14.1), (88, r15.1), (81, r16.1), (89, r17.1), (90, r18.1), (13, r20.1)]) r19.2) Q))))))))))))))))) : Ae (ED e w) Q := Et (id := 20) (ops := opsOf (cA (cA (cB (cA (cB (cB (cB (cB (cA (cA (cB (cA (cA (cB (cA (cB (cB (cB (cB (Af P 31))))))))))))))))))))) (by kernel_rfl) (by kernel_rfl) (Eq.mpr (by kernel_rfl) h)
theorem Im (e : Env) (w : World) : CU e w =
 (vl (e 4) w).bind fun r1 =>
 (fa P 38 (e 8) 0 r1.2).bind fun r2 =>
 (ld P 3 r2.1 r2.2).bind fun r3 =>
 (ld P 32 (e 9) r3.2).bind fun r4 =>
 (ia P 58 r1.1 r3.1 r4.2).bind fun r5 =>
 (st P 32 r5.1 r4.1 r5.2).bind fun r6 =>
 (vl (e 6) r6.2).bind fun r7 =>
 (ld P 32 (e 9) r7.2).bind fun r8 =>
 (bs P 58 1 #[(0, r8.1)] r8.2).bind fun r9 =>
 (Au P #[58, 58] 58 #[r7.1, r9.1] r9.2).bind fun r10 =>
 (vl r10.1 r10.2).bind fun r11 =>
 CX (AK e [(124, r1.1), (125, r2.1), (126, r3.1), (127, r4.1), (128, r5.1), (129, r7.1), (130, r8.1), (131, r9.1), (132, r10.1), (6, r11.1)]) r11.2 := by kernel_rfl
theorem Io (e : Env) (w : World) : CV e w =
 (vl (e 11) w).bind fun r1 =>
 (vl r1.1 r1.2).bind fun r2 =>
 (Ao r2.1 false (ld P 32 (e 9) r2.2) r2.2).bind fun r3 =>
 (Ao r2.1 false (fa P 38 (e 8) 3 r3.2) r3.2).bind fun r4 =>
 (Ao r2.1 false (ld P 36 r4.1 r4.2) r4.2).bind fun r5 =>
 (Ao r2.1 false (EV P 62 #[r3.1, r5.1] r5.2) r5.2).bind fun r6 =>
 (Ao r2.1 false (uo P .not r6.1 r6.2) r6.2).bind fun r7 =>
 (Az r2.1 (.bool true) r7.1 r7.2).bind fun r8 =>
 AR r8.1 (
 (vl (e 6) r8.2).bind fun r9 =>
 (vl (e 7) r9.2).bind fun r10 =>
 (vl r9.1 r10.2).bind fun r11 =>
 (vl r10.1 r11.2).bind fun r12 =>
 some (.tuple #[r11.1, r12.1], r12.2)) (
 (vl (e 6) r8.2).bind fun r13 =>
 (ld P 32 (e 9) r13.2).bind fun r14 =>
 (bs P 58 1 #[(0, r14.1)] r14.2).bind fun r15 =>
 (Au P #[58, 58] 58 #[r13.1, r15.1] r15.2).bind fun r16 =>
 (vl r16.1 r16.2).bind fun r17 =>
 CX (AK e [(52, r1.1), (53, r2.1), (54, r3.1), (55, r4.1), (56, r5.1), (57, r6.1), (58, r7.1), (59, r8.1), (62, r13.1), (63, r14.1), (64, r15.1), (65, r16.1), (6, r17.1)]) r17.2) := by kernel_rfl
theorem Ip (e : Env) (w : World) : CW e w =
 (vl (e 13) (dw w)).bind fun r2 =>
 Ah (r2.2 = (dw w)) <|
 (uo P .not r2.1 (dw w)).bind fun r3 =>
 Ah (r3.2 = (dw w)) <|
 (vl r3.1 (dw w)).bind fun r4 =>
 Ah (r4.2 = (dw w)) <|
 (Ao r4.1 false (vl (e 0) (dw w)) (dw w)).bind fun r5 =>
 Ah (r5.2 = (dw w)) <|
 (Ao r4.1 false (vl (e 7) (dw w)) (dw w)).bind fun r6 =>
 Ah (r6.2 = (dw w)) <|
 (Ao r4.1 false (sl P 23 r5.1 none (some r6.1) none (dw w)) (dw w)).bind fun r7 =>
 Ah (r7.2 = (dw w)) <|
 (Ao r4.1 false (ld P 38 (e 8) (dw w)) (dw w)).bind fun r8 =>
 Ah (r8.2 = (dw w)) <|
 (Ao r4.1 false (EV P 64 #[r7.1, r8.1] (dw w)) (dw w)).bind fun r9 =>
 Ah (True ∧ True ∧ True ∧ True) <|
 (Ao r4.1 false (uo P .not r9.1 r9.2) r9.2).bind fun r10 =>
 Ah (r10.2 = r9.2) <|
 (Az r4.1 (.bool true) r10.1 r9.2).bind fun r11 =>
 Ah (r11.2 = r9.2) <|
 (vl r11.1 r9.2).bind fun r12 =>
 Ah (r12.2 = r9.2) <|
 (Ao r12.1 false (fa P 38 (e 8) 1 r9.2) r9.2).bind fun r13 =>
 Ah (r13.2 = r9.2) <|
 (Ao r12.1 false (ld P 3 r13.1 r9.2) r9.2).bind fun r14 =>
 Ah (r14.2 = r9.2) <|
 (Ao r12.1 false (bo P .eql 3 (.tmp 103) (.const (.int .i64 3)) r14.1 (.int .i64 3) r9.2) r9.2).bind fun r15 =>
 Ah (r15.2 = r9.2) <|
 (Ao r12.1 false (vl r15.1 r9.2) r9.2).bind fun r16 =>
 Ah (r16.2 = r9.2) <|
 (Ao r16.1 true (vl (e 0) r9.2) r9.2).bind fun r17 =>
 Ah (r17.2 = r9.2) <|
 (Ao r16.1 true (vl (e 7) r9.2) r9.2).bind fun r18 =>
 Ah (r18.2 = r9.2) <|
 (Ao r16.1 true (sl P 23 r17.1 none (some r18.1) none r9.2) r9.2).bind fun r19 =>
 Ah (r19.2 = r9.2) <|
 (Ao r16.1 true (ld P 38 (e 8) r9.2) r9.2).bind fun r20 =>
 Ah (r20.2 = r9.2) <|
 (Ao r16.1 true (EV P 65 #[r19.1, r20.1] r9.2) r9.2).bind fun r21 =>
 Ah (True ∧ True ∧ True ∧ True ∧ True ∧ True ∧ True ∧ True ∧ True ∧ True) <|
 (Ao r16.1 true (uo P .not r21.1 r21.2) r21.2).bind fun r22 =>
 Ah (r22.2 = r21.2) <|
 (Ao r12.1 false (Az r16.1 r22.1 (.bool false) r21.2) r21.2).bind fun r23 =>
 Ah (r23.2 = r21.2) <|
 (Az r12.1 (.bool true) r23.1 r21.2).bind fun r24 =>
 Ah (r24.2 = r21.2) <|
 AR r24.1 (
 (vl (e 6) r21.2).bind fun r25 =>
 (vl (e 7) r25.2).bind fun r26 =>
 (vl r25.1 r26.2).bind fun r27 =>
 (vl r26.1 r27.2).bind fun r28 =>
 some (.tuple #[r27.1, r28.1], r28.2)) (
 (ld P 32 (e 9) (dw r21.2)).bind fun r30 =>
 Ah (r30.2 = (dw r21.2)) <|
 (ld P 32 (e 12) (dw r21.2)).bind fun r31 =>
 Ah (r31.2 = (dw r21.2)) <|
 (fa P 38 (e 8) 2 (dw r21.2)).bind fun r32 =>
 Ah (r32.2 = (dw r21.2)) <|
 (ld P 3 r32.1 (dw r21.2)).bind fun r33 =>
 Ah (r33.2 = (dw r21.2)) <|
 (fa P 38 (e 8) 3 (dw r21.2)).bind fun r34 =>
 Ah (r34.2 = (dw r21.2)) <|
 (ld P 36 r34.1 (dw r21.2)).bind fun r35 =>
 Ah (r35.2 = (dw r21.2)) <|
 (EV P 67 #[r30.1, r31.1] (dw r21.2)).bind fun r36 =>
 Ah (ld P 36 r34.1 r36.2 = some (r35.1, r36.2) ∧ fa P 38 (e 8) 3 r36.2 = some (r34.1, r36.2) ∧ ld P 3 r32.1 r36.2 = some (r33.1, r36.2) ∧ fa P 38 (e 8) 2 r36.2 = some (r32.1, r36.2) ∧ True ∧ True ∧ True) <|
 (EV P 66 #[r36.1, r33.1, r35.1] r36.2).bind fun r37 =>
 Ah (True ∧ True ∧ True ∧ True ∧ True ∧ True ∧ True) <|
 (st P 32 (e 9) r37.1 r37.2).bind fun r38 =>
 Ah (True ∧ True ∧ True ∧ True ∧ True ∧ True ∧ True) <|
 CU (AK e [(91, r2.1), (92, r3.1), (93, r4.1), (94, r5.1), (95, r6.1), (96, r7.1), (97, r8.1), (98, r9.1), (99, r10.1), (100, r11.1), (101, r12.1), (102, r13.1), (103, r14.1), (104, r15.1), (105, r16.1), (106, r17.1), (107, r18.1), (108, r19.1), (109, r20.1), (110, r21.1), (111, r22.1), (112, r23.1), (113, r24.1), (116, r30.1), (117, r31.1), (119, r32.1), (120, r33.1), (121, r34.1), (122, r35.1), (118, r36.1), (123, r37.1)]) r38.2) := by kernel_rfl
theorem Iq (e : Env) (w : World) : CX e w =
 (vl (e 7) w).bind fun r1 =>
 (bo P .add 3 (.tmp 28) (.const (.int .i64 1)) r1.1 (.int .i64 1) r1.2).bind fun r2 =>
 (vl r2.1 r2.2).bind fun r3 =>
 CT (AK e [(28, r1.1), (29, r2.1), (7, r3.1)]) r3.2 := by kernel_rfl
theorem KB (x0 : Value) (w : World) : Br P (EV P) 31 #[x0] w =
 (vl (Go.Value.slice none 0 0) w).bind fun r1 =>
 (vl (.int .i64 0) r1.2).bind fun r2 =>
 (bs P 58 0 #[] r2.2).bind fun r3 =>
 (vl r3.1 r3.2).bind fun r4 =>
 (vl (.int .i64 0) r4.2).bind fun r5 =>
 CS (AK (AN #[x0]) [(2, r1.1), (3, r2.1), (14, r3.1), (4, r4.1), (5, r5.1)]) r5.2 := by kernel_rfl
theorem J0 (x0 : Value) (w : World) : Br P (EV P) 32 #[x0] w =
 (vl (Go.Value.pointer none) w).bind fun r1 =>
 (vl (.bool false) r1.2).bind fun r2 =>
 (vl x0 r2.2).bind fun r3 =>
 (EV P 28 #[r3.1] r3.2).bind fun r4 =>
 (uo P .not r4.1 r4.2).bind fun r5 =>
 AR r5.1 (
 (vl (Go.Value.pointer none) r5.2).bind fun r6 =>
 (vl (.bool false) r6.2).bind fun r7 =>
 some (.tuple #[r6.1, r7.1], r7.2)) (
 (vl x0 r5.2).bind fun r8 =>
 (EV P 29 #[r8.1] r8.2).bind fun r9 =>
 (vl r9.1 r9.2).bind fun r10 =>
 (xt P r10.1 0 r10.2).bind fun r11 =>
 (xt P r10.1 1 r11.2).bind fun r12 =>
 (vl r11.1 r12.2).bind fun r13 =>
 (vl r12.1 r13.2).bind fun r14 =>
 (vl r13.1 r14.2).bind fun r15 =>
 (vl r14.1 r15.2).bind fun r16 =>
 (vl x0 r16.2).bind fun r17 =>
 (Ax P #[23] 3 #[r17.1] r17.2).bind fun r18 =>
 (bo P .eql 3 (.tmp 15) (.tmp 17) r16.1 r18.1 r18.2).bind fun r19 =>
 (vl r15.1 r19.2).bind fun r20 =>
 (vl r19.1 r20.2).bind fun r21 =>
 some (.tuple #[r20.1, r21.1], r21.2)) := by kernel_rfl
theorem NK (x0 : Value) (w : World) : Br P (EV P) 33 #[x0] w =
 (vl (.bool false) w).bind fun r1 =>
 (vl x0 r1.2).bind fun r2 =>
 (EV P 30 #[r2.1] r2.2).bind fun r3 =>
 (uo P .not r3.1 r3.2).bind fun r4 =>
 AR r4.1 (
 (vl (.bool false) r4.2).bind fun r5 =>
 some (r5.1, r5.2)) (
 (vl x0 r4.2).bind fun r6 =>
 (EV P 31 #[r6.1] r6.2).bind fun r7 =>
 (vl r7.1 r7.2).bind fun r8 =>
 (xt P r8.1 0 r8.2).bind fun r9 =>
 (xt P r8.1 1 r9.2).bind fun r10 =>
 (vl r9.1 r10.2).bind fun r11 =>
 (vl r10.1 r11.2).bind fun r12 =>
 (vl r12.1 r12.2).bind fun r13 =>
 (vl x0 r13.2).bind fun r14 =>
 (Ax P #[23] 3 #[r14.1] r14.2).bind fun r15 =>
 (bo P .eql 3 (.tmp 13) (.tmp 15) r13.1 r15.1 r15.2).bind fun r16 =>
 (vl r16.1 r16.2).bind fun r17 =>
 some (r17.1, r17.2)) := by kernel_rfl
theorem Ir (x0 x1 : Value) (w : World) : Br P (EV P) 34 #[x0, x1] w =
 (vl (.int .i64 0) w).bind fun r1 =>
 (vl x1 r1.2).bind fun r2 =>
 (vl x0 r2.2).bind fun r3 =>
 (vl x1 r3.2).bind fun r4 =>
 (Ax P #[64] 3 #[r4.1] r4.2).bind fun r5 =>
 (EV P 42 #[r3.1, r5.1] r5.2).bind fun r6 =>
 (ia P 64 r2.1 r6.1 r6.2).bind fun r7 =>
 (ld P 3 r7.1 r7.2).bind fun r8 =>
 (vl r8.1 r8.2).bind fun r9 =>
 some (r9.1, r9.2) := by kernel_rfl
theorem KC (x0 x1 x2 : Value) (w : World) : Br P (EV P) 35 #[x0, x1, x2] w =
 (vl (.bool false) w).bind fun r1 =>
 (vl x0 r1.2).bind fun r2 =>
 (vl x1 r2.2).bind fun r3 =>
 (bo P .geq 3 (.tmp 7) (.tmp 8) r2.1 r3.1 r3.2).bind fun r4 =>
 (vl r4.1 r4.2).bind fun r5 =>
 (Ao r5.1 true (vl x0 r5.2) r5.2).bind fun r6 =>
 (Ao r5.1 true (vl x2 r6.2) r6.2).bind fun r7 =>
 (Ao r5.1 true (bo P .leq 3 (.tmp 11) (.tmp 12) r6.1 r7.1 r7.2) r7.2).bind fun r8 =>
 (Az r5.1 r8.1 (.bool false) r8.2).bind fun r9 =>
 (vl r9.1 r9.2).bind fun r10 =>
 some (r10.1, r10.2) := by kernel_rfl
theorem Ho (x0 : Value) (w : World) : Br P (EV P) 36 #[x0] w =
 (bx P 32 x0 w).bind fun r1 =>
 (al P 32 r1.2).bind fun r2 =>
 (fa P 32 r1.1 0 r2.2).bind fun r3 =>
 (ld P 30 r3.1 r3.2).bind fun r4 =>
 (EV P 69 #[r4.1] r4.2).bind fun r5 =>
 (EV P 68 #[r5.1] r5.2).bind fun r6 =>
 (bd P 32 #[(0, r6.1)] r6.2).bind fun r7 =>
 (st P 32 r2.1 r7.1 r7.2).bind fun r8 =>
 ((ld P 32 r2.1 r8.2).bind fun r9 => Ah (r9.2 = r8.2) (some r9.1)).bind fun v10 =>
 some (v10, r8.2) := by kernel_rfl
theorem NL (x0 x1 x2 : Value) (w : World) : Br P (EV P) 37 #[x0, x1, x2] w =
 (vl (.bool false) w).bind fun r1 =>
 (vl x0 r1.2).bind fun r2 =>
 (vl x1 r2.2).bind fun r3 =>
 (bo P .geq 3 (.tmp 7) (.tmp 8) r2.1 r3.1 r3.2).bind fun r4 =>
 (vl r4.1 r4.2).bind fun r5 =>
 (Ao r5.1 true (vl x0 r5.2) r5.2).bind fun r6 =>
 (Ao r5.1 true (vl x2 r6.2) r6.2).bind fun r7 =>
 (Ao r5.1 true (bo P .leq 3 (.tmp 11) (.tmp 12) r6.1 r7.1 r7.2) r7.2).bind fun r8 =>
 (Az r5.1 r8.1 (.bool false) r8.2).bind fun r9 =>
 (vl r9.1 r9.2).bind fun r10 =>
 some (r10.1, r10.2) := by kernel_rfl
theorem KD (w : World) : Br P (EV P) 38 #[] w =
 (al P 32 w).bind fun r1 =>
 (ms P 30 (.int .i64 4) (.int .i64 4) r1.2).bind fun r2 =>
 (bd P 32 #[(0, r2.1)] r2.2).bind fun r3 =>
 (st P 32 r1.1 r3.1 r3.2).bind fun r4 =>
 ((ld P 32 r1.1 r4.2).bind fun r5 => Ah (r5.2 = r4.2) (some r5.1)).bind fun v6 =>
 some (v6, r4.2) := by kernel_rfl
theorem Hp (x0 x1 : Value) (w : World) : Br P (EV P) 39 #[x0, x1] w =
 (bx P 36 x0 w).bind fun r1 =>
 (bx P 36 x1 r1.2).bind fun r2 =>
 (vl (.int .i64 0) r2.2).bind fun r3 =>
 (fa P 36 r1.1 0 (dw r3.2)).bind fun r5 =>
 Ah (r5.2 = (dw r3.2)) <|
 (ld P 3 r5.1 (dw r3.2)).bind fun r6 =>
 Ah (r6.2 = (dw r3.2)) <|
 (fa P 36 r2.1 0 (dw r3.2)).bind fun r7 =>
 Ah (r7.2 = (dw r3.2)) <|
 (ld P 3 r7.1 (dw r3.2)).bind fun r8 =>
 Ah (r8.2 = (dw r3.2)) <|
 (fa P 36 r1.1 1 (dw r3.2)).bind fun r9 =>
 Ah (r9.2 = (dw r3.2)) <|
 (ld P 3 r9.1 (dw r3.2)).bind fun r10 =>
 Ah (r10.2 = (dw r3.2)) <|
 (fa P 36 r2.1 1 (dw r3.2)).bind fun r11 =>
 Ah (r11.2 = (dw r3.2)) <|
 (ld P 3 r11.1 (dw r3.2)).bind fun r12 =>
 Ah (r12.2 = (dw r3.2)) <|
 (EV P 71 #[r6.1, r8.1] (dw r3.2)).bind fun r13 =>
 Ah (ld P 3 r11.1 r13.2 = some (r12.1, r13.2) ∧ fa P 36 r2.1 1 r13.2 = some (r11.1, r13.2) ∧ ld P 3 r9.1 r13.2 = some (r10.1, r13.2) ∧ fa P 36 r1.1 1 r13.2 = some (r9.1, r13.2) ∧ True ∧ True ∧ True ∧ True ∧ True) <|
 (EV P 71 #[r10.1, r12.1] r13.2).bind fun r14 =>
 Ah (True ∧ True ∧ True ∧ True ∧ True ∧ True ∧ True ∧ True ∧ True) <|
 (bs P 64 2 #[(0, r13.1), (1, r14.1)] r14.2).bind fun r15 =>
 Ah (True ∧ True ∧ True ∧ True ∧ True ∧ True ∧ True ∧ True ∧ True) <|
 (EV P 70 #[r15.1] r15.2).bind fun r16 =>
 Ah (True ∧ True ∧ True ∧ True ∧ True ∧ True ∧ True ∧ True ∧ True) <|
 (vl r16.1 r16.2).bind fun r17 =>
 Ah (r17.2 = r16.2) <|
 some (r17.1, r16.2) := by kernel_rfl
theorem HR (x0 x1 : Value) (w : World) : Br P (EV P) 42 #[x0, x1] w =
 (vl (.int .i64 0) w).bind fun r1 =>
 (vl x0 r1.2).bind fun r2 =>
 (vl x0 r2.2).bind fun r3 =>
 (nk P r3.1 r3.2).bind fun r4 =>
 (fa P 93 r4.1 1 r4.2).bind fun r5 =>
 (ld P 3 r5.1 r5.2).bind fun r6 =>
 (bo P .add 3 (.tmp 11) (.const (.int .i64 1)) r6.1 (.int .i64 1) r6.2).bind fun r7 =>
 (nk P r2.1 r7.2).bind fun r8 =>
 (fa P 93 r8.1 1 r8.2).bind fun r9 =>
 (st P 3 r9.1 r7.1 r9.2).bind fun r10 =>
 (vl x1 r10.2).bind fun r11 =>
 (bo P .lss 3 (.tmp 15) (.const (.int .i64 1)) r11.1 (.int .i64 1) r11.2).bind fun r12 =>
 (vl r12.1 r12.2).bind fun r13 =>
 (Ao r13.1 false (vl x0 r13.2) r13.2).bind fun r14 =>
 (Ao r13.1 false (nk P r14.1 r14.2) r14.2).bind fun r15 =>
 (Ao r13.1 false (fa P 93 r15.1 0 r15.2) r15.2).bind fun r16 =>
 (Ao r13.1 false (ld P 22 r16.1 r16.2) r16.2).bind fun r17 =>
 (Ao r13.1 false (Ax P #[22] 3 #[r17.1] r17.2) r17.2).bind fun r18 =>
 (Ao r13.1 false (bo P .eql 3 (.tmp 22) (.const (.int .i64 0)) r18.1 (.int .i64 0) r18.2) r18.2).bind fun r19 =>
 (Az r13.1 (.bool true) r19.1 r19.2).bind fun r20 =>
 AR r20.1 (
 (vl (.int .i64 0) r20.2).bind fun r21 =>
 some (r21.1, r21.2)) (
 (vl x0 r20.2).bind fun r22 =>
 (nk P r22.1 r22.2).bind fun r23 =>
 (fa P 93 r23.1 1 r23.2).bind fun r24 =>
 (ld P 3 r24.1 r24.2).bind fun r25 =>
 (bo P .sub 3 (.tmp 28) (.const (.int .i64 1)) r25.1 (.int .i64 1) r25.2).bind fun r26 =>
 (vl r26.1 r26.2).bind fun r27 =>
 (vl r27.1 r27.2).bind fun r28 =>
 (vl x0 r28.2).bind fun r29 =>
 (nk P r29.1 r29.2).bind fun r30 =>
 (fa P 93 r30.1 0 r30.2).bind fun r31 =>
 (ld P 22 r31.1 r31.2).bind fun r32 =>
 (Ax P #[22] 3 #[r32.1] r32.2).bind fun r33 =>
 (bo P .lss 3 (.tmp 30) (.tmp 35) r28.1 r33.1 r33.2).bind fun r34 =>
 AR r34.1 (
 (vl x0 r34.2).bind fun r35 =>
 (nk P r35.1 r35.2).bind fun r36 =>
 (fa P 93 r36.1 0 r36.2).bind fun r37 =>
 (ld P 22 r37.1 r37.2).bind fun r38 =>
 (vl r27.1 r38.2).bind fun r39 =>
 (ia P 22 r38.1 r39.1 r39.2).bind fun r40 =>
 (ld P 5 r40.1 r40.2).bind fun r41 =>
 (cv P 5 3 r41.1 r41.2).bind fun r42 =>
 (vl x1 r42.2).bind fun r43 =>
 (bo P .rem 3 (.tmp 44) (.tmp 45) r42.1 r43.1 r43.2).bind fun r44 =>
 (vl r44.1 r44.2).bind fun r45 =>
 some (r45.1, r45.2)) (
 (vl x0 (dw r34.2)).bind fun r47 =>
 Ah (r47.2 = (dw r34.2)) <|
 (nk P r47.1 (dw r34.2)).bind fun r48 =>
 Ah (r48.2 = (dw r34.2)) <|
 (fa P 93 r48.1 0 (dw r34.2)).bind fun r49 =>
 Ah (r49.2 = (dw r34.2)) <|
 (ld P 22 r49.1 (dw r34.2)).bind fun r50 =>
 Ah (r50.2 = (dw r34.2)) <|
 (vl r27.1 (dw r34.2)).bind fun r51 =>
 Ah (r51.2 = (dw r34.2)) <|
 (vl x0 (dw r34.2)).bind fun r52 =>
 Ah (r52.2 = (dw r34.2)) <|
 (nk P r52.1 (dw r34.2)).bind fun r53 =>
 Ah (r53.2 = (dw r34.2)) <|
 (fa P 93 r53.1 0 (dw r34.2)).bind fun r54 =>
 Ah (r54.2 = (dw r34.2)) <|
 (ld P 22 r54.1 (dw r34.2)).bind fun r55 =>
 Ah (r55.2 = (dw r34.2)) <|
 (Ax P #[22] 3 #[r55.1] (dw r34.2)).bind fun r56 =>
 Ah (r56.2 = (dw r34.2)) <|
 (bo P .rem 3 (.tmp 51) (.tmp 56) r51.1 r56.1 (dw r34.2)).bind fun r57 =>
 Ah (r57.2 = (dw r34.2)) <|
 (ia P 22 r50.1 r57.1 (dw r34.2)).bind fun r58 =>
 Ah (r58.2 = (dw r34.2)) <|
 (ld P 5 r58.1 (dw r34.2)).bind fun r59 =>
 Ah (r59.2 = (dw r34.2)) <|
 (cv P 5 3 r59.1 (dw r34.2)).bind fun r60 =>
 Ah (r60.2 = (dw r34.2)) <|
 (bo P .mul 3 (.tmp 60) (.const (.int .i64 131)) r60.1 (.int .i64 131) (dw r34.2)).bind fun r61 =>
 Ah (r61.2 = (dw r34.2)) <|
 (vl x0 (dw r34.2)).bind fun r62 =>
 Ah (r62.2 = (dw r34.2)) <|
 (nk P r62.1 (dw r34.2)).bind fun r63 =>
 Ah (r63.2 = (dw r34.2)) <|
 (fa P 93 r63.1 0 (dw r34.2)).bind fun r64 =>
 Ah (r64.2 = (dw r34.2)) <|
 (ld P 22 r64.1 (dw r34.2)).bind fun r65 =>
 Ah (r65.2 = (dw r34.2)) <|
 (vl r27.1 (dw r34.2)).bind fun r66 =>
 Ah (r66.2 = (dw r34.2)) <|
 (bo P .mul 3 (.tmp 66) (.const (.int .i64 7)) r66.1 (.int .i64 7) (dw r34.2)).bind fun r67 =>
 Ah (r67.2 = (dw r34.2)) <|
 (bo P .add 3 (.tmp 67) (.const (.int .i64 3)) r67.1 (.int .i64 3) (dw r34.2)).bind fun r68 =>
 Ah (r68.2 = (dw r34.2)) <|
 (vl x0 (dw r34.2)).bind fun r69 =>
 Ah (r69.2 = (dw r34.2)) <|
 (nk P r69.1 (dw r34.2)).bind fun r70 =>
 Ah (r70.2 = (dw r34.2)) <|
 (fa P 93 r70.1 0 (dw r34.2)).bind fun r71 =>
 Ah (r71.2 = (dw r34.2)) <|
 (ld P 22 r71.1 (dw r34.2)).bind fun r72 =>
 Ah (r72.2 = (dw r34.2)) <|
 (Ax P #[22] 3 #[r72.1] (dw r34.2)).bind fun r73 =>
 Ah (r73.2 = (dw r34.2)) <|
 (bo P .rem 3 (.tmp 68) (.tmp 73) r68.1 r73.1 (dw r34.2)).bind fun r74 =>
 Ah (r74.2 = (dw r34.2)) <|
 (ia P 22 r65.1 r74.1 (dw r34.2)).bind fun r75 =>
 Ah (r75.2 = (dw r34.2)) <|
 (ld P 5 r75.1 (dw r34.2)).bind fun r76 =>
 Ah (r76.2 = (dw r34.2)) <|
 (cv P 5 3 r76.1 (dw r34.2)).bind fun r77 =>
 Ah (r77.2 = (dw r34.2)) <|
 (bo P .mul 3 (.tmp 77) (.const (.int .i64 1117)) r77.1 (.int .i64 1117) (dw r34.2)).bind fun r78 =>
 Ah (r78.2 = (dw r34.2)) <|
 (bo P .add 3 (.tmp 61) (.tmp 78) r61.1 r78.1 (dw r34.2)).bind fun r79 =>
 Ah (r79.2 = (dw r34.2)) <|
 (vl r27.1 (dw r34.2)).bind fun r80 =>
 Ah (r80.2 = (dw r34.2)) <|
 (bo P .mul 3 (.tmp 80) (.const (.int .i64 29)) r80.1 (.int .i64 29) (dw r34.2)).bind fun r81 =>
 Ah (r81.2 = (dw r34.2)) <|
 (bo P .add 3 (.tmp 79) (.tmp 81) r79.1 r81.1 (dw r34.2)).bind fun r82 =>
 Ah (r82.2 = (dw r34.2)) <|
 (vl r27.1 (dw r34.2)).bind fun r83 =>
 Ah (r83.2 = (dw r34.2)) <|
 (vl x0 (dw r34.2)).bind fun r84 =>
 Ah (r84.2 = (dw r34.2)) <|
 (nk P r84.1 (dw r34.2)).bind fun r85 =>
 Ah (r85.2 = (dw r34.2)) <|
 (fa P 93 r85.1 0 (dw r34.2)).bind fun r86 =>
 Ah (r86.2 = (dw r34.2)) <|
 (ld P 22 r86.1 (dw r34.2)).bind fun r87 =>
 Ah (r87.2 = (dw r34.2)) <|
 (Ax P #[22] 3 #[r87.1] (dw r34.2)).bind fun r88 =>
 Ah (r88.2 = (dw r34.2)) <|
 (bo P .quo 3 (.tmp 83) (.tmp 88) r83.1 r88.1 (dw r34.2)).bind fun r89 =>
 Ah (r89.2 = (dw r34.2)) <|
 (bo P .mul 3 (.tmp 89) (.const (.int .i64 53)) r89.1 (.int .i64 53) (dw r34.2)).bind fun r90 =>
 Ah (r90.2 = (dw r34.2)) <|
 (bo P .add 3 (.tmp 82) (.tmp 90) r82.1 r90.1 (dw r34.2)).bind fun r91 =>
 Ah (r91.2 = (dw r34.2)) <|
 (vl r91.1 (dw r34.2)).bind fun r92 =>
 Ah (r92.2 = (dw r34.2)) <|
 (vl r92.1 (dw r34.2)).bind fun r93 =>
 (vl r92.1 r93.2).bind fun r94 =>
 (bo P .quo 3 (.tmp 93) (.const (.int .i64 64)) r94.1 (.int .i64 64) r94.2).bind fun r95 =>
 (bo P .xor 3 (.tmp 92) (.tmp 94) r93.1 r95.1 r95.2).bind fun r96 =>
 (vl r96.1 r96.2).bind fun r97 =>
 (vl r97.1 r97.2).bind fun r98 =>
 (vl x1 r98.2).bind fun r99 =>
 (bo P .rem 3 (.tmp 96) (.tmp 97) r98.1 r99.1 r99.2).bind fun r100 =>
 (vl r100.1 r100.2).bind fun r101 =>
 some (r101.1, r101.2))) := by kernel_rfl
theorem Jg (x0 : Value) (w : World) : Br P (EV P) 43 #[x0] w =
 (al P 77 w).bind fun r1 =>
 (vl x0 r1.2).bind fun r2 =>
 (EV P 74 #[r2.1] r2.2).bind fun r3 =>
 (vl r3.1 r3.2).bind fun r4 =>
 (xt P r4.1 0 r4.2).bind fun r5 =>
 (xt P r4.1 1 r5.2).bind fun r6 =>
 (xt P r4.1 2 r6.2).bind fun r7 =>
 (vl r5.1 r7.2).bind fun r8 =>
 (vl r6.1 r8.2).bind fun r9 =>
 (vl r7.1 r9.2).bind fun r10 =>
 (vl r8.1 r10.2).bind fun r11 =>
 (vl r9.1 r11.2).bind fun r12 =>
 (vl r10.1 r12.2).bind fun r13 =>
 (EV P 76 #[r11.1, r12.1, r13.1] r13.2).bind fun r14 =>
 (EV P 75 #[r14.1] r14.2).bind fun r15 =>
 (st P 77 r1.1 r15.1 r15.2).bind fun r16 =>
 ((ld P 77 r1.1 r16.2).bind fun r17 => Ah (r17.2 = r16.2) (some r17.1)).bind fun v18 =>
 some (v18, r16.2) := by kernel_rfl
theorem It (x0 : Value) (w : World) : Br P (EV P) 53 #[x0] w =
 (al P 36 w).bind fun r1 =>
 (vl x0 r1.2).bind fun r2 =>
 (EV P 42 #[r2.1, (.int .i64 8)] r2.2).bind fun r3 =>
 (bo P .eql 3 (.tmp 4) (.const (.int .i64 0)) r3.1 (.int .i64 0) r3.2).bind fun r4 =>
 AR r4.1 (
 (vl x0 r4.2).bind fun r5 =>
 (bs P 64 4 #[(0, (.int .i64 0)), (1, (.int .i64 (-1))), (2, (.int .i64 1000)), (3, (.int .i64 999))] r5.2).bind fun r6 =>
 (EV P 34 #[r5.1, r6.1] r6.2).bind fun r7 =>
 (vl x0 r7.2).bind fun r8 =>
 (bs P 64 4 #[(0, (.int .i64 0)), (1, (.int .i64 1)), (2, (.int .i64 3)), (3, (.int .i64 (-1)))] r8.2).bind fun r9 =>
 (EV P 34 #[r8.1, r9.1] r9.2).bind fun r10 =>
 (bd P 36 #[(0, r7.1), (1, r10.1)] r10.2).bind fun r11 =>
 (st P 36 r1.1 r11.1 r11.2).bind fun r12 =>
 ((ld P 36 r1.1 r12.2).bind fun r13 => Ah (r13.2 = r12.2) (some r13.1)).bind fun v14 =>
 some (v14, r12.2)) (
 (vl x0 r4.2).bind fun r15 =>
 (EV P 86 #[r15.1] r15.2).bind fun r16 =>
 (st P 36 r1.1 r16.1 r16.2).bind fun r17 =>
 ((ld P 36 r1.1 r17.2).bind fun r18 => Ah (r18.2 = r17.2) (some r18.1)).bind fun v19 =>
 some (v19, r17.2)) := by kernel_rfl
theorem Eo (x0 x1 : Value) (w : World) : Br P (EV P) 54 #[x0, x1] w =
 (vl (.bool false) w).bind fun r1 =>
 (vl x0 r1.2).bind fun r2 =>
 (vl x1 r2.2).bind fun r3 =>
 (EV P 87 #[r2.1, r3.1] r3.2).bind fun r4 =>
 (bo P .geq 3 (.tmp 7) (.const (.int .i64 0)) r4.1 (.int .i64 0) r4.2).bind fun r5 =>
 (vl r5.1 r5.2).bind fun r6 =>
 some (r6.1, r6.2) := by kernel_rfl
theorem Jh (x0 : Value) (w : World) : Br P (EV P) 55 #[x0] w =
 (bx P 38 x0 w).bind fun r1 =>
 (vl (.bool false) r1.2).bind fun r2 =>
 (fa P 38 r1.1 0 r2.2).bind fun r3 =>
 (ld P 3 r3.1 r3.2).bind fun r4 =>
 (EV P 35 #[r4.1, (.int .i64 0), (.int .i64 3)] r4.2).bind fun r5 =>
 (uo P .not r5.1 r5.2).bind fun r6 =>
 (vl r6.1 r6.2).bind fun r7 =>
 (Ao r7.1 false (fa P 38 r1.1 1 r7.2) r7.2).bind fun r8 =>
 (Ao r7.1 false (ld P 3 r8.1 r8.2) r8.2).bind fun r9 =>
 (Ao r7.1 false (EV P 35 #[r9.1, (.int .i64 1), (.int .i64 3)] r9.2) r9.2).bind fun r10 =>
 (Ao r7.1 false (uo P .not r10.1 r10.2) r10.2).bind fun r11 =>
 (Az r7.1 (.bool true) r11.1 r11.2).bind fun r12 =>
 (vl r12.1 r12.2).bind fun r13 =>
 (Ao r13.1 false (fa P 38 r1.1 2 r13.2) r13.2).bind fun r14 =>
 (Ao r13.1 false (ld P 3 r14.1 r14.2) r14.2).bind fun r15 =>
 (Ao r13.1 false (EV P 56 #[r15.1] r15.2) r15.2).bind fun r16 =>
 (Ao r13.1 false (uo P .not r16.1 r16.2) r16.2).bind fun r17 =>
 (Az r13.1 (.bool true) r17.1 r17.2).bind fun r18 =>
 (vl r18.1 r18.2).bind fun r19 =>
 (Ao r19.1 false (fa P 38 r1.1 3 r19.2) r19.2).bind fun r20 =>
 (Ao r19.1 false (ld P 36 r20.1 r20.2) r20.2).bind fun r21 =>
 (Ao r19.1 false (EV P 57 #[r21.1] r21.2) r21.2).bind fun r22 =>
 (Ao r19.1 false (uo P .not r22.1 r22.2) r22.2).bind fun r23 =>
 (Az r19.1 (.bool true) r23.1 r23.2).bind fun r24 =>
 (vl r24.1 r24.2).bind fun r25 =>
 (Ao r25.1 false (fa P 38 r1.1 3 r25.2) r25.2).bind fun r26 =>
 (Ao r25.1 false (ld P 36 r26.1 r26.2) r26.2).bind fun r27 =>
 (Ao r25.1 false (bd P 36 #[] r27.2) r27.2).bind fun r28 =>
 (Ao r25.1 false (bo P .eql 36 (.tmp 27) (.tmp 28) r27.1 r28.1 r28.2) r28.2).bind fun r29 =>
 (Ao r25.1 false (vl r29.1 r29.2) r29.2).bind fun r30 =>
 (Ao r30.1 true (fa P 38 r1.1 1 r30.2) r30.2).bind fun r31 =>
 (Ao r30.1 true (ld P 3 r31.1 r31.2) r31.2).bind fun r32 =>
 (Ao r30.1 true (bo P .neq 3 (.tmp 32) (.const (.int .i64 2)) r32.1 (.int .i64 2) r32.2) r32.2).bind fun r33 =>
 (Ao r25.1 false (Az r30.1 r33.1 (.bool false) r33.2) r33.2).bind fun r34 =>
 (Az r25.1 (.bool true) r34.1 r34.2).bind fun r35 =>
 (vl r35.1 r35.2).bind fun r36 =>
 some (r36.1, r36.2) := by kernel_rfl
theorem Mm (x0 : Value) (w : World) : Br P (EV P) 56 #[x0] w =
 (vl (.bool false) w).bind fun r1 =>
 (vl x0 r1.2).bind fun r2 =>
 (EV P 35 #[r2.1, (.int .i64 0), (.int .i64 3)] r2.2).bind fun r3 =>
 (vl r3.1 r3.2).bind fun r4 =>
 some (r4.1, r4.2) := by kernel_rfl
theorem Mn (x0 : Value) (w : World) : Br P (EV P) 57 #[x0] w =
 (bx P 36 x0 w).bind fun r1 =>
 (vl (.bool false) r1.2).bind fun r2 =>
 (ld P 36 r1.1 r2.2).bind fun r3 =>
 (bd P 36 #[] r3.2).bind fun r4 =>
 (bo P .eql 36 (.tmp 3) (.tmp 4) r3.1 r4.1 r4.2).bind fun r5 =>
 (vl r5.1 r5.2).bind fun r6 =>
 (Ao r6.1 false (fa P 36 r1.1 0 r6.2) r6.2).bind fun r7 =>
 (Ao r6.1 false (ld P 3 r7.1 r7.2) r7.2).bind fun r8 =>
 (Ao r6.1 false (EV P 35 #[r8.1, (.int .i64 1), (.int .i64 999)] r8.2) r8.2).bind fun r9 =>
 (Ao r6.1 false (vl r9.1 r9.2) r9.2).bind fun r10 =>
 (Ao r10.1 true (fa P 36 r1.1 1 r10.2) r10.2).bind fun r11 =>
 (Ao r10.1 true (ld P 3 r11.1 r11.2) r11.2).bind fun r12 =>
 (Ao r10.1 true (EV P 88 #[r12.1] r12.2) r12.2).bind fun r13 =>
 (Ao r6.1 false (Az r10.1 r13.1 (.bool false) r13.2) r13.2).bind fun r14 =>
 (Az r6.1 (.bool true) r14.1 r14.2).bind fun r15 =>
 (vl r15.1 r15.2).bind fun r16 =>
 some (r16.1, r16.2) := by kernel_rfl
noncomputable def CF (e : Env) (w : World) : Option (Value × World) := Bt P (EV P) 58 17 (.loop (cA (cA (cB (cA (cB (cB (Af P 58)))))))) e w (Al 0 (Ay P (EV P) 58 17 (cB (cB (cB (Af P 58)))) (Bf P (AB P 58))))
theorem EE (e : Env) (w : World) : CF e w =
 (bo P .lss 3 (.tmp 6) (.const (.int .i64 4)) (e 6) (.int .i64 4) w).bind fun r1 =>
 AR r1.1 (
 (vl (e 6) r1.2).bind fun r2 =>
 (vl r2.1 r2.2).bind fun r3 =>
 (vl (e 1) (dw r3.2)).bind fun r5 =>
 Ah (r5.2 = (dw r3.2)) <|
 (vl r3.1 (dw r3.2)).bind fun r6 =>
 Ah (r6.2 = (dw r3.2)) <|
 (nk P r5.1 (dw r3.2)).bind fun r7 =>
 Ah (r7.2 = (dw r3.2)) <|
 (fa P 69 r7.1 0 (dw r3.2)).bind fun r8 =>
 Ah (r8.2 = (dw r3.2)) <|
 (EV P 17 #[] (dw r3.2)).bind fun r9 =>
 Ah (fa P 69 r7.1 0 r9.2 = some (r8.1, r9.2) ∧ nk P r5.1 r9.2 = some (r7.1, r9.2) ∧ True) <|
 (ia P 66 r8.1 r6.1 r9.2).bind fun r10 =>
 Ah (r10.2 = r9.2) <|
 (st P 32 r10.1 r9.1 r9.2).bind fun r11 =>
 Ah (True ∧ True ∧ True ∧ True) <|
 (bo P .add 3 (.tmp 6) (.const (.int .i64 1)) (e 6) (.int .i64 1) r11.2).bind fun r12 =>
 (vl r12.1 r12.2).bind fun r13 =>
 CF (AK e [(7, r1.1), (8, r2.1), (2, r3.1), (9, r5.1), (10, r6.1), (12, r7.1), (13, r8.1), (11, r9.1), (14, r10.1), (15, r12.1), (6, r13.1)]) r13.2) (
 (vl (e 1) r1.2).bind fun r14 =>
 (vl r14.1 r14.2).bind fun r15 =>
 some (r15.1, r15.2)) := (AA P (EV P) 58 17 (cA (cA (cB (cA (cB (cB (Af P 58))))))) e w (Al 0 (Ay P (EV P) 58 17 (cB (cB (cB (Af P 58)))) (Bf P (AB P 58))))).trans (by kernel_rfl)
theorem J1 (w : World) : Br P (EV P) 58 #[] w =
 (vl (Go.Value.pointer none) w).bind fun r1 =>
 (mm P 67 none r1.2).bind fun r2 =>
 (bd P 69 #[(1, r2.1)] r2.2).bind fun r3 =>
 (bx P 69 r3.1 r3.2).bind fun r4 =>
 (vl r4.1 r4.2).bind fun r5 =>
 (vl (.int .i64 0) r5.2).bind fun r6 =>
 CF (AK (AN #[]) [(0, r1.1), (3, r2.1), (4, r3.1), (5, r4.1), (1, r5.1), (6, r6.1)]) r6.2 := by kernel_rfl
theorem Ji (x0 x1 : Value) (w : World) : Br P (EV P) 59 #[x0, x1] w =
 (bx P 38 x1 w).bind fun r1 =>
 (vl (.bool false) r1.2).bind fun r2 =>
 (vl x0 (dw r2.2)).bind fun r4 =>
 Ah (r4.2 = (dw r2.2)) <|
 (fa P 38 r1.1 0 (dw r2.2)).bind fun r5 =>
 Ah (r5.2 = (dw r2.2)) <|
 (ld P 3 r5.1 (dw r2.2)).bind fun r6 =>
 Ah (r6.2 = (dw r2.2)) <|
 (nk P r4.1 (dw r2.2)).bind fun r7 =>
 Ah (r7.2 = (dw r2.2)) <|
 (fa P 69 r7.1 0 (dw r2.2)).bind fun r8 =>
 Ah (r8.2 = (dw r2.2)) <|
 (ia P 66 r8.1 r6.1 (dw r2.2)).bind fun r9 =>
 Ah (r9.2 = (dw r2.2)) <|
 (ld P 32 r9.1 (dw r2.2)).bind fun r10 =>
 Ah (r10.2 = (dw r2.2)) <|
 (al P 32 (dw r2.2)).bind fun r11 =>
 Ah (ld P 32 r9.1 r11.2 = some (r10.1, r11.2) ∧ ia P 66 r8.1 r6.1 r11.2 = some (r9.1, r11.2) ∧ fa P 69 r7.1 0 r11.2 = some (r8.1, r11.2) ∧ nk P r4.1 r11.2 = some (r7.1, r11.2) ∧ ld P 3 r5.1 r11.2 = some (r6.1, r11.2) ∧ fa P 38 r1.1 0 r11.2 = some (r5.1, r11.2) ∧ True) <|
 (st P 32 r11.1 r10.1 r11.2).bind fun r12 =>
 Ah (True ∧ True ∧ True ∧ True ∧ True ∧ True ∧ True) <|
 (vl x0 (dw r12.2)).bind fun r14 =>
 Ah (r14.2 = (dw r12.2)) <|
 (nk P r14.1 (dw r12.2)).bind fun r15 =>
 Ah (r15.2 = (dw r12.2)) <|
 (fa P 69 r15.1 1 (dw r12.2)).bind fun r16 =>
 Ah (r16.2 = (dw r12.2)) <|
 (ld P 67 r16.1 (dw r12.2)).bind fun r17 =>
 Ah (r17.2 = (dw r12.2)) <|
 (fa P 38 r1.1 3 (dw r12.2)).bind fun r18 =>
 Ah (r18.2 = (dw r12.2)) <|
 (ld P 36 r18.1 (dw r12.2)).bind fun r19 =>
 Ah (r19.2 = (dw r12.2)) <|
 (lk P 67 r17.1 r19.1 true (dw r12.2)).bind fun r20 =>
 Ah (r20.2 = (dw r12.2)) <|
 (vl r20.1 (dw r12.2)).bind fun r21 =>
 Ah (r21.2 = (dw r12.2)) <|
 (xt P r21.1 0 (dw r12.2)).bind fun r22 =>
 Ah (r22.2 = (dw r12.2)) <|
 (xt P r21.1 1 (dw r12.2)).bind fun r23 =>
 Ah (r23.2 = (dw r12.2)) <|
 (al P 119 (dw r12.2)).bind fun r24 =>
 Ah (xt P r21.1 1 r24.2 = some (r23.1, r24.2) ∧ xt P r21.1 0 r24.2 = some (r22.1, r24.2) ∧ lk P 67 r17.1 r19.1 true r24.2 = some (r20.1, r24.2) ∧ ld P 36 r18.1 r24.2 = some (r19.1, r24.2) ∧ fa P 38 r1.1 3 r24.2 = some (r18.1, r24.2) ∧ ld P 67 r16.1 r24.2 = some (r17.1, r24.2) ∧ fa P 69 r15.1 1 r24.2 = some (r16.1, r24.2) ∧ nk P r14.1 r24.2 = some (r15.1, r24.2) ∧ True) <|
 (st P 119 r24.1 r22.1 r24.2).bind fun r25 =>
 Ah (xt P r21.1 1 r25.2 = some (r23.1, r25.2) ∧ True ∧ True ∧ True ∧ True ∧ True ∧ True ∧ True ∧ True) <|
 (vl r23.1 r25.2).bind fun r26 =>
 Ah (r26.2 = r25.2) <|
 (fa P 38 r1.1 1 r25.2).bind fun r27 =>
 (ld P 3 r27.1 r27.2).bind fun r28 =>
 (bo P .eql 3 (.tmp 26) (.const (.int .i64 1)) r28.1 (.int .i64 1) r28.2).bind fun r29 =>
 AR r29.1 (
 (vl r26.1 (dw r29.2)).bind fun r31 =>
 Ah (r31.2 = (dw r29.2)) <|
 (vl r31.1 (dw r29.2)).bind fun r32 =>
 Ah (r32.2 = (dw r29.2)) <|
 (Ao r32.1 false (fa P 38 r1.1 3 (dw r29.2)) (dw r29.2)).bind fun r33 =>
 Ah (r33.2 = (dw r29.2)) <|
 (Ao r32.1 false (fa P 36 r33.1 0 (dw r29.2)) (dw r29.2)).bind fun r34 =>
 Ah (r34.2 = (dw r29.2)) <|
 (Ao r32.1 false (ld P 3 r34.1 (dw r29.2)) (dw r29.2)).bind fun r35 =>
 Ah (r35.2 = (dw r29.2)) <|
 (Ao r32.1 false (ld P 32 r11.1 (dw r29.2)) (dw r29.2)).bind fun r36 =>
 Ah (r36.2 = (dw r29.2)) <|
 (Ao r32.1 false (EV P 89 #[r36.1] (dw r29.2)) (dw r29.2)).bind fun r37 =>
 Ah (True ∧ Ao r32.1 false (ld P 3 r34.1 r37.2) r37.2 = some (r35.1, r37.2) ∧ Ao r32.1 false (fa P 36 r33.1 0 r37.2) r37.2 = some (r34.1, r37.2) ∧ Ao r32.1 false (fa P 38 r1.1 3 r37.2) r37.2 = some (r33.1, r37.2) ∧ True) <|
 (Ao r32.1 false (bo P .leq 3 (.tmp 32) (.tmp 34) r35.1 r37.1 r37.2) r37.2).bind fun r38 =>
 Ah (r38.2 = r37.2) <|
 (Az r32.1 (.bool true) r38.1 r37.2).bind fun r39 =>
 Ah (r39.2 = r37.2) <|
 AR r39.1 (
 (vl (.bool false) r37.2).bind fun r40 =>
 some (r40.1, r40.2)) (
 (vl x0 (dw r37.2)).bind fun r42 =>
 Ah (r42.2 = (dw r37.2)) <|
 (nk P r42.1 (dw r37.2)).bind fun r43 =>
 Ah (r43.2 = (dw r37.2)) <|
 (fa P 69 r43.1 1 (dw r37.2)).bind fun r44 =>
 Ah (r44.2 = (dw r37.2)) <|
 (ld P 67 r44.1 (dw r37.2)).bind fun r45 =>
 Ah (r45.2 = (dw r37.2)) <|
 (fa P 38 r1.1 3 (dw r37.2)).bind fun r46 =>
 Ah (r46.2 = (dw r37.2)) <|
 (ld P 36 r46.1 (dw r37.2)).bind fun r47 =>
 Ah (r47.2 = (dw r37.2)) <|
 (fa P 38 r1.1 0 (dw r37.2)).bind fun r48 =>
 Ah (r48.2 = (dw r37.2)) <|
 (ld P 3 r48.1 (dw r37.2)).bind fun r49 =>
 Ah (r49.2 = (dw r37.2)) <|
 (fa P 38 r1.1 2 (dw r37.2)).bind fun r50 =>
 Ah (r50.2 = (dw r37.2)) <|
 (ld P 3 r50.1 (dw r37.2)).bind fun r51 =>
 Ah (r51.2 = (dw r37.2)) <|
 (ld P 32 r11.1 (dw r37.2)).bind fun r52 =>
 Ah (r52.2 = (dw r37.2)) <|
 (bd P 119 #[(0, r49.1), (1, r51.1), (2, r52.1)] (dw r37.2)).bind fun r53 =>
 Ah (r53.2 = (dw r37.2)) <|
 (mu P 67 r45.1 r47.1 r53.1 (dw r37.2)).bind fun r54 =>
 Ah (True ∧ True ∧ True ∧ True ∧ True ∧ True ∧ True ∧ True ∧ True ∧ True ∧ True ∧ True) <|
 (vl (.bool true) r54.2).bind fun r55 =>
 some (r55.1, r55.2))) (
 (fa P 38 r1.1 3 (dw r29.2)).bind fun r57 =>
 Ah (r57.2 = (dw r29.2)) <|
 (ld P 36 r57.1 (dw r29.2)).bind fun r58 =>
 Ah (r58.2 = (dw r29.2)) <|
 (fa P 32 r11.1 0 (dw r29.2)).bind fun r59 =>
 Ah (r59.2 = (dw r29.2)) <|
 (ld P 30 r59.1 (dw r29.2)).bind fun r60 =>
 Ah (r60.2 = (dw r29.2)) <|
 (fa P 38 r1.1 2 (dw r29.2)).bind fun r61 =>
 Ah (r61.2 = (dw r29.2)) <|
 (ld P 3 r61.1 (dw r29.2)).bind fun r62 =>
 Ah (r62.2 = (dw r29.2)) <|
 (ia P 30 r60.1 r62.1 (dw r29.2)).bind fun r63 =>
 Ah (r63.2 = (dw r29.2)) <|
 (ld P 36 r63.1 (dw r29.2)).bind fun r64 =>
 Ah (r64.2 = (dw r29.2)) <|
 (EV P 18 #[r58.1, r64.1] (dw r29.2)).bind fun r65 =>
 Ah (True ∧ True ∧ True ∧ True ∧ True ∧ True ∧ True ∧ True ∧ True) <|
 AR r65.1 (
 (vl (.bool false) r65.2).bind fun r66 =>
 some (r66.1, r66.2)) (
 (fa P 38 r1.1 3 r65.2).bind fun r67 =>
 (ld P 36 r67.1 r67.2).bind fun r68 =>
 (bd P 36 #[] r68.2).bind fun r69 =>
 (bo P .eql 36 (.tmp 59) (.tmp 60) r68.1 r69.1 r69.2).bind fun r70 =>
 AR r70.1 (
 (vl (.bool true) r70.2).bind fun r71 =>
 some (r71.1, r71.2)) (
 (vl r26.1 r70.2).bind fun r72 =>
 (uo P .not r72.1 r72.2).bind fun r73 =>
 (vl r73.1 r73.2).bind fun r74 =>
 (Ao r74.1 false (fa P 119 r24.1 1 r74.2) r74.2).bind fun r75 =>
 (Ao r74.1 false (ld P 3 r75.1 r75.2) r75.2).bind fun r76 =>
 (Ao r74.1 false (fa P 38 r1.1 2 r76.2) r76.2).bind fun r77 =>
 (Ao r74.1 false (ld P 3 r77.1 r77.2) r77.2).bind fun r78 =>
 (Ao r74.1 false (bo P .neq 3 (.tmp 66) (.tmp 68) r76.1 r78.1 r78.2) r78.2).bind fun r79 =>
 (Az r74.1 (.bool true) r79.1 r79.2).bind fun r80 =>
 (vl r80.1 r80.2).bind fun r81 =>
 (Ao r81.1 false (fa P 38 r1.1 1 r81.2) r81.2).bind fun r82 =>
 (Ao r81.1 false (ld P 3 r82.1 r82.2) r82.2).bind fun r83 =>
 (Ao r81.1 false (bo P .eql 3 (.tmp 73) (.const (.int .i64 3)) r83.1 (.int .i64 3) r83.2) r83.2).bind fun r84 =>
 (Ao r81.1 false (vl r84.1 r84.2) r84.2).bind fun r85 =>
 (Ao r85.1 true (fa P 119 r24.1 0 r85.2) r85.2).bind fun r86 =>
 (Ao r85.1 true (ld P 3 r86.1 r86.2) r86.2).bind fun r87 =>
 (Ao r85.1 true (fa P 38 r1.1 0 r87.2) r87.2).bind fun r88 =>
 (Ao r85.1 true (ld P 3 r88.1 r88.2) r88.2).bind fun r89 =>
 (Ao r85.1 true (bo P .neq 3 (.tmp 77) (.tmp 79) r87.1 r89.1 r89.2) r89.2).bind fun r90 =>
 (Ao r81.1 false (Az r85.1 r90.1 (.bool false) r90.2) r90.2).bind fun r91 =>
 (Az r81.1 (.bool true) r91.1 r91.2).bind fun r92 =>
 AR r92.1 (
 (vl (.bool false) r92.2).bind fun r93 =>
 some (r93.1, r93.2)) (
 (vl x0 (dw r92.2)).bind fun r95 =>
 Ah (r95.2 = (dw r92.2)) <|
 (fa P 38 r1.1 0 (dw r92.2)).bind fun r96 =>
 Ah (r96.2 = (dw r92.2)) <|
 (ld P 3 r96.1 (dw r92.2)).bind fun r97 =>
 Ah (r97.2 = (dw r92.2)) <|
 (ld P 32 r11.1 (dw r92.2)).bind fun r98 =>
 Ah (r98.2 = (dw r92.2)) <|
 (fa P 119 r24.1 2 (dw r92.2)).bind fun r99 =>
 Ah (r99.2 = (dw r92.2)) <|
 (ld P 32 r99.1 (dw r92.2)).bind fun r100 =>
 Ah (r100.2 = (dw r92.2)) <|
 (fa P 38 r1.1 2 (dw r92.2)).bind fun r101 =>
 Ah (r101.2 = (dw r92.2)) <|
 (ld P 3 r101.1 (dw r92.2)).bind fun r102 =>
 Ah (r102.2 = (dw r92.2)) <|
 (fa P 38 r1.1 3 (dw r92.2)).bind fun r103 =>
 Ah (r103.2 = (dw r92.2)) <|
 (ld P 36 r103.1 (dw r92.2)).bind fun r104 =>
 Ah (r104.2 = (dw r92.2)) <|
 (nk P r95.1 (dw r92.2)).bind fun r105 =>
 Ah (r105.2 = (dw r92.2)) <|
 (fa P 69 r105.1 0 (dw r92.2)).bind fun r106 =>
 Ah (r106.2 = (dw r92.2)) <|
 (EV P 90 #[r98.1, r100.1] (dw r92.2)).bind fun r107 =>
 Ah (fa P 69 r105.1 0 r107.2 = some (r106.1, r107.2) ∧ nk P r95.1 r107.2 = some (r105.1, r107.2) ∧ ld P 36 r103.1 r107.2 = some (r104.1, r107.2) ∧ fa P 38 r1.1 3 r107.2 = some (r103.1, r107.2) ∧ ld P 3 r101.1 r107.2 = some (r102.1, r107.2) ∧ fa P 38 r1.1 2 r107.2 = some (r101.1, r107.2) ∧ True ∧ True ∧ True ∧ ld P 3 r96.1 r107.2 = some (r97.1, r107.2) ∧ fa P 38 r1.1 0 r107.2 = some (r96.1, r107.2) ∧ True) <|
 (EV P 91 #[r107.1, r102.1, r104.1] r107.2).bind fun r108 =>
 Ah (fa P 69 r105.1 0 r108.2 = some (r106.1, r108.2) ∧ nk P r95.1 r108.2 = some (r105.1, r108.2) ∧ True ∧ True ∧ True ∧ True ∧ True ∧ True ∧ True ∧ ld P 3 r96.1 r108.2 = some (r97.1, r108.2) ∧ fa P 38 r1.1 0 r108.2 = some (r96.1, r108.2) ∧ True) <|
 (ia P 66 r106.1 r97.1 r108.2).bind fun r109 =>
 Ah (r109.2 = r108.2) <|
 (st P 32 r109.1 r108.1 r108.2).bind fun r110 =>
 Ah (True ∧ True ∧ True ∧ True ∧ True ∧ True ∧ True ∧ True ∧ True ∧ True ∧ True ∧ True ∧ True) <|
 (vl (.bool true) r110.2).bind fun r111 =>
 some (r111.1, r111.2))))) := by kernel_rfl
theorem KE (x0 : Value) (w : World) : Br P (EV P) 60 #[x0] w =
 (bx P 38 x0 w).bind fun r1 =>
 (vl (.bool false) r1.2).bind fun r2 =>
 (fa P 38 r1.1 0 r2.2).bind fun r3 =>
 (ld P 3 r3.1 r3.2).bind fun r4 =>
 (EV P 37 #[r4.1, (.int .i64 0), (.int .i64 3)] r4.2).bind fun r5 =>
 (vl r5.1 r5.2).bind fun r6 =>
 (Ao r6.1 true (fa P 38 r1.1 1 r6.2) r6.2).bind fun r7 =>
 (Ao r6.1 true (ld P 3 r7.1 r7.2) r7.2).bind fun r8 =>
 (Ao r6.1 true (EV P 37 #[r8.1, (.int .i64 1), (.int .i64 3)] r8.2) r8.2).bind fun r9 =>
 (Az r6.1 r9.1 (.bool false) r9.2).bind fun r10 =>
 (vl r10.1 r10.2).bind fun r11 =>
 (Ao r11.1 true (fa P 38 r1.1 2 r11.2) r11.2).bind fun r12 =>
 (Ao r11.1 true (ld P 3 r12.1 r12.2) r12.2).bind fun r13 =>
 (Ao r11.1 true (EV P 37 #[r13.1, (.int .i64 0), (.int .i64 3)] r13.2) r13.2).bind fun r14 =>
 (Az r11.1 r14.1 (.bool false) r14.2).bind fun r15 =>
 (vl r15.1 r15.2).bind fun r16 =>
 (Ao r16.1 true (fa P 38 r1.1 3 r16.2) r16.2).bind fun r17 =>
 (Ao r16.1 true (ld P 36 r17.1 r17.2) r17.2).bind fun r18 =>
 (Ao r16.1 true (EV P 92 #[r18.1] r18.2) r18.2).bind fun r19 =>
 (Az r16.1 r19.1 (.bool false) r19.2).bind fun r20 =>
 (vl r20.1 r20.2).bind fun r21 =>
 (Ao r21.1 true (fa P 38 r1.1 1 r21.2) r21.2).bind fun r22 =>
 (Ao r21.1 true (ld P 3 r22.1 r22.2) r22.2).bind fun r23 =>
 (Ao r21.1 true (bo P .eql 3 (.tmp 23) (.const (.int .i64 2)) r23.1 (.int .i64 2) r23.2) r23.2).bind fun r24 =>
 (Ao r21.1 true (vl r24.1 r24.2) r24.2).bind fun r25 =>
 (Ao r25.1 false (fa P 38 r1.1 3 r25.2) r25.2).bind fun r26 =>
 (Ao r25.1 false (fa P 36 r26.1 0 r26.2) r26.2).bind fun r27 =>
 (Ao r25.1 false (ld P 3 r27.1 r27.2) r27.2).bind fun r28 =>
 (Ao r25.1 false (bo P .gtr 3 (.tmp 28) (.const (.int .i64 0)) r28.1 (.int .i64 0) r28.2) r28.2).bind fun r29 =>
 (Ao r21.1 true (Az r25.1 (.bool true) r29.1 r29.2) r29.2).bind fun r30 =>
 (Az r21.1 r30.1 (.bool false) r30.2).bind fun r31 =>
 (vl r31.1 r31.2).bind fun r32 =>
 some (r32.1, r32.2) := by kernel_rfl
noncomputable def CG (e : Env) (w : World) : Option (Value × World) := Bt P (EV P) 61 35 (.loop (cA (cA (cB (cA (cB (Af P 61))))))) e w (Al 0 (Ay P (EV P) 61 35 (cB (cB (Af P 61))) (Bf P (AB P 61))))
theorem EF (e : Env) (w : World) : CG e w =
 (vl (e 8) w).bind fun r1 =>
 (vl (e 0) r1.2).bind fun r2 =>
 (Ax P #[23] 3 #[r2.1] r2.2).bind fun r3 =>
 (bo P .lss 3 (.tmp 9) (.tmp 11) r1.1 r3.1 r3.2).bind fun r4 =>
 AR r4.1 (
 (vl (e 0) (dw r4.2)).bind fun r6 =>
 Ah (r6.2 = (dw r4.2)) <|
 (vl (e 8) (dw r4.2)).bind fun r7 =>
 Ah (r7.2 = (dw r4.2)) <|
 (ia P 23 r6.1 r7.1 (dw r4.2)).bind fun r8 =>
 Ah (r8.2 = (dw r4.2)) <|
 (fa P 38 r8.1 1 (dw r4.2)).bind fun r9 =>
 Ah (r9.2 = (dw r4.2)) <|
 (ld P 3 r9.1 (dw r4.2)).bind fun r10 =>
 Ah (r10.2 = (dw r4.2)) <|
 (bo P .eql 3 (.tmp 19) (.const (.int .i64 1)) r10.1 (.int .i64 1) (dw r4.2)).bind fun r11 =>
 Ah (r11.2 = (dw r4.2)) <|
 (vl r11.1 (dw r4.2)).bind fun r12 =>
 Ah (r12.2 = (dw r4.2)) <|
 (Ao r12.1 true (vl (e 0) (dw r4.2)) (dw r4.2)).bind fun r13 =>
 Ah (r13.2 = (dw r4.2)) <|
 (Ao r12.1 true (vl (e 8) (dw r4.2)) (dw r4.2)).bind fun r14 =>
 Ah (r14.2 = (dw r4.2)) <|
 (Ao r12.1 true (ia P 23 r13.1 r14.1 (dw r4.2)) (dw r4.2)).bind fun r15 =>
 Ah (r15.2 = (dw r4.2)) <|
 (Ao r12.1 true (fa P 38 r15.1 3 (dw r4.2)) (dw r4.2)).bind fun r16 =>
 Ah (r16.2 = (dw r4.2)) <|
 (Ao r12.1 true (ld P 36 r16.1 (dw r4.2)) (dw r4.2)).bind fun r17 =>
 Ah (r17.2 = (dw r4.2)) <|
 (Ao r12.1 true (ld P 36 (e 5) (dw r4.2)) (dw r4.2)).bind fun r18 =>
 Ah (r18.2 = (dw r4.2)) <|
 (Ao r12.1 true (bo P .eql 36 (.tmp 26) (.tmp 27) r17.1 r18.1 (dw r4.2)) (dw r4.2)).bind fun r19 =>
 Ah (r19.2 = (dw r4.2)) <|
 (Az r12.1 r19.1 (.bool false) (dw r4.2)).bind fun r20 =>
 Ah (r20.2 = (dw r4.2)) <|
 AR r20.1 (
 (vl (e 1) (dw r4.2)).bind fun r21 =>
 (vl (e 8) r21.2).bind fun r22 =>
 (ia P 58 r21.1 r22.1 r22.2).bind fun r23 =>
 (ld P 32 r23.1 r23.2).bind fun r24 =>
 (st P 32 (e 6) r24.1 r24.2).bind fun r25 =>
 (vl (.bool true) r25.2).bind fun r26 =>
 ((ld P 32 (e 6) r26.2).bind fun r27 => Ah (r27.2 = r26.2) (some r27.1)).bind fun v28 =>
 some (.tuple #[v28, r26.1], r26.2)) (
 (vl (e 8) (dw r4.2)).bind fun r29 =>
 (bo P .add 3 (.tmp 13) (.const (.int .i64 1)) r29.1 (.int .i64 1) r29.2).bind fun r30 =>
 (vl r30.1 r30.2).bind fun r31 =>
 CG (AK e [(9, r1.1), (10, r2.1), (11, r3.1), (12, r4.1), (15, r6.1), (16, r7.1), (17, r8.1), (18, r9.1), (19, r10.1), (20, r11.1), (21, r12.1), (22, r13.1), (23, r14.1), (24, r15.1), (25, r16.1), (26, r17.1), (27, r18.1), (28, r19.1), (29, r20.1), (13, r29.1), (14, r30.1), (8, r31.1)]) r31.2)) (
 (bd P 32 #[] r4.2).bind fun r32 =>
 (st P 32 (e 6) r32.1 r32.2).bind fun r33 =>
 (vl (.bool false) r33.2).bind fun r34 =>
 ((ld P 32 (e 6) r34.2).bind fun r35 => Ah (r35.2 = r34.2) (some r35.1)).bind fun v36 =>
 some (.tuple #[v36, r34.1], r34.2)) := (AA P (EV P) 61 35 (cA (cA (cB (cA (cB (Af P 61)))))) e w (Al 0 (Ay P (EV P) 61 35 (cB (cB (Af P 61))) (Bf P (AB P 61))))).trans (by kernel_rfl)
theorem J3 (x0 x1 x2 : Value) (w : World) : Br P (EV P) 61 #[x0, x1, x2] w =
 (bx P 36 x2 w).bind fun r1 =>
 (al P 32 r1.2).bind fun r2 =>
 (vl (.bool false) r2.2).bind fun r3 =>
 (vl (.int .i64 0) r3.2).bind fun r4 =>
 CG (AK (AN #[x0, x1, x2]) [(5, r1.1), (6, r2.1), (7, r3.1), (8, r4.1)]) r4.2 := by kernel_rfl
noncomputable def CH (e : Env) (w : World) : Option (Value × World) := Bt P (EV P) 62 19 (.loop (cA (cA (cB (cA (cB (Af P 62))))))) e w (Al 0 (Ay P (EV P) 62 19 (cB (cB (Af P 62))) (Bf P (AB P 62))))
theorem EG (e : Env) (w : World) : CH e w =
 (vl (e 5) w).bind fun r1 =>
 (bo P .lss 3 (.tmp 6) (.const (.int .i64 4)) r1.1 (.int .i64 4) r1.2).bind fun r2 =>
 AR r2.1 (
 (fa P 32 (e 2) 0 (dw r2.2)).bind fun r4 =>
 Ah (r4.2 = (dw r2.2)) <|
 (ld P 30 r4.1 (dw r2.2)).bind fun r5 =>
 Ah (r5.2 = (dw r2.2)) <|
 (vl (e 5) (dw r2.2)).bind fun r6 =>
 Ah (r6.2 = (dw r2.2)) <|
 (ia P 30 r5.1 r6.1 (dw r2.2)).bind fun r7 =>
 Ah (r7.2 = (dw r2.2)) <|
 (fa P 36 r7.1 0 (dw r2.2)).bind fun r8 =>
 Ah (r8.2 = (dw r2.2)) <|
 (ld P 3 r8.1 (dw r2.2)).bind fun r9 =>
 Ah (r9.2 = (dw r2.2)) <|
 (fa P 36 (e 3) 0 (dw r2.2)).bind fun r10 =>
 Ah (r10.2 = (dw r2.2)) <|
 (ld P 3 r10.1 (dw r2.2)).bind fun r11 =>
 Ah (r11.2 = (dw r2.2)) <|
 (bo P .geq 3 (.tmp 15) (.tmp 17) r9.1 r11.1 (dw r2.2)).bind fun r12 =>
 Ah (r12.2 = (dw r2.2)) <|
 AR r12.1 (
 (vl (.bool false) (dw r2.2)).bind fun r13 =>
 some (r13.1, r13.2)) (
 (vl (e 5) (dw r2.2)).bind fun r14 =>
 (bo P .add 3 (.tmp 8) (.const (.int .i64 1)) r14.1 (.int .i64 1) r14.2).bind fun r15 =>
 (vl r15.1 r15.2).bind fun r16 =>
 CH (AK e [(6, r1.1), (7, r2.1), (10, r4.1), (11, r5.1), (12, r6.1), (13, r7.1), (14, r8.1), (15, r9.1), (16, r10.1), (17, r11.1), (18, r12.1), (8, r14.1), (9, r15.1), (5, r16.1)]) r16.2)) (
 (vl (.bool true) r2.2).bind fun r17 =>
 some (r17.1, r17.2)) := (AA P (EV P) 62 19 (cA (cA (cB (cA (cB (Af P 62)))))) e w (Al 0 (Ay P (EV P) 62 19 (cB (cB (Af P 62))) (Bf P (AB P 62))))).trans (by kernel_rfl)
theorem J4 (x0 x1 : Value) (w : World) : Br P (EV P) 62 #[x0, x1] w =
 (bx P 32 x0 w).bind fun r1 =>
 (bx P 36 x1 r1.2).bind fun r2 =>
 (vl (.bool false) r2.2).bind fun r3 =>
 (vl (.int .i64 0) r3.2).bind fun r4 =>
 CH (AK (AN #[x0, x1]) [(2, r1.1), (3, r2.1), (4, r3.1), (5, r4.1)]) r4.2 := by kernel_rfl
theorem KF (x0 x1 : Value) (w : World) : Br P (EV P) 63 #[x0, x1] w =
 (bx P 36 x0 w).bind fun r1 =>
 (bx P 36 x1 r1.2).bind fun r2 =>
 (vl (.bool false) r2.2).bind fun r3 =>
 (fa P 36 r1.1 0 r3.2).bind fun r4 =>
 (ld P 3 r4.1 r4.2).bind fun r5 =>
 (fa P 36 r2.1 0 r5.2).bind fun r6 =>
 (ld P 3 r6.1 r6.2).bind fun r7 =>
 (bo P .lss 3 (.tmp 6) (.tmp 8) r5.1 r7.1 r7.2).bind fun r8 =>
 (vl r8.1 r8.2).bind fun r9 =>
 (Ao r9.1 false (fa P 36 r1.1 0 r9.2) r9.2).bind fun r10 =>
 (Ao r9.1 false (ld P 3 r10.1 r10.2) r10.2).bind fun r11 =>
 (Ao r9.1 false (fa P 36 r2.1 0 r11.2) r11.2).bind fun r12 =>
 (Ao r9.1 false (ld P 3 r12.1 r12.2) r12.2).bind fun r13 =>
 (Ao r9.1 false (bo P .eql 3 (.tmp 12) (.tmp 14) r11.1 r13.1 r13.2) r13.2).bind fun r14 =>
 (Ao r9.1 false (vl r14.1 r14.2) r14.2).bind fun r15 =>
 (Ao r15.1 true (fa P 36 r1.1 1 r15.2) r15.2).bind fun r16 =>
 (Ao r15.1 true (ld P 3 r16.1 r16.2) r16.2).bind fun r17 =>
 (Ao r15.1 true (fa P 36 r2.1 1 r17.2) r17.2).bind fun r18 =>
 (Ao r15.1 true (ld P 3 r18.1 r18.2) r18.2).bind fun r19 =>
 (Ao r15.1 true (bo P .lss 3 (.tmp 18) (.tmp 20) r17.1 r19.1 r19.2) r19.2).bind fun r20 =>
 (Ao r9.1 false (Az r15.1 r20.1 (.bool false) r20.2) r20.2).bind fun r21 =>
 (Az r9.1 (.bool true) r21.1 r21.2).bind fun r22 =>
 (vl r22.1 r22.2).bind fun r23 =>
 some (r23.1, r23.2) := by kernel_rfl
noncomputable def Ep (e : Env) (w : World) : Option (Value × World) := Bt P (EV P) 64 36 (.loop (cA (cA (cB (cA (cB (Af P 64))))))) e w (Al 0 (Ay P (EV P) 64 36 (cB (cB (Af P 64))) (Bf P (AB P 64))))
theorem Gz (e : Env) (w : World) : Ep e w =
 (vl (e 5) w).bind fun r1 =>
 (vl (e 0) r1.2).bind fun r2 =>
 (Ax P #[23] 3 #[r2.1] r2.2).bind fun r3 =>
 (bo P .lss 3 (.tmp 6) (.tmp 8) r1.1 r3.1 r3.2).bind fun r4 =>
 AR r4.1 (
 (vl (e 0) (dw r4.2)).bind fun r6 =>
 Ah (r6.2 = (dw r4.2)) <|
 (vl (e 5) (dw r4.2)).bind fun r7 =>
 Ah (r7.2 = (dw r4.2)) <|
 (ia P 23 r6.1 r7.1 (dw r4.2)).bind fun r8 =>
 Ah (r8.2 = (dw r4.2)) <|
 (fa P 38 r8.1 1 (dw r4.2)).bind fun r9 =>
 Ah (r9.2 = (dw r4.2)) <|
 (ld P 3 r9.1 (dw r4.2)).bind fun r10 =>
 Ah (r10.2 = (dw r4.2)) <|
 (bo P .eql 3 (.tmp 16) (.const (.int .i64 1)) r10.1 (.int .i64 1) (dw r4.2)).bind fun r11 =>
 Ah (r11.2 = (dw r4.2)) <|
 (vl r11.1 (dw r4.2)).bind fun r12 =>
 Ah (r12.2 = (dw r4.2)) <|
 (Ao r12.1 true (vl (e 0) (dw r4.2)) (dw r4.2)).bind fun r13 =>
 Ah (r13.2 = (dw r4.2)) <|
 (Ao r12.1 true (vl (e 5) (dw r4.2)) (dw r4.2)).bind fun r14 =>
 Ah (r14.2 = (dw r4.2)) <|
 (Ao r12.1 true (ia P 23 r13.1 r14.1 (dw r4.2)) (dw r4.2)).bind fun r15 =>
 Ah (r15.2 = (dw r4.2)) <|
 (Ao r12.1 true (fa P 38 r15.1 3 (dw r4.2)) (dw r4.2)).bind fun r16 =>
 Ah (r16.2 = (dw r4.2)) <|
 (Ao r12.1 true (ld P 36 r16.1 (dw r4.2)) (dw r4.2)).bind fun r17 =>
 Ah (r17.2 = (dw r4.2)) <|
 (Ao r12.1 true (fa P 38 (e 3) 3 (dw r4.2)) (dw r4.2)).bind fun r18 =>
 Ah (r18.2 = (dw r4.2)) <|
 (Ao r12.1 true (ld P 36 r18.1 (dw r4.2)) (dw r4.2)).bind fun r19 =>
 Ah (r19.2 = (dw r4.2)) <|
 (Ao r12.1 true (bo P .eql 36 (.tmp 23) (.tmp 25) r17.1 r19.1 (dw r4.2)) (dw r4.2)).bind fun r20 =>
 Ah (r20.2 = (dw r4.2)) <|
 (Az r12.1 r20.1 (.bool false) (dw r4.2)).bind fun r21 =>
 Ah (r21.2 = (dw r4.2)) <|
 AR r21.1 (
 (vl (e 0) (dw (dw r4.2))).bind fun r23 =>
 Ah (r23.2 = (dw (dw r4.2))) <|
 (vl (e 5) (dw (dw r4.2))).bind fun r24 =>
 Ah (r24.2 = (dw (dw r4.2))) <|
 (ia P 23 r23.1 r24.1 (dw (dw r4.2))).bind fun r25 =>
 Ah (r25.2 = (dw (dw r4.2))) <|
 (fa P 38 r25.1 2 (dw (dw r4.2))).bind fun r26 =>
 Ah (r26.2 = (dw (dw r4.2))) <|
 (ld P 3 r26.1 (dw (dw r4.2))).bind fun r27 =>
 Ah (r27.2 = (dw (dw r4.2))) <|
 (fa P 38 (e 3) 2 (dw (dw r4.2))).bind fun r28 =>
 Ah (r28.2 = (dw (dw r4.2))) <|
 (ld P 3 r28.1 (dw (dw r4.2))).bind fun r29 =>
 Ah (r29.2 = (dw (dw r4.2))) <|
 (bo P .eql 3 (.tmp 32) (.tmp 34) r27.1 r29.1 (dw (dw r4.2))).bind fun r30 =>
 Ah (r30.2 = (dw (dw r4.2))) <|
 (vl r30.1 (dw (dw r4.2))).bind fun r31 =>
 Ah (r31.2 = (dw (dw r4.2))) <|
 some (r31.1, (dw (dw r4.2)))) (
 (vl (e 5) (dw r4.2)).bind fun r32 =>
 (bo P .add 3 (.tmp 10) (.const (.int .i64 1)) r32.1 (.int .i64 1) r32.2).bind fun r33 =>
 (vl r33.1 r33.2).bind fun r34 =>
 Ep (AK e [(6, r1.1), (7, r2.1), (8, r3.1), (9, r4.1), (12, r6.1), (13, r7.1), (14, r8.1), (15, r9.1), (16, r10.1), (17, r11.1), (18, r12.1), (19, r13.1), (20, r14.1), (21, r15.1), (22, r16.1), (23, r17.1), (24, r18.1), (25, r19.1), (26, r20.1), (27, r21.1), (10, r32.1), (11, r33.1), (5, r34.1)]) r34.2)) (
 (vl (.bool false) r4.2).bind fun r35 =>
 some (r35.1, r35.2)) := (AA P (EV P) 64 36 (cA (cA (cB (cA (cB (Af P 64)))))) e w (Al 0 (Ay P (EV P) 64 36 (cB (cB (Af P 64))) (Bf P (AB P 64))))).trans (by kernel_rfl)
theorem NN (x0 x1 : Value) (w : World) : Br P (EV P) 64 #[x0, x1] w =
 (bx P 38 x1 w).bind fun r1 =>
 (vl (.bool false) r1.2).bind fun r2 =>
 (vl (.int .i64 0) r2.2).bind fun r3 =>
 Ep (AK (AN #[x0, x1]) [(3, r1.1), (4, r2.1), (5, r3.1)]) r3.2 := by kernel_rfl
end Go.Proofs.YtjhhommnkaemlaaGreat.X
