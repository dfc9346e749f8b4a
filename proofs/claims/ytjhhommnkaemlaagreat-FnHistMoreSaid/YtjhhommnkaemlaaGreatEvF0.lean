/- A part of the proof, without conditions. -/
import Derived.Test.YtjhhommnkaemlaaGreatEvT
set_option linter.unusedVariables false
set_option linter.unusedSimpArgs false
set_option linter.deprecated false
set_option maxRecDepth 100000
namespace Go.Proofs.YtjhhommnkaemlaaGreat.X
open Go Go.Ev
noncomputable def B6 (e : Env) (w : World) : Option (Value × World) := Bt P (EV P) 5 69 (.loop (cA (cA (cB (cA (cB (cB (cB (cB (cB (Af P 5))))))))))) e w (Al 0 (Ay P (EV P) 5 69 (cB (cB (cB (cB (cB (cB (Af P 5))))))) (Bf P (AB P 5))))
noncomputable def ET (e : Env) (w : World) : Option (Value × World) := Bt P (EV P) 5 69 (cA (cA (cA (cB (cA (cA (cB (cA (cB (cB (cB (cB (cB (Af P 5)))))))))))))) e w (Ay P (EV P) 5 69 (cB (cA (cA (cB (cA (cA (cB (cA (cB (cB (cB (cB (cB (Af P 5)))))))))))))) (Al 1 (Ay P (EV P) 5 69 (cB (cB (cA (cA (cB (cA (cB (cB (cB (cB (cB (Af P 5)))))))))))) (CO P (EV P) 5 69 (cA (cA (cB (cA (cB (cB (cB (cB (cB (Af P 5)))))))))) (Al 0 (Ay P (EV P) 5 69 (cB (cB (cB (cB (cB (cB (Af P 5))))))) (Bf P (AB P 5))))))))
noncomputable def BD (e : Env) (w : World) : Option (Value × World) := Bt P (EV P) 5 69 (cB (cA (cA (cB (cA (cA (cB (cA (cB (cB (cB (cB (cB (Af P 5)))))))))))))) e w (Al 1 (Ay P (EV P) 5 69 (cB (cB (cA (cA (cB (cA (cB (cB (cB (cB (cB (Af P 5)))))))))))) (CO P (EV P) 5 69 (cA (cA (cB (cA (cB (cB (cB (cB (cB (Af P 5)))))))))) (Al 0 (Ay P (EV P) 5 69 (cB (cB (cB (cB (cB (cB (Af P 5))))))) (Bf P (AB P 5)))))))
theorem DE (e : Env) (w : World) : B6 e w =
 (vl (e 6) w).bind fun r1 =>
 (bo P .lss 3 (.tmp 41) (.const (.int .i64 4)) r1.1 (.int .i64 4) r1.2).bind fun r2 =>
 AR r2.1 (
 ET (AK e [(41, r1.1), (42, r2.1)]) r2.2) (
 (vl (.bool true) r2.2).bind fun r3 =>
 some (r3.1, r3.2)) := (AA P (EV P) 5 69 (cA (cA (cB (cA (cB (cB (cB (cB (cB (Af P 5)))))))))) e w (Al 0 (Ay P (EV P) 5 69 (cB (cB (cB (cB (cB (cB (Af P 5))))))) (Bf P (AB P 5))))).trans (by kernel_rfl)
theorem Gw (e : Env) (w : World) {Q : Value × World → Prop} (h :
 (Ae (vl (e 3) (dw w)) fun r1 => r1.2 = (dw w) ∧
 (Ae (vl (e 4) (dw w)) fun r2 => r2.2 = (dw w) ∧
 (Ae (vl (e 6) (dw w)) fun r3 => r3.2 = (dw w) ∧
 (Ae (fa P 32 (e 5) 0 (dw w)) fun r4 => r4.2 = (dw w) ∧
 (Ae (ld P 30 r4.1 (dw w)) fun r5 => r5.2 = (dw w) ∧
 (Ae (vl (e 6) (dw w)) fun r6 => r6.2 = (dw w) ∧
 (Ae (ia P 30 r5.1 r6.1 (dw w)) fun r7 => r7.2 = (dw w) ∧
 (Ae (ld P 36 r7.1 (dw w)) fun r8 => r8.2 = (dw w) ∧
 (Ae (bd P 38 #[(0, r2.1), (1, (.int .i64 2)), (2, r3.1), (3, r8.1)] (dw w)) fun r9 => r9.2 = (dw w) ∧
 ((Ae (bs P 23 0 #[] (dw w)) fun r10 => (bd P 38 #[(0, r2.1), (1, (.int .i64 2)), (2, r3.1), (3, r8.1)] r10.2 = some (r9.1, r10.2) ∧ ld P 36 r7.1 r10.2 = some (r8.1, r10.2) ∧ ia P 30 r5.1 r6.1 r10.2 = some (r7.1, r10.2) ∧ ld P 30 r4.1 r10.2 = some (r5.1, r10.2) ∧ fa P 32 (e 5) 0 r10.2 = some (r4.1, r10.2) ∧ True) ∧
 ((Ae (Au P #[23, 23] 23 #[r10.1, r1.1] r10.2) fun r11 => (bd P 38 #[(0, r2.1), (1, (.int .i64 2)), (2, r3.1), (3, r8.1)] r11.2 = some (r9.1, r11.2) ∧ ld P 36 r7.1 r11.2 = some (r8.1, r11.2) ∧ ia P 30 r5.1 r6.1 r11.2 = some (r7.1, r11.2) ∧ ld P 30 r4.1 r11.2 = some (r5.1, r11.2) ∧ fa P 32 (e 5) 0 r11.2 = some (r4.1, r11.2) ∧ True) ∧
 ((Ae (bs P 23 1 #[(0, r9.1)] r11.2) fun r12 => (True ∧ True ∧ True ∧ True ∧ True ∧ True) ∧
 ((Ae (Au P #[23, 23] 23 #[r11.1, r12.1] r12.2) fun r13 => (True ∧ True ∧ True ∧ True ∧ True ∧ True) ∧
 (Ae (vl r13.1 r13.2) fun r14 => r14.2 = r13.2 ∧
 Ae (BD (AK e [(46, r1.1), (48, r2.1), (49, r3.1), (50, r4.1), (51, r5.1), (52, r6.1), (53, r7.1), (54, r8.1), (55, r9.1), (45, r10.1), (47, r11.1), (56, r12.1), (57, r13.1), (7, r14.1)]) r13.2) Q)))))) ∧
 (Ae (bs P 23 1 #[(0, r9.1)] r10.2) fun r15 => (True ∧ True ∧ True ∧ True ∧ True ∧ True) ∧
 ((Ae (Au P #[23, 23] 23 #[r10.1, r1.1] r15.2) fun r16 => (bd P 38 #[(0, r2.1), (1, (.int .i64 2)), (2, r3.1), (3, r8.1)] r16.2 = some (r9.1, r16.2) ∧ ld P 36 r7.1 r16.2 = some (r8.1, r16.2) ∧ ia P 30 r5.1 r6.1 r16.2 = some (r7.1, r16.2) ∧ ld P 30 r4.1 r16.2 = some (r5.1, r16.2) ∧ fa P 32 (e 5) 0 r16.2 = some (r4.1, r16.2) ∧ True) ∧
 ((Ae (Au P #[23, 23] 23 #[r16.1, r15.1] r16.2) fun r17 => (True ∧ True ∧ True ∧ True ∧ True ∧ True) ∧
 (Ae (vl r17.1 r17.2) fun r18 => r18.2 = r17.2 ∧
 Ae (BD (AK e [(46, r1.1), (48, r2.1), (49, r3.1), (50, r4.1), (51, r5.1), (52, r6.1), (53, r7.1), (54, r8.1), (55, r9.1), (45, r10.1), (56, r15.1), (47, r16.1), (57, r17.1), (7, r18.1)]) r17.2) Q)))))))) ∧
 (Ae (bs P 23 1 #[(0, r9.1)] (dw w)) fun r19 => (True ∧ True ∧ True ∧ True ∧ True ∧ True) ∧
 ((Ae (bs P 23 0 #[] r19.2) fun r20 => (bd P 38 #[(0, r2.1), (1, (.int .i64 2)), (2, r3.1), (3, r8.1)] r20.2 = some (r9.1, r20.2) ∧ ld P 36 r7.1 r20.2 = some (r8.1, r20.2) ∧ ia P 30 r5.1 r6.1 r20.2 = some (r7.1, r20.2) ∧ ld P 30 r4.1 r20.2 = some (r5.1, r20.2) ∧ fa P 32 (e 5) 0 r20.2 = some (r4.1, r20.2) ∧ True) ∧
 ((Ae (Au P #[23, 23] 23 #[r20.1, r1.1] r20.2) fun r21 => (bd P 38 #[(0, r2.1), (1, (.int .i64 2)), (2, r3.1), (3, r8.1)] r21.2 = some (r9.1, r21.2) ∧ ld P 36 r7.1 r21.2 = some (r8.1, r21.2) ∧ ia P 30 r5.1 r6.1 r21.2 = some (r7.1, r21.2) ∧ ld P 30 r4.1 r21.2 = some (r5.1, r21.2) ∧ fa P 32 (e 5) 0 r21.2 = some (r4.1, r21.2) ∧ True) ∧
 ((Ae (Au P #[23, 23] 23 #[r21.1, r19.1] r21.2) fun r22 => (True ∧ True ∧ True ∧ True ∧ True ∧ True) ∧
 (Ae (vl r22.1 r22.2) fun r23 => r23.2 = r22.2 ∧
 Ae (BD (AK e [(46, r1.1), (48, r2.1), (49, r3.1), (50, r4.1), (51, r5.1), (52, r6.1), (53, r7.1), (54, r8.1), (55, r9.1), (56, r19.1), (45, r20.1), (47, r21.1), (57, r22.1), (7, r23.1)]) r22.2) Q))))))))))))))))))) : Ae (ET e w) Q := Et (id := 10) (ops := opsOf (cA (cA (cA (cB (cA (cA (cB (cA (cB (cB (cB (cB (cB (Af P 5))))))))))))))) (by kernel_rfl) (by kernel_rfl) (Eq.mpr (by kernel_rfl) h)
theorem GI (e : Env) (w : World) : BD e w =
 (vl (e 7) (dw w)).bind fun r2 =>
 Ah (r2.2 = (dw w)) <|
 (EV P 11 #[r2.1] (dw w)).bind fun r3 =>
 Ah (True) <|
 (uo P .not r3.1 r3.2).bind fun r4 =>
 Ah (r4.2 = r3.2) <|
 (vl r4.1 r3.2).bind fun r5 =>
 Ah (r5.2 = r3.2) <|
 (Ao r5.1 false (vl (e 7) r3.2) r3.2).bind fun r6 =>
 Ah (r6.2 = r3.2) <|
 (Ao r5.1 false (vl (e 4) r3.2) r3.2).bind fun r7 =>
 Ah (r7.2 = r3.2) <|
 (Ao r5.1 false (ld P 32 (e 5) r3.2) r3.2).bind fun r8 =>
 Ah (r8.2 = r3.2) <|
 (Ao r5.1 false (EV P 14 #[r6.1, r7.1] r3.2) r3.2).bind fun r9 =>
 Ah (Ao r5.1 false (ld P 32 (e 5) r9.2) r9.2 = some (r8.1, r9.2) ∧ True ∧ True) <|
 (Ao r5.1 false (EV P 15 #[r9.1, r8.1] r9.2) r9.2).bind fun r10 =>
 Ah (True ∧ True ∧ True) <|
 (Ao r5.1 false (uo P .not r10.1 r10.2) r10.2).bind fun r11 =>
 Ah (r11.2 = r10.2) <|
 (Az r5.1 (.bool true) r11.1 r10.2).bind fun r12 =>
 Ah (r12.2 = r10.2) <|
 AR r12.1 (
 (vl (.bool false) r10.2).bind fun r13 =>
 some (r13.1, r13.2)) (
 (vl (e 6) r10.2).bind fun r14 =>
 (bo P .add 3 (.tmp 43) (.const (.int .i64 1)) r14.1 (.int .i64 1) r14.2).bind fun r15 =>
 (vl r15.1 r15.2).bind fun r16 =>
 B6 (AK e [(58, r2.1), (59, r3.1), (60, r4.1), (61, r5.1), (62, r6.1), (63, r7.1), (65, r8.1), (64, r9.1), (66, r10.1), (67, r11.1), (68, r12.1), (43, r14.1), (44, r15.1), (6, r16.1)]) r16.2) := by kernel_rfl
theorem Ig (x0 : Value) (w : World) : Br P (EV P) 5 #[x0] w =
 (vl (.bool false) w).bind fun r1 =>
 (vl x0 r1.2).bind fun r2 =>
 (Ax P #[22] 3 #[r2.1] r2.2).bind fun r3 =>
 (bo P .gtr 3 (.tmp 9) (.const (.int .i64 1048576)) r3.1 (.int .i64 1048576) r3.2).bind fun r4 =>
 AR r4.1 (
 (vl (.bool true) r4.2).bind fun r5 =>
 some (r5.1, r5.2)) (
 (vl x0 r4.2).bind fun r6 =>
 (EV P 13 #[r6.1] r6.2).bind fun r7 =>
 (vl r7.1 r7.2).bind fun r8 =>
 (xt P r8.1 0 r8.2).bind fun r9 =>
 (xt P r8.1 1 r9.2).bind fun r10 =>
 (vl r9.1 r10.2).bind fun r11 =>
 (vl r10.1 r11.2).bind fun r12 =>
 (vl r11.1 r12.2).bind fun r13 =>
 (vl r12.1 r13.2).bind fun r14 =>
 (EV P 14 #[r13.1, r14.1] r14.2).bind fun r15 =>
 (al P 32 r15.2).bind fun r16 =>
 (st P 32 r16.1 r15.1 r16.2).bind fun r17 =>
 (ld P 32 r16.1 (dw r17.2)).bind fun r19 =>
 Ah (r19.2 = (dw r17.2)) <|
 (vl r11.1 (dw r17.2)).bind fun r20 =>
 Ah (r20.2 = (dw r17.2)) <|
 (vl r12.1 (dw r17.2)).bind fun r21 =>
 Ah (r21.2 = (dw r17.2)) <|
 (EV P 16 #[r20.1, r21.1] (dw r17.2)).bind fun r22 =>
 Ah (ld P 32 r16.1 r22.2 = some (r19.1, r22.2) ∧ True) <|
 (EV P 15 #[r19.1, r22.1] r22.2).bind fun r23 =>
 Ah (True ∧ True) <|
 (uo P .not r23.1 r23.2).bind fun r24 =>
 Ah (r24.2 = r23.2) <|
 (vl r24.1 r23.2).bind fun r25 =>
 Ah (r25.2 = r23.2) <|
 (Ao r25.1 false (fa P 32 r16.1 0 r23.2) r23.2).bind fun r26 =>
 Ah (r26.2 = r23.2) <|
 (Ao r25.1 false (ld P 30 r26.1 r23.2) r23.2).bind fun r27 =>
 Ah (r27.2 = r23.2) <|
 (Ao r25.1 false (Ax P #[30] 3 #[r27.1] r23.2) r23.2).bind fun r28 =>
 Ah (r28.2 = r23.2) <|
 (Ao r25.1 false (bo P .eql 3 (.tmp 28) (.const (.int .i64 0)) r28.1 (.int .i64 0) r23.2) r23.2).bind fun r29 =>
 Ah (r29.2 = r23.2) <|
 (Az r25.1 (.bool true) r29.1 r23.2).bind fun r30 =>
 Ah (r30.2 = r23.2) <|
 (vl r30.1 r23.2).bind fun r31 =>
 Ah (r31.2 = r23.2) <|
 (Ao r31.1 false (vl r11.1 r23.2) r23.2).bind fun r32 =>
 Ah (r32.2 = r23.2) <|
 (Ao r31.1 false (Ax P #[23] 3 #[r32.1] r23.2) r23.2).bind fun r33 =>
 Ah (r33.2 = r23.2) <|
 (Ao r31.1 false (bo P .geq 3 (.tmp 33) (.const (.int .i64 80)) r33.1 (.int .i64 80) r23.2) r23.2).bind fun r34 =>
 Ah (r34.2 = r23.2) <|
 (Az r31.1 (.bool true) r34.1 r23.2).bind fun r35 =>
 Ah (r35.2 = r23.2) <|
 AR r35.1 (
 (ld P 32 r16.1 (dw r23.2)).bind fun r37 =>
 Ah (r37.2 = (dw r23.2)) <|
 (vl r11.1 (dw r23.2)).bind fun r38 =>
 Ah (r38.2 = (dw r23.2)) <|
 (vl r12.1 (dw r23.2)).bind fun r39 =>
 Ah (r39.2 = (dw r23.2)) <|
 (EV P 16 #[r38.1, r39.1] (dw r23.2)).bind fun r40 =>
 Ah (ld P 32 r16.1 r40.2 = some (r37.1, r40.2) ∧ True) <|
 (EV P 15 #[r37.1, r40.1] r40.2).bind fun r41 =>
 Ah (True ∧ True) <|
 (vl r41.1 r41.2).bind fun r42 =>
 Ah (r42.2 = r41.2) <|
 some (r42.1, r41.2)) (
 (vl (.int .i64 0) r23.2).bind fun r43 =>
 B6 (AK (AN #[x0]) [(2, r1.1), (8, r2.1), (9, r3.1), (10, r4.1), (12, r6.1), (13, r7.1), (11, r8.1), (14, r9.1), (15, r10.1), (3, r11.1), (4, r12.1), (16, r13.1), (17, r14.1), (18, r15.1), (5, r16.1), (19, r19.1), (20, r20.1), (21, r21.1), (22, r22.1), (23, r23.1), (24, r24.1), (25, r25.1), (26, r26.1), (27, r27.1), (28, r28.1), (29, r29.1), (30, r30.1), (31, r31.1), (32, r32.1), (33, r33.1), (34, r34.1), (35, r35.1), (6, r43.1)]) r43.2)) := by kernel_rfl
theorem LY (x0 : Value) (w : World) : Br P (EV P) 11 #[x0] w =
 (vl (.bool false) w).bind fun r1 =>
 (vl x0 r1.2).bind fun r2 =>
 (EV P 32 #[r2.1] r2.2).bind fun r3 =>
 (vl r3.1 r3.2).bind fun r4 =>
 (xt P r4.1 0 r4.2).bind fun r5 =>
 (xt P r4.1 1 r5.2).bind fun r6 =>
 (vl r5.1 r6.2).bind fun r7 =>
 (vl r6.1 r7.2).bind fun r8 =>
 (vl r8.1 r8.2).bind fun r9 =>
 (vl r9.1 r9.2).bind fun r10 =>
 some (r10.1, r10.2) := by kernel_rfl
theorem Hd (x0 : Value) (w : World) : Br P (EV P) 13 #[x0] w =
 (vl (Go.Value.slice none 0 0) w).bind fun r1 =>
 (vl (.int .i64 0) r1.2).bind fun r2 =>
 (vl x0 r2.2).bind fun r3 =>
 (EV P 27 #[r3.1] r3.2).bind fun r4 =>
 (vl r4.1 r4.2).bind fun r5 =>
 (vl r5.1 r5.2).bind fun r6 =>
 (EV P 26 #[r6.1] r6.2).bind fun r7 =>
 (vl r7.1 r7.2).bind fun r8 =>
 (vl r8.1 r8.2).bind fun r9 =>
 (vl r5.1 r9.2).bind fun r10 =>
 (bs P 64 6 #[(0, (.int .i64 0)), (1, (.int .i64 1)), (2, (.int .i64 2)), (3, (.int .i64 3)), (4, (.int .i64 0)), (5, (.int .i64 4))] r10.2).bind fun r11 =>
 (EV P 34 #[r10.1, r11.1] r11.2).bind fun r12 =>
 (vl r9.1 r12.2).bind fun r13 =>
 (vl r12.1 r13.2).bind fun r14 =>
 some (.tuple #[r13.1, r14.1], r14.2) := by kernel_rfl
theorem JR (x0 x1 : Value) (w : World) : Br P (EV P) 14 #[x0, x1] w =
 (al P 32 w).bind fun r1 =>
 (vl x0 r1.2).bind fun r2 =>
 (EV P 32 #[r2.1] r2.2).bind fun r3 =>
 (vl r3.1 r3.2).bind fun r4 =>
 (xt P r4.1 0 r4.2).bind fun r5 =>
 (xt P r4.1 1 r5.2).bind fun r6 =>
 (vl r5.1 r6.2).bind fun r7 =>
 (vl r6.1 r7.2).bind fun r8 =>
 (vl r8.1 r8.2).bind fun r9 =>
 (uo P .not r9.1 r9.2).bind fun r10 =>
 (vl r10.1 r10.2).bind fun r11 =>
 (Ao r11.1 false (vl x1 r11.2) r11.2).bind fun r12 =>
 (Ao r11.1 false (EV P 35 #[r12.1, (.int .i64 0), (.int .i64 3)] r12.2) r12.2).bind fun r13 =>
 (Ao r11.1 false (uo P .not r13.1 r13.2) r13.2).bind fun r14 =>
 (Az r11.1 (.bool true) r14.1 r14.2).bind fun r15 =>
 AR r15.1 (
 (bd P 32 #[] r15.2).bind fun r16 =>
 (st P 32 r1.1 r16.1 r16.2).bind fun r17 =>
 ((ld P 32 r1.1 r17.2).bind fun r18 => Ah (r18.2 = r17.2) (some r18.1)).bind fun v19 =>
 some (v19, r17.2)) (
 (vl r7.1 r15.2).bind fun r20 =>
 (vl x1 r20.2).bind fun r21 =>
 (nk P r20.1 r21.2).bind fun r22 =>
 (fa P 69 r22.1 0 r22.2).bind fun r23 =>
 (ia P 66 r23.1 r21.1 r23.2).bind fun r24 =>
 (ld P 32 r24.1 r24.2).bind fun r25 =>
 (EV P 36 #[r25.1] r25.2).bind fun r26 =>
 (st P 32 r1.1 r26.1 r26.2).bind fun r27 =>
 ((ld P 32 r1.1 r27.2).bind fun r28 => Ah (r28.2 = r27.2) (some r28.1)).bind fun v29 =>
 some (v29, r27.2)) := by kernel_rfl
noncomputable def Du (e : Env) (w : World) : Option (Value × World) := Bt P (EV P) 15 31 (.loop (cA (cA (cB (cA (cB (cB (Af P 15)))))))) e w (Al 0 (Ay P (EV P) 15 31 (cB (cB (cB (Af P 15)))) (Bf P (AB P 15))))
theorem FD (e : Env) (w : World) : Du e w =
 (vl (e 5) w).bind fun r1 =>
 (fa P 32 (e 2) 0 r1.2).bind fun r2 =>
 (ld P 30 r2.1 r2.2).bind fun r3 =>
 (Ax P #[30] 3 #[r3.1] r3.2).bind fun r4 =>
 (bo P .lss 3 (.tmp 13) (.tmp 16) r1.1 r4.1 r4.2).bind fun r5 =>
 AR r5.1 (
 (fa P 32 (e 2) 0 (dw r5.2)).bind fun r7 =>
 Ah (r7.2 = (dw r5.2)) <|
 (ld P 30 r7.1 (dw r5.2)).bind fun r8 =>
 Ah (r8.2 = (dw r5.2)) <|
 (vl (e 5) (dw r5.2)).bind fun r9 =>
 Ah (r9.2 = (dw r5.2)) <|
 (ia P 30 r8.1 r9.1 (dw r5.2)).bind fun r10 =>
 Ah (r10.2 = (dw r5.2)) <|
 (ld P 36 r10.1 (dw r5.2)).bind fun r11 =>
 Ah (r11.2 = (dw r5.2)) <|
 (fa P 32 (e 3) 0 (dw r5.2)).bind fun r12 =>
 Ah (r12.2 = (dw r5.2)) <|
 (ld P 30 r12.1 (dw r5.2)).bind fun r13 =>
 Ah (r13.2 = (dw r5.2)) <|
 (vl (e 5) (dw r5.2)).bind fun r14 =>
 Ah (r14.2 = (dw r5.2)) <|
 (ia P 30 r13.1 r14.1 (dw r5.2)).bind fun r15 =>
 Ah (r15.2 = (dw r5.2)) <|
 (ld P 36 r15.1 (dw r5.2)).bind fun r16 =>
 Ah (r16.2 = (dw r5.2)) <|
 (bo P .neq 36 (.tmp 24) (.tmp 29) r11.1 r16.1 (dw r5.2)).bind fun r17 =>
 Ah (r17.2 = (dw r5.2)) <|
 AR r17.1 (
 (vl (.bool false) (dw r5.2)).bind fun r18 =>
 some (r18.1, r18.2)) (
 (vl (e 5) (dw r5.2)).bind fun r19 =>
 (bo P .add 3 (.tmp 18) (.const (.int .i64 1)) r19.1 (.int .i64 1) r19.2).bind fun r20 =>
 (vl r20.1 r20.2).bind fun r21 =>
 Du (AK e [(13, r1.1), (14, r2.1), (15, r3.1), (16, r4.1), (17, r5.1), (20, r7.1), (21, r8.1), (22, r9.1), (23, r10.1), (24, r11.1), (25, r12.1), (26, r13.1), (27, r14.1), (28, r15.1), (29, r16.1), (30, r17.1), (18, r19.1), (19, r20.1), (5, r21.1)]) r21.2)) (
 (vl (.bool true) r5.2).bind fun r22 =>
 some (r22.1, r22.2)) := (AA P (EV P) 15 31 (cA (cA (cB (cA (cB (cB (Af P 15))))))) e w (Al 0 (Ay P (EV P) 15 31 (cB (cB (cB (Af P 15)))) (Bf P (AB P 15))))).trans (by kernel_rfl)
theorem LZ (x0 x1 : Value) (w : World) : Br P (EV P) 15 #[x0, x1] w =
 (bx P 32 x0 w).bind fun r1 =>
 (bx P 32 x1 r1.2).bind fun r2 =>
 (vl (.bool false) r2.2).bind fun r3 =>
 (fa P 32 r1.1 0 r3.2).bind fun r4 =>
 (ld P 30 r4.1 r4.2).bind fun r5 =>
 (Ax P #[30] 3 #[r5.1] r5.2).bind fun r6 =>
 (fa P 32 r2.1 0 r6.2).bind fun r7 =>
 (ld P 30 r7.1 r7.2).bind fun r8 =>
 (Ax P #[30] 3 #[r8.1] r8.2).bind fun r9 =>
 (bo P .neq 3 (.tmp 8) (.tmp 11) r6.1 r9.1 r9.2).bind fun r10 =>
 AR r10.1 (
 (vl (.bool false) r10.2).bind fun r11 =>
 some (r11.1, r11.2)) (
 (vl (.int .i64 0) r10.2).bind fun r12 =>
 Du (AK (AN #[x0, x1]) [(2, r1.1), (3, r2.1), (4, r3.1), (6, r4.1), (7, r5.1), (8, r6.1), (9, r7.1), (10, r8.1), (11, r9.1), (12, r10.1), (5, r12.1)]) r12.2) := by kernel_rfl
noncomputable def Cv (e : Env) (w : World) : Option (Value × World) := Bt P (EV P) 16 50 (.loop (cA (cA (cB (cA (cB (cB (cB (cB (Af P 16)))))))))) e w (Al 0 (Ay P (EV P) 16 50 (cB (cB (cB (cB (cB (Af P 16)))))) (Bf P (AB P 16))))
noncomputable def DL (e : Env) (w : World) : Option (Value × World) := Bt P (EV P) 16 50 (cB (cB (cA (cA (cB (cA (cB (cB (cB (cB (Af P 16))))))))))) e w (CO P (EV P) 16 50 (cA (cA (cB (cA (cB (cB (cB (cB (Af P 16))))))))) (Al 0 (Ay P (EV P) 16 50 (cB (cB (cB (cB (cB (Af P 16)))))) (Bf P (AB P 16)))))
theorem En (e : Env) (w : World) : Cv e w =
 (vl (e 8) w).bind fun r1 =>
 (vl (e 0) r1.2).bind fun r2 =>
 (Ax P #[23] 3 #[r2.1] r2.2).bind fun r3 =>
 (bo P .lss 3 (.tmp 24) (.tmp 26) r1.1 r3.1 r3.2).bind fun r4 =>
 AR r4.1 (
 (vl (e 0) r4.2).bind fun r5 =>
 (vl (e 8) r5.2).bind fun r6 =>
 (ia P 23 r5.1 r6.1 r6.2).bind fun r7 =>
 (fa P 38 r7.1 0 r7.2).bind fun r8 =>
 (ld P 3 r8.1 r8.2).bind fun r9 =>
 (vl (e 1) r9.2).bind fun r10 =>
 (bo P .eql 3 (.tmp 34) (.tmp 35) r9.1 r10.1 r10.2).bind fun r11 =>
 (vl r11.1 r11.2).bind fun r12 =>
 (Ao r12.1 true (vl (e 0) r12.2) r12.2).bind fun r13 =>
 (Ao r12.1 true (vl (e 8) r13.2) r13.2).bind fun r14 =>
 (Ao r12.1 true (ia P 23 r13.1 r14.1 r14.2) r14.2).bind fun r15 =>
 (Ao r12.1 true (fa P 38 r15.1 1 r15.2) r15.2).bind fun r16 =>
 (Ao r12.1 true (ld P 3 r16.1 r16.2) r16.2).bind fun r17 =>
 (Ao r12.1 true (bo P .neq 3 (.tmp 42) (.const (.int .i64 1)) r17.1 (.int .i64 1) r17.2) r17.2).bind fun r18 =>
 (Az r12.1 r18.1 (.bool false) r18.2).bind fun r19 =>
 AR r19.1 (
 (vl (e 5) r19.2).bind fun r20 =>
 (vl (e 8) r20.2).bind fun r21 =>
 (ia P 58 r20.1 r21.1 r21.2).bind fun r22 =>
 (ld P 32 r22.1 r22.2).bind fun r23 =>
 (st P 32 (e 7) r23.1 r23.2).bind fun r24 =>
 DL (AK e [(24, r1.1), (25, r2.1), (26, r3.1), (27, r4.1), (30, r5.1), (31, r6.1), (32, r7.1), (33, r8.1), (34, r9.1), (35, r10.1), (36, r11.1), (37, r12.1), (38, r13.1), (39, r14.1), (40, r15.1), (41, r16.1), (42, r17.1), (43, r18.1), (44, r19.1), (45, r20.1), (46, r21.1), (47, r22.1), (48, r23.1)]) r24.2) (
 DL (AK e [(24, r1.1), (25, r2.1), (26, r3.1), (27, r4.1), (30, r5.1), (31, r6.1), (32, r7.1), (33, r8.1), (34, r9.1), (35, r10.1), (36, r11.1), (37, r12.1), (38, r13.1), (39, r14.1), (40, r15.1), (41, r16.1), (42, r17.1), (43, r18.1), (44, r19.1)]) r19.2)) (
 (ld P 32 (e 7) r4.2).bind fun r25 =>
 (st P 32 (e 4) r25.1 r25.2).bind fun r26 =>
 ((ld P 32 (e 4) r26.2).bind fun r27 => Ah (r27.2 = r26.2) (some r27.1)).bind fun v28 =>
 some (v28, r26.2)) := (AA P (EV P) 16 50 (cA (cA (cB (cA (cB (cB (cB (cB (Af P 16))))))))) e w (Al 0 (Ay P (EV P) 16 50 (cB (cB (cB (cB (cB (Af P 16)))))) (Bf P (AB P 16))))).trans (by kernel_rfl)
theorem Cz (e : Env) (w : World) : DL e w =
 (vl (e 8) w).bind fun r1 =>
 (bo P .add 3 (.tmp 28) (.const (.int .i64 1)) r1.1 (.int .i64 1) r1.2).bind fun r2 =>
 (vl r2.1 r2.2).bind fun r3 =>
 Cv (AK e [(28, r1.1), (29, r2.1), (8, r3.1)]) r3.2 := by kernel_rfl
theorem JS (x0 x1 : Value) (w : World) : Br P (EV P) 16 #[x0, x1] w =
 (al P 32 w).bind fun r1 =>
 (vl x0 r1.2).bind fun r2 =>
 (EV P 33 #[r2.1] r2.2).bind fun r3 =>
 (uo P .not r3.1 r3.2).bind fun r4 =>
 (vl r4.1 r4.2).bind fun r5 =>
 (Ao r5.1 false (vl x1 r5.2) r5.2).bind fun r6 =>
 (Ao r5.1 false (EV P 37 #[r6.1, (.int .i64 0), (.int .i64 3)] r6.2) r6.2).bind fun r7 =>
 (Ao r5.1 false (uo P .not r7.1 r7.2) r7.2).bind fun r8 =>
 (Az r5.1 (.bool true) r8.1 r8.2).bind fun r9 =>
 AR r9.1 (
 (bd P 32 #[] r9.2).bind fun r10 =>
 (st P 32 r1.1 r10.1 r10.2).bind fun r11 =>
 ((ld P 32 r1.1 r11.2).bind fun r12 => Ah (r12.2 = r11.2) (some r12.1)).bind fun v13 =>
 some (v13, r11.2)) (
 (vl x0 r9.2).bind fun r14 =>
 (EV P 31 #[r14.1] r14.2).bind fun r15 =>
 (vl r15.1 r15.2).bind fun r16 =>
 (xt P r16.1 0 r16.2).bind fun r17 =>
 (xt P r16.1 1 r17.2).bind fun r18 =>
 (vl r17.1 r18.2).bind fun r19 =>
 (vl r18.1 r19.2).bind fun r20 =>
 (EV P 38 #[] r20.2).bind fun r21 =>
 (al P 32 r21.2).bind fun r22 =>
 (st P 32 r22.1 r21.1 r22.2).bind fun r23 =>
 (vl (.int .i64 0) r23.2).bind fun r24 =>
 Cv (AK (AN #[x0, x1]) [(4, r1.1), (9, r2.1), (10, r3.1), (11, r4.1), (12, r5.1), (13, r6.1), (14, r7.1), (15, r8.1), (16, r9.1), (19, r14.1), (20, r15.1), (18, r16.1), (21, r17.1), (22, r18.1), (5, r19.1), (6, r20.1), (23, r21.1), (7, r22.1), (8, r24.1)]) r24.2) := by kernel_rfl
theorem JT (w : World) : Br P (EV P) 17 #[] w =
 (al P 32 w).bind fun r1 =>
 (ms P 30 (.int .i64 4) (.int .i64 4) r1.2).bind fun r2 =>
 (bd P 32 #[(0, r2.1)] r2.2).bind fun r3 =>
 (st P 32 r1.1 r3.1 r3.2).bind fun r4 =>
 ((ld P 32 r1.1 r4.2).bind fun r5 => Ah (r5.2 = r4.2) (some r5.1)).bind fun v6 =>
 some (v6, r4.2) := by kernel_rfl
theorem Kp (x0 x1 : Value) (w : World) : Br P (EV P) 18 #[x0, x1] w =
 (bx P 36 x0 w).bind fun r1 =>
 (bx P 36 x1 r1.2).bind fun r2 =>
 (vl (.bool false) r2.2).bind fun r3 =>
 (ld P 36 r1.1 r3.2).bind fun r4 =>
 (ld P 36 r2.1 r4.2).bind fun r5 =>
 (EV P 39 #[r4.1, r5.1] r5.2).bind fun r6 =>
 (bo P .lss 3 (.tmp 7) (.const (.int .i64 0)) r6.1 (.int .i64 0) r6.2).bind fun r7 =>
 (vl r7.1 r7.2).bind fun r8 =>
 some (r8.1, r8.2) := by kernel_rfl
noncomputable def Be (e : Env) (w : World) : Option (Value × World) := Bt P (EV P) 26 65 (cB (cB (cB (Af P 26)))) e w (Bf P (AB P 26))
theorem Ih (e : Env) (w : World) : Be e w =
 (vl (e 3) w).bind fun r1 =>
 (vl r1.1 r1.2).bind fun r2 =>
 some (r2.1, r2.2) := by kernel_rfl
theorem Kq (x0 : Value) (w : World) : Br P (EV P) 26 #[x0] w =
 (vl (Go.Value.slice none 0 0) w).bind fun r1 =>
 (bs P 23 0 #[] r1.2).bind fun r2 =>
 (vl x0 r2.2).bind fun r3 =>
 (EV P 43 #[r3.1] r3.2).bind fun r4 =>
 (fv P 77 r4.1 3 r4.2).bind fun r5 =>
 (Au P #[23, 23] 23 #[r2.1, r5.1] r5.2).bind fun r6 =>
 (vl r6.1 r6.2).bind fun r7 =>
 (vl r7.1 r7.2).bind fun r8 =>
 (Ax P #[23] 3 #[r8.1] r8.2).bind fun r9 =>
 (bo P .gtr 3 (.tmp 11) (.const (.int .i64 0)) r9.1 (.int .i64 0) r9.2).bind fun r10 =>
 (vl r10.1 r10.2).bind fun r11 =>
 (Ao r11.1 true (vl x0 r11.2) r11.2).bind fun r12 =>
 (Ao r11.1 true (EV P 42 #[r12.1, (.int .i64 3)] r12.2) r12.2).bind fun r13 =>
 (Ao r11.1 true (bo P .eql 3 (.tmp 15) (.const (.int .i64 0)) r13.1 (.int .i64 0) r13.2) r13.2).bind fun r14 =>
 (Az r11.1 r14.1 (.bool false) r14.2).bind fun r15 =>
 AR r15.1 (
 (vl x0 r15.2).bind fun r16 =>
 (vl r7.1 r16.2).bind fun r17 =>
 (Ax P #[23] 3 #[r17.1] r17.2).bind fun r18 =>
 (EV P 42 #[r16.1, r18.1] r18.2).bind fun r19 =>
 (vl r19.1 r19.2).bind fun r20 =>
 (vl x0 r20.2).bind fun r21 =>
 (EV P 42 #[r21.1, (.int .i64 5)] r21.2).bind fun r22 =>
 (bo P .eql 3 (.tmp 23) (.const (.int .i64 0)) r22.1 (.int .i64 0) r22.2).bind fun r23 =>
 (vl r23.1 r23.2).bind fun r24 =>
 AR r24.1 (
 (vl r7.1 r24.2).bind fun r25 =>
 (vl r20.1 r25.2).bind fun r26 =>
 (vl x0 r26.2).bind fun r27 =>
 (EV P 53 #[r27.1] r27.2).bind fun r28 =>
 (ia P 23 r25.1 r26.1 r28.2).bind fun r29 =>
 (fa P 38 r29.1 3 r29.2).bind fun r30 =>
 (st P 36 r30.1 r28.1 r30.2).bind fun r31 =>
 Be (AK (AN #[x0]) [(2, r1.1), (5, r2.1), (6, r3.1), (7, r4.1), (8, r5.1), (9, r6.1), (3, r7.1), (10, r8.1), (11, r9.1), (12, r10.1), (13, r11.1), (14, r12.1), (15, r13.1), (16, r14.1), (17, r15.1), (18, r16.1), (19, r17.1), (20, r18.1), (21, r19.1), (4, r20.1), (22, r21.1), (23, r22.1), (33, r23.1), (32, r24.1), (34, r25.1), (35, r26.1), (36, r27.1), (37, r28.1), (38, r29.1), (39, r30.1)]) r31.2) (
 (bo P .eql 3 (.tmp 23) (.const (.int .i64 1)) r22.1 (.int .i64 1) r24.2).bind fun r32 =>
 (vl r32.1 r32.2).bind fun r33 =>
 AR r33.1 (
 (vl r7.1 r33.2).bind fun r34 =>
 (vl r20.1 r34.2).bind fun r35 =>
 (vl x0 r35.2).bind fun r36 =>
 (EV P 42 #[r36.1, (.int .i64 5)] r36.2).bind fun r37 =>
 (ia P 23 r34.1 r35.1 r37.2).bind fun r38 =>
 (fa P 38 r38.1 1 r38.2).bind fun r39 =>
 (st P 3 r39.1 r37.1 r39.2).bind fun r40 =>
 Be (AK (AN #[x0]) [(2, r1.1), (5, r2.1), (6, r3.1), (7, r4.1), (8, r5.1), (9, r6.1), (3, r7.1), (10, r8.1), (11, r9.1), (12, r10.1), (13, r11.1), (14, r12.1), (15, r13.1), (16, r14.1), (17, r15.1), (18, r16.1), (19, r17.1), (20, r18.1), (21, r19.1), (4, r20.1), (22, r21.1), (23, r22.1), (33, r23.1), (32, r24.1), (41, r32.1), (40, r33.1), (42, r34.1), (43, r35.1), (44, r36.1), (45, r37.1), (46, r38.1), (47, r39.1)]) r40.2) (
 (bo P .eql 3 (.tmp 23) (.const (.int .i64 2)) r22.1 (.int .i64 2) r33.2).bind fun r41 =>
 (vl r41.1 r41.2).bind fun r42 =>
 AR r42.1 (
 (vl r7.1 r42.2).bind fun r43 =>
 (vl r20.1 r43.2).bind fun r44 =>
 (vl x0 r44.2).bind fun r45 =>
 (EV P 42 #[r45.1, (.int .i64 5)] r45.2).bind fun r46 =>
 (ia P 23 r43.1 r44.1 r46.2).bind fun r47 =>
 (fa P 38 r47.1 2 r47.2).bind fun r48 =>
 (st P 3 r48.1 r46.1 r48.2).bind fun r49 =>
 Be (AK (AN #[x0]) [(2, r1.1), (5, r2.1), (6, r3.1), (7, r4.1), (8, r5.1), (9, r6.1), (3, r7.1), (10, r8.1), (11, r9.1), (12, r10.1), (13, r11.1), (14, r12.1), (15, r13.1), (16, r14.1), (17, r15.1), (18, r16.1), (19, r17.1), (20, r18.1), (21, r19.1), (4, r20.1), (22, r21.1), (23, r22.1), (33, r23.1), (32, r24.1), (41, r32.1), (40, r33.1), (49, r41.1), (48, r42.1), (50, r43.1), (51, r44.1), (52, r45.1), (53, r46.1), (54, r47.1), (55, r48.1)]) r49.2) (
 (bo P .eql 3 (.tmp 23) (.const (.int .i64 3)) r22.1 (.int .i64 3) r42.2).bind fun r50 =>
 (vl r50.1 r50.2).bind fun r51 =>
 AR r51.1 (
 (vl r7.1 r51.2).bind fun r52 =>
 (vl r20.1 r52.2).bind fun r53 =>
 (vl x0 r53.2).bind fun r54 =>
 (EV P 42 #[r54.1, (.int .i64 5)] r54.2).bind fun r55 =>
 (ia P 23 r52.1 r53.1 r55.2).bind fun r56 =>
 (fa P 38 r56.1 0 r56.2).bind fun r57 =>
 (st P 3 r57.1 r55.1 r57.2).bind fun r58 =>
 Be (AK (AN #[x0]) [(2, r1.1), (5, r2.1), (6, r3.1), (7, r4.1), (8, r5.1), (9, r6.1), (3, r7.1), (10, r8.1), (11, r9.1), (12, r10.1), (13, r11.1), (14, r12.1), (15, r13.1), (16, r14.1), (17, r15.1), (18, r16.1), (19, r17.1), (20, r18.1), (21, r19.1), (4, r20.1), (22, r21.1), (23, r22.1), (33, r23.1), (32, r24.1), (41, r32.1), (40, r33.1), (49, r41.1), (48, r42.1), (57, r50.1), (56, r51.1), (58, r52.1), (59, r53.1), (60, r54.1), (61, r55.1), (62, r56.1), (63, r57.1)]) r58.2) (
 (vl r7.1 (dw r51.2)).bind fun r60 =>
 Ah (r60.2 = (dw r51.2)) <|
 (vl r20.1 (dw r51.2)).bind fun r61 =>
 Ah (r61.2 = (dw r51.2)) <|
 (sl P 23 r60.1 none (some r61.1) none (dw r51.2)).bind fun r62 =>
 Ah (r62.2 = (dw r51.2)) <|
 (vl r7.1 (dw r51.2)).bind fun r63 =>
 Ah (r63.2 = (dw r51.2)) <|
 (vl r20.1 (dw r51.2)).bind fun r64 =>
 Ah (r64.2 = (dw r51.2)) <|
 (bo P .add 3 (.tmp 28) (.const (.int .i64 1)) r64.1 (.int .i64 1) (dw r51.2)).bind fun r65 =>
 Ah (r65.2 = (dw r51.2)) <|
 (sl P 23 r63.1 (some r65.1) none none (dw r51.2)).bind fun r66 =>
 Ah (r66.2 = (dw r51.2)) <|
 (Au P #[23, 23] 23 #[r62.1, r66.1] (dw r51.2)).bind fun r67 =>
 Ah (True ∧ True ∧ True ∧ True) <|
 (vl r67.1 r67.2).bind fun r68 =>
 Ah (r68.2 = r67.2) <|
 Be (AK (AN #[x0]) [(2, r1.1), (5, r2.1), (6, r3.1), (7, r4.1), (8, r5.1), (9, r6.1), (3, r7.1), (10, r8.1), (11, r9.1), (12, r10.1), (13, r11.1), (14, r12.1), (15, r13.1), (16, r14.1), (17, r15.1), (18, r16.1), (19, r17.1), (20, r18.1), (21, r19.1), (4, r20.1), (22, r21.1), (23, r22.1), (33, r23.1), (32, r24.1), (41, r32.1), (40, r33.1), (49, r41.1), (48, r42.1), (57, r50.1), (56, r51.1), (24, r60.1), (25, r61.1), (26, r62.1), (27, r63.1), (28, r64.1), (29, r65.1), (30, r66.1), (31, r67.1), (3, r68.1)]) r67.2))))) (
 Be (AK (AN #[x0]) [(2, r1.1), (5, r2.1), (6, r3.1), (7, r4.1), (8, r5.1), (9, r6.1), (3, r7.1), (10, r8.1), (11, r9.1), (12, r10.1), (13, r11.1), (14, r12.1), (15, r13.1), (16, r14.1), (17, r15.1)]) r15.2) := by kernel_rfl
noncomputable def CJ (e : Env) (w : World) : Option (Value × World) := Bt P (EV P) 27 11 (cB (cB (Af P 27))) e w (Bf P (AB P 27))
theorem Ii (e : Env) (w : World) : CJ e w =
 (vl (e 0) w).bind fun r1 =>
 (bd P 93 #[(0, r1.1)] r1.2).bind fun r2 =>
 (bx P 93 r2.1 r2.2).bind fun r3 =>
 (vl r3.1 r3.2).bind fun r4 =>
 some (r4.1, r4.2) := by kernel_rfl
theorem Kr (x0 : Value) (w : World) : Br P (EV P) 27 #[x0] w =
 (vl (Go.Value.pointer none) w).bind fun r1 =>
 (vl x0 r1.2).bind fun r2 =>
 (Ax P #[22] 3 #[r2.1] r2.2).bind fun r3 =>
 (bo P .gtr 3 (.tmp 4) (.const (.int .i64 2000)) r3.1 (.int .i64 2000) r3.2).bind fun r4 =>
 AR r4.1 (
 (vl x0 r4.2).bind fun r5 =>
 (sl P 22 r5.1 none (some (.int .i64 2000)) none r5.2).bind fun r6 =>
 (vl r6.1 r6.2).bind fun r7 =>
 CJ (AK (AN #[x0]) [(2, r1.1), (3, r2.1), (4, r3.1), (5, r4.1), (6, r5.1), (7, r6.1), (0, r7.1)]) r7.2) (
 CJ (AK (AN #[x0]) [(2, r1.1), (3, r2.1), (4, r3.1), (5, r4.1)]) r4.2) := by kernel_rfl
theorem L6 (x0 : Value) (w : World) : Br P (EV P) 28 #[x0] w =
 (vl (.bool false) w).bind fun r1 =>
 (vl x0 r1.2).bind fun r2 =>
 (Ax P #[23] 3 #[r2.1] r2.2).bind fun r3 =>
 (bo P .leq 3 (.tmp 4) (.const (.int .i64 80)) r3.1 (.int .i64 80) r3.2).bind fun r4 =>
 (vl r4.1 r4.2).bind fun r5 =>
 (Ao r5.1 true (vl x0 r5.2) r5.2).bind fun r6 =>
 (Ao r5.1 true (EV P 54 #[r6.1, (.func (.func 55) #[] #[])] r6.2) r6.2).bind fun r7 =>
 (Ao r5.1 true (uo P .not r7.1 r7.2) r7.2).bind fun r8 =>
 (Az r5.1 r8.1 (.bool false) r8.2).bind fun r9 =>
 (vl r9.1 r9.2).bind fun r10 =>
 some (r10.1, r10.2) := by kernel_rfl
noncomputable def Dw (e : Env) (w : World) : Option (Value × World) := Bt P (EV P) 29 25 (.loop (cA (cA (cB (cA (cB (cB (Af P 29)))))))) e w (Al 0 (Ay P (EV P) 29 25 (cB (cB (cB (Af P 29)))) (Bf P (AB P 29))))
theorem FE (e : Env) (w : World) : Dw e w =
 (bo P .lss 3 (.tmp 10) (.tmp 9) (e 10) (e 9) w).bind fun r1 =>
 AR r1.1 (
 (vl (e 10) r1.2).bind fun r2 =>
 (ia P 23 (e 8) (e 10) r2.2).bind fun r3 =>
 (ld P 38 r3.1 r3.2).bind fun r4 =>
 (al P 38 r4.2).bind fun r5 =>
 (vl r2.1 r5.2).bind fun r6 =>
 (st P 38 r5.1 r4.1 r6.2).bind fun r7 =>
 (vl (e 4) r7.2).bind fun r8 =>
 (ld P 38 r5.1 r8.2).bind fun r9 =>
 (EV P 59 #[r8.1, r9.1] r9.2).bind fun r10 =>
 (uo P .not r10.1 r10.2).bind fun r11 =>
 AR r11.1 (
 (vl (e 4) r11.2).bind fun r12 =>
 (vl r6.1 r12.2).bind fun r13 =>
 (vl r12.1 r13.2).bind fun r14 =>
 (vl r13.1 r14.2).bind fun r15 =>
 some (.tuple #[r14.1, r15.1], r15.2)) (
 (bo P .add 3 (.tmp 10) (.const (.int .i64 1)) (e 10) (.int .i64 1) r11.2).bind fun r16 =>
 (vl r16.1 r16.2).bind fun r17 =>
 Dw (AK e [(11, r1.1), (12, r2.1), (13, r3.1), (14, r4.1), (6, r5.1), (5, r6.1), (15, r8.1), (16, r9.1), (17, r10.1), (18, r11.1), (21, r16.1), (10, r17.1)]) r17.2)) (
 (vl (e 4) r1.2).bind fun r18 =>
 (vl (e 0) r18.2).bind fun r19 =>
 (Ax P #[23] 3 #[r19.1] r19.2).bind fun r20 =>
 (vl r18.1 r20.2).bind fun r21 =>
 (vl r20.1 r21.2).bind fun r22 =>
 some (.tuple #[r21.1, r22.1], r22.2)) := (AA P (EV P) 29 25 (cA (cA (cB (cA (cB (cB (Af P 29))))))) e w (Al 0 (Ay P (EV P) 29 25 (cB (cB (cB (Af P 29)))) (Bf P (AB P 29))))).trans (by kernel_rfl)
theorem L7 (x0 : Value) (w : World) : Br P (EV P) 29 #[x0] w =
 (vl (Go.Value.pointer none) w).bind fun r1 =>
 (vl (.int .i64 0) r1.2).bind fun r2 =>
 (EV P 58 #[] r2.2).bind fun r3 =>
 (vl r3.1 r3.2).bind fun r4 =>
 (vl x0 r4.2).bind fun r5 =>
 (Ax P #[23] 3 #[r5.1] r5.2).bind fun r6 =>
 (vl (.int .i64 0) r6.2).bind fun r7 =>
 Dw (AK (AN #[x0]) [(2, r1.1), (3, r2.1), (7, r3.1), (4, r4.1), (8, r5.1), (9, r6.1), (10, r7.1)]) r7.2 := by kernel_rfl
noncomputable def Dx (e : Env) (w : World) : Option (Value × World) := Bt P (EV P) 30 19 (.loop (cA (cA (cB (cA (cB (Af P 30))))))) e w (Al 0 (Ay P (EV P) 30 19 (cB (cB (Af P 30))) (Bf P (AB P 30))))
theorem FF (e : Env) (w : World) : Dx e w =
 (vl (e 3) w).bind fun r1 =>
 (vl (e 0) r1.2).bind fun r2 =>
 (Ax P #[23] 3 #[r2.1] r2.2).bind fun r3 =>
 (bo P .lss 3 (.tmp 4) (.tmp 6) r1.1 r3.1 r3.2).bind fun r4 =>
 AR r4.1 (
 (vl (e 0) r4.2).bind fun r5 =>
 (vl (e 3) r5.2).bind fun r6 =>
 (ia P 23 r5.1 r6.1 r6.2).bind fun r7 =>
 (ld P 38 r7.1 r7.2).bind fun r8 =>
 (EV P 60 #[r8.1] r8.2).bind fun r9 =>
 (uo P .not r9.1 r9.2).bind fun r10 =>
 AR r10.1 (
 (vl (.bool false) r10.2).bind fun r11 =>
 some (r11.1, r11.2)) (
 (vl (e 3) r10.2).bind fun r12 =>
 (bo P .add 3 (.tmp 8) (.const (.int .i64 1)) r12.1 (.int .i64 1) r12.2).bind fun r13 =>
 (vl r13.1 r13.2).bind fun r14 =>
 Dx (AK e [(4, r1.1), (5, r2.1), (6, r3.1), (7, r4.1), (10, r5.1), (11, r6.1), (12, r7.1), (13, r8.1), (14, r9.1), (15, r10.1), (8, r12.1), (9, r13.1), (3, r14.1)]) r14.2)) (
 (vl (e 0) r4.2).bind fun r15 =>
 (Ax P #[23] 3 #[r15.1] r15.2).bind fun r16 =>
 (bo P .leq 3 (.tmp 17) (.const (.int .i64 80)) r16.1 (.int .i64 80) r16.2).bind fun r17 =>
 (vl r17.1 r17.2).bind fun r18 =>
 some (r18.1, r18.2)) := (AA P (EV P) 30 19 (cA (cA (cB (cA (cB (Af P 30)))))) e w (Al 0 (Ay P (EV P) 30 19 (cB (cB (Af P 30))) (Bf P (AB P 30))))).trans (by kernel_rfl)
theorem L9 (x0 : Value) (w : World) : Br P (EV P) 30 #[x0] w =
 (vl (.bool false) w).bind fun r1 =>
 (vl (.int .i64 0) r1.2).bind fun r2 =>
 Dx (AK (AN #[x0]) [(2, r1.1), (3, r2.1)]) r2.2 := by kernel_rfl
end Go.Proofs.YtjhhommnkaemlaaGreat.X
