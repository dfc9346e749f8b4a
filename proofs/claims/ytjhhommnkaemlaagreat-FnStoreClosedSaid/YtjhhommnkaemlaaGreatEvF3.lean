/- A part of the proof, without conditions. -/
import Derived.Test.YtjhhommnkaemlaaGreatEvT
set_option linter.unusedVariables false
set_option linter.unusedSimpArgs false
set_option linter.deprecated false
set_option maxRecDepth 100000
namespace Go.Proofs.YtjhhommnkaemlaaGreat.X
open Go Go.Ev
noncomputable def BE (e : Env) (w : World) : Option (Value × World) := Bu P (EV P) 7 74 (.loop (cA (cA (cB (cA (cB (cB (cB (cB (cB (cB (Ai P 7)))))))))))) e w (Ao 0 (AD P (EV P) 7 74 (cB (cB (cB (cB (cB (cB (cB (Ai P 7)))))))) (Be P (AA P 7))))
theorem CL (e : Env) (w : World) : BE e w =
 (vl (e 8) w).bind fun r1 =>
 (bo P .lss 3 (.tmp 36) (.const (.int .i64 4)) r1.1 (.int .i64 4) r1.2).bind fun r2 =>
 AP r2.1 (
 (fa P 44 (e 5) 0 (dw r2.2)).bind fun r4 =>
 Aj (r4.2 = (dw r2.2)) <|
 (ld P 42 r4.1 (dw r2.2)).bind fun r5 =>
 Aj (r5.2 = (dw r2.2)) <|
 (vl (e 8) (dw r2.2)).bind fun r6 =>
 Aj (r6.2 = (dw r2.2)) <|
 (ia P 42 r5.1 r6.1 (dw r2.2)).bind fun r7 =>
 Aj (r7.2 = (dw r2.2)) <|
 (fa P 49 r7.1 1 (dw r2.2)).bind fun r8 =>
 Aj (r8.2 = (dw r2.2)) <|
 (fa P 36 r8.1 0 (dw r2.2)).bind fun r9 =>
 Aj (r9.2 = (dw r2.2)) <|
 (ld P 3 r9.1 (dw r2.2)).bind fun r10 =>
 Aj (r10.2 = (dw r2.2)) <|
 (bo P .gtr 3 (.tmp 46) (.const (.int .i64 0)) r10.1 (.int .i64 0) (dw r2.2)).bind fun r11 =>
 Aj (r11.2 = (dw r2.2)) <|
 (vl r11.1 (dw r2.2)).bind fun r12 =>
 Aj (r12.2 = (dw r2.2)) <|
 (An r12.1 true (fa P 44 (e 5) 0 (dw r2.2)) (dw r2.2)).bind fun r13 =>
 Aj (r13.2 = (dw r2.2)) <|
 (An r12.1 true (ld P 42 r13.1 (dw r2.2)) (dw r2.2)).bind fun r14 =>
 Aj (r14.2 = (dw r2.2)) <|
 (An r12.1 true (vl (e 8) (dw r2.2)) (dw r2.2)).bind fun r15 =>
 Aj (r15.2 = (dw r2.2)) <|
 (An r12.1 true (ia P 42 r14.1 r15.1 (dw r2.2)) (dw r2.2)).bind fun r16 =>
 Aj (r16.2 = (dw r2.2)) <|
 (An r12.1 true (fa P 49 r16.1 2 (dw r2.2)) (dw r2.2)).bind fun r17 =>
 Aj (r17.2 = (dw r2.2)) <|
 (An r12.1 true (ld P 32 r17.1 (dw r2.2)) (dw r2.2)).bind fun r18 =>
 Aj (r18.2 = (dw r2.2)) <|
 (An r12.1 true (ld P 32 (e 7) (dw r2.2)) (dw r2.2)).bind fun r19 =>
 Aj (r19.2 = (dw r2.2)) <|
 (An r12.1 true (EV P 19 #[r18.1, r19.1] (dw r2.2)) (dw r2.2)).bind fun r20 =>
 Aj (True ∧ True ∧ True ∧ True ∧ True ∧ True ∧ True ∧ True ∧ True ∧ True ∧ True ∧ True ∧ True ∧ True) <|
 (An r12.1 true (uo P .not r20.1 r20.2) r20.2).bind fun r21 =>
 Aj (r21.2 = r20.2) <|
 (Av r12.1 r21.1 (.bool false) r20.2).bind fun r22 =>
 Aj (r22.2 = r20.2) <|
 AP r22.1 (
 (vl (.bool false) r20.2).bind fun r23 =>
 some (r23.1, r23.2)) (
 (vl (e 8) r20.2).bind fun r24 =>
 (bo P .add 3 (.tmp 38) (.const (.int .i64 1)) r24.1 (.int .i64 1) r24.2).bind fun r25 =>
 (vl r25.1 r25.2).bind fun r26 =>
 BE (AJ e [(36, r1.1), (37, r2.1), (40, r4.1), (41, r5.1), (42, r6.1), (43, r7.1), (44, r8.1), (45, r9.1), (46, r10.1), (47, r11.1), (48, r12.1), (49, r13.1), (50, r14.1), (51, r15.1), (52, r16.1), (53, r17.1), (54, r18.1), (55, r19.1), (56, r20.1), (57, r21.1), (58, r22.1), (38, r24.1), (39, r25.1), (8, r26.1)]) r26.2)) (
 (vl (e 1) r2.2).bind fun r27 =>
 (EV P 20 #[r27.1] r27.2).bind fun r28 =>
 (al P 44 r28.2).bind fun r29 =>
 (st P 44 r29.1 r28.1 r29.2).bind fun r30 =>
 (EV P 24 #[] r30.2).bind fun r31 =>
 (EV P 21 #[r31.1] r31.2).bind fun r32 =>
 (vl r32.1 r32.2).bind fun r33 =>
 (An r33.1 true (ld P 44 r29.1 r33.2) r33.2).bind fun r34 =>
 (An r33.1 true (EV P 21 #[r34.1] r34.2) r34.2).bind fun r35 =>
 (An r33.1 true (uo P .not r35.1 r35.2) r35.2).bind fun r36 =>
 (An r33.1 true (vl r36.1 r36.2) r36.2).bind fun r37 =>
 (An r37.1 false (ld P 44 (e 5) r37.2) r37.2).bind fun r38 =>
 (An r37.1 false (ld P 44 r29.1 r38.2) r38.2).bind fun r39 =>
 (An r37.1 false (EV P 25 #[r38.1, r39.1] r39.2) r39.2).bind fun r40 =>
 (An r37.1 false (EV P 21 #[r40.1] r40.2) r40.2).bind fun r41 =>
 (An r33.1 true (Av r37.1 (.bool true) r41.1 r41.2) r41.2).bind fun r42 =>
 (Av r33.1 r42.1 (.bool false) r42.2).bind fun r43 =>
 (vl r43.1 r43.2).bind fun r44 =>
 some (r44.1, r44.2)) := (Ay P (EV P) 7 74 (cA (cA (cB (cA (cB (cB (cB (cB (cB (cB (Ai P 7))))))))))) e w (Ao 0 (AD P (EV P) 7 74 (cB (cB (cB (cB (cB (cB (cB (Ai P 7)))))))) (Be P (AA P 7))))).trans (by kernel_rfl)
theorem Gy (x0 x1 : Value) (w : World) : Bl P (EV P) 7 #[x0, x1] w =
 (vl (.bool false) w).bind fun r1 =>
 (vl x0 r1.2).bind fun r2 =>
 (Au P #[22] 3 #[r2.1] r2.2).bind fun r3 =>
 (bo P .gtr 3 (.tmp 11) (.const (.int .i64 1048576)) r3.1 (.int .i64 1048576) r3.2).bind fun r4 =>
 (vl r4.1 r4.2).bind fun r5 =>
 (An r5.1 false (vl x1 r5.2) r5.2).bind fun r6 =>
 (An r5.1 false (Au P #[22] 3 #[r6.1] r6.2) r6.2).bind fun r7 =>
 (An r5.1 false (bo P .gtr 3 (.tmp 15) (.const (.int .i64 1048576)) r7.1 (.int .i64 1048576) r7.2) r7.2).bind fun r8 =>
 (Av r5.1 (.bool true) r8.1 r8.2).bind fun r9 =>
 AP r9.1 (
 (vl (.bool true) r9.2).bind fun r10 =>
 some (r10.1, r10.2)) (
 (vl x0 r9.2).bind fun r11 =>
 (EV P 20 #[r11.1] r11.2).bind fun r12 =>
 (al P 44 r12.2).bind fun r13 =>
 (st P 44 r13.1 r12.1 r13.2).bind fun r14 =>
 (ld P 44 r13.1 r14.2).bind fun r15 =>
 (EV P 21 #[r15.1] r15.2).bind fun r16 =>
 (vl r16.1 r16.2).bind fun r17 =>
 (vl r17.1 r17.2).bind fun r18 =>
 (ld P 44 r13.1 r18.2).bind fun r19 =>
 (EV P 22 #[r19.1] r19.2).bind fun r20 =>
 (bo P .neq 4 (.tmp 22) (.tmp 24) r18.1 r20.1 r20.2).bind fun r21 =>
 (vl r21.1 r21.2).bind fun r22 =>
 (An r22.1 false (vl r17.1 r22.2) r22.2).bind fun r23 =>
 (An r22.1 false (uo P .not r23.1 r23.2) r23.2).bind fun r24 =>
 (Av r22.1 (.bool true) r24.1 r24.2).bind fun r25 =>
 AP r25.1 (
 (vl r17.1 r25.2).bind fun r26 =>
 (ld P 44 r13.1 r26.2).bind fun r27 =>
 (EV P 22 #[r27.1] r27.2).bind fun r28 =>
 (bo P .eql 4 (.tmp 30) (.tmp 32) r26.1 r28.1 r28.2).bind fun r29 =>
 (vl r29.1 r29.2).bind fun r30 =>
 some (r30.1, r30.2)) (
 (ld P 44 r13.1 r25.2).bind fun r31 =>
 (EV P 23 #[r31.1] r31.2).bind fun r32 =>
 (al P 32 r32.2).bind fun r33 =>
 (st P 32 r33.1 r32.1 r33.2).bind fun r34 =>
 (vl (.int .i64 0) r34.2).bind fun r35 =>
 BE (AJ (AL #[x0, x1]) [(4, r1.1), (10, r2.1), (11, r3.1), (12, r4.1), (13, r5.1), (14, r6.1), (15, r7.1), (16, r8.1), (17, r9.1), (18, r11.1), (19, r12.1), (5, r13.1), (20, r15.1), (21, r16.1), (6, r17.1), (22, r18.1), (23, r19.1), (24, r20.1), (25, r21.1), (26, r22.1), (27, r23.1), (28, r24.1), (29, r25.1), (34, r31.1), (35, r32.1), (7, r33.1), (8, r35.1)]) r35.2)) := by kernel_rfl
theorem Jx (w : World) : Bl P (EV P) 17 #[] w =
 (al P 32 w).bind fun r1 =>
 (ms P 30 (.int .i64 4) (.int .i64 4) r1.2).bind fun r2 =>
 (bd P 32 #[(0, r2.1)] r2.2).bind fun r3 =>
 (st P 32 r1.1 r3.1 r3.2).bind fun r4 =>
 ((ld P 32 r1.1 r4.2).bind fun r5 => Aj (r5.2 = r4.2) (some r5.1)).bind fun v6 =>
 some (v6, r4.2) := by kernel_rfl
theorem Kk (x0 x1 : Value) (w : World) : Bl P (EV P) 18 #[x0, x1] w =
 (bx P 36 x0 w).bind fun r1 =>
 (bx P 36 x1 r1.2).bind fun r2 =>
 (vl (.bool false) r2.2).bind fun r3 =>
 (ld P 36 r1.1 r3.2).bind fun r4 =>
 (ld P 36 r2.1 r4.2).bind fun r5 =>
 (EV P 39 #[r4.1, r5.1] r5.2).bind fun r6 =>
 (bo P .lss 3 (.tmp 7) (.const (.int .i64 0)) r6.1 (.int .i64 0) r6.2).bind fun r7 =>
 (vl r7.1 r7.2).bind fun r8 =>
 some (r8.1, r8.2) := by kernel_rfl
theorem H2 (x0 x1 : Value) (w : World) : Bl P (EV P) 19 #[x0, x1] w =
 (bx P 32 x0 w).bind fun r1 =>
 (bx P 32 x1 r1.2).bind fun r2 =>
 (vl (.bool false) r2.2).bind fun r3 =>
 (ld P 32 r1.1 r3.2).bind fun r4 =>
 (EV P 40 #[r4.1] r4.2).bind fun r5 =>
 (vl r5.1 r5.2).bind fun r6 =>
 (An r6.1 true (ld P 32 r2.1 r6.2) r6.2).bind fun r7 =>
 (An r6.1 true (EV P 40 #[r7.1] r7.2) r7.2).bind fun r8 =>
 (Av r6.1 r8.1 (.bool false) r8.2).bind fun r9 =>
 (vl r9.1 r9.2).bind fun r10 =>
 (An r10.1 true (ld P 32 r1.1 r10.2) r10.2).bind fun r11 =>
 (An r10.1 true (ld P 32 r2.1 r11.2) r11.2).bind fun r12 =>
 (An r10.1 true (EV P 41 #[r11.1, r12.1] r12.2) r12.2).bind fun r13 =>
 (Av r10.1 r13.1 (.bool false) r13.2).bind fun r14 =>
 (vl r14.1 r14.2).bind fun r15 =>
 some (r15.1, r15.2) := by kernel_rfl
noncomputable def C5 (e : Env) (w : World) : Option (Value × World) := Bu P (EV P) 20 32 (cA (cB (cA (cB (cA (cB (cB (Ai P 20)))))))) e w (AD P (EV P) 20 32 (cB (cB (cA (cB (cA (cB (cB (Ai P 20)))))))) (AD P (EV P) 20 32 (cB (cB (cB (Ai P 20)))) (Be P (AA P 20))))
noncomputable def Bp (e : Env) (w : World) : Option (Value × World) := Bu P (EV P) 20 32 (cB (cB (cA (cB (cA (cB (cB (Ai P 20)))))))) e w (AD P (EV P) 20 32 (cB (cB (cB (Ai P 20)))) (Be P (AA P 20)))
theorem Ew (e : Env) (w : World) {Q : Value × World → Prop} (h :
 (Ag (fa P 77 (e 4) 0 (dw w)) fun r1 => r1.2 = (dw w) ∧
 (Ag (ld P 73 r1.1 (dw w)) fun r2 => r2.2 = (dw w) ∧
 (Ag (vl (e 3) (dw w)) fun r3 => r3.2 = (dw w) ∧
 ((Ag (EV P 42 #[r3.1, (.int .i64 3)] (dw w)) fun r4 => (ld P 73 r1.1 r4.2 = some (r2.1, r4.2) ∧ fa P 77 (e 4) 0 r4.2 = some (r1.1, r4.2) ∧ True) ∧
 (Ag (ia P 73 r2.1 r4.1 r4.2) fun r5 => r5.2 = r4.2 ∧
 (Ag (ld P 84 r5.1 r4.2) fun r6 => r6.2 = r4.2 ∧
 ((Ag (al P 84 r4.2) fun r7 => (ld P 84 r5.1 r7.2 = some (r6.1, r7.2) ∧ ia P 73 r2.1 r4.1 r7.2 = some (r5.1, r7.2) ∧ ld P 73 r1.1 r7.2 = some (r2.1, r7.2) ∧ fa P 77 (e 4) 0 r7.2 = some (r1.1, r7.2) ∧ True) ∧
 ((Ag (st P 84 r7.1 r6.1 r7.2) fun r8 => (True ∧ True ∧ True ∧ True ∧ True) ∧
 Ag (Bp (AJ e [(13, r1.1), (14, r2.1), (15, r3.1), (16, r4.1), (17, r5.1), (18, r6.1), (5, r7.1)]) r8.2) Q))))))) ∧
 (Ag (al P 84 (dw w)) fun r9 => (ld P 73 r1.1 r9.2 = some (r2.1, r9.2) ∧ fa P 77 (e 4) 0 r9.2 = some (r1.1, r9.2) ∧ True) ∧
 ((Ag (EV P 42 #[r3.1, (.int .i64 3)] r9.2) fun r10 => (ld P 73 r1.1 r10.2 = some (r2.1, r10.2) ∧ fa P 77 (e 4) 0 r10.2 = some (r1.1, r10.2) ∧ True) ∧
 (Ag (ia P 73 r2.1 r10.1 r10.2) fun r11 => r11.2 = r10.2 ∧
 (Ag (ld P 84 r11.1 r10.2) fun r12 => r12.2 = r10.2 ∧
 ((Ag (st P 84 r9.1 r12.1 r10.2) fun r13 => (True ∧ True ∧ True ∧ True ∧ True) ∧
 Ag (Bp (AJ e [(13, r1.1), (14, r2.1), (15, r3.1), (5, r9.1), (16, r10.1), (17, r11.1), (18, r12.1)]) r13.2) Q)))))))))))) : Ag (C5 e w) Q := Gf (id := 4) (ops := opsOf (cA (cB (cA (cB (cA (cB (cB (Ai P 20))))))))) (by kernel_rfl) (by kernel_rfl) (Eq.mpr (by kernel_rfl) h)
theorem ED (e : Env) (w : World) : Bp e w =
 (fa P 84 (e 5) 2 w).bind fun r1 =>
 (fa P 81 r1.1 0 r1.2).bind fun r2 =>
 (ld P 79 r2.1 r2.2).bind fun r3 =>
 (fa P 84 (e 5) 2 r3.2).bind fun r4 =>
 (fa P 81 r4.1 0 r4.2).bind fun r5 =>
 (ld P 79 r5.1 r5.2).bind fun r6 =>
 (Au P #[79] 3 #[r6.1] r6.2).bind fun r7 =>
 (bo P .sub 3 (.tmp 25) (.const (.int .i64 1)) r7.1 (.int .i64 1) r7.2).bind fun r8 =>
 (ia P 79 r3.1 r8.1 r8.2).bind fun r9 =>
 (fa P 86 r9.1 0 r9.2).bind fun r10 =>
 (ld P 44 r10.1 r10.2).bind fun r11 =>
 (st P 44 (e 2) r11.1 r11.2).bind fun r12 =>
 ((ld P 44 (e 2) r12.2).bind fun r13 => Aj (r13.2 = r12.2) (some r13.1)).bind fun v14 =>
 some (v14, r12.2) := by kernel_rfl
theorem FQ (x0 : Value) (w : World) : Bl P (EV P) 20 #[x0] w =
 (al P 44 w).bind fun r1 =>
 (vl x0 r1.2).bind fun r2 =>
 (EV P 27 #[r2.1] r2.2).bind fun r3 =>
 (vl r3.1 r3.2).bind fun r4 =>
 (vl r4.1 r4.2).bind fun r5 =>
 (EV P 42 #[r5.1, (.int .i64 2)] r5.2).bind fun r6 =>
 (bo P .eql 3 (.tmp 9) (.const (.int .i64 0)) r6.1 (.int .i64 0) r6.2).bind fun r7 =>
 AP r7.1 (
 (vl r4.1 r7.2).bind fun r8 =>
 (EV P 43 #[r8.1] r8.2).bind fun r9 =>
 (al P 77 r9.2).bind fun r10 =>
 (st P 77 r10.1 r9.1 r10.2).bind fun r11 =>
 C5 (AJ (AL #[x0]) [(2, r1.1), (6, r2.1), (7, r3.1), (3, r4.1), (8, r5.1), (9, r6.1), (10, r7.1), (11, r8.1), (12, r9.1), (4, r10.1)]) r11.2) (
 (vl r4.1 r7.2).bind fun r12 =>
 (EV P 44 #[r12.1] r12.2).bind fun r13 =>
 (st P 44 r1.1 r13.1 r13.2).bind fun r14 =>
 ((ld P 44 r1.1 r14.2).bind fun r15 => Aj (r15.2 = r14.2) (some r15.1)).bind fun v16 =>
 some (v16, r14.2)) := by kernel_rfl
theorem Hr (x0 : Value) (w : World) : Bl P (EV P) 21 #[x0] w =
 (bx P 44 x0 w).bind fun r1 =>
 (vl (.bool false) r1.2).bind fun r2 =>
 (ld P 44 r1.1 r2.2).bind fun r3 =>
 (EV P 45 #[r3.1] r3.2).bind fun r4 =>
 (vl r4.1 r4.2).bind fun r5 =>
 (An r5.1 true (fa P 44 r1.1 0 r5.2) r5.2).bind fun r6 =>
 (An r5.1 true (ld P 42 r6.1 r6.2) r6.2).bind fun r7 =>
 (An r5.1 true (vl (.func (Go.Fn.func 47) #[] #[r1.1]) r7.2) r7.2).bind fun r8 =>
 (An r5.1 true (EV P 46 #[r7.1, r8.1] r8.2) r8.2).bind fun r9 =>
 (An r5.1 true (uo P .not r9.1 r9.2) r9.2).bind fun r10 =>
 (Av r5.1 r10.1 (.bool false) r10.2).bind fun r11 =>
 (vl r11.1 r11.2).bind fun r12 =>
 some (r12.1, r12.2) := by kernel_rfl
theorem Hs (x0 : Value) (w : World) : Bl P (EV P) 22 #[x0] w =
 (bx P 44 x0 w).bind fun r1 =>
 (vl (.bool false) r1.2).bind fun r2 =>
 (ld P 44 r1.1 r2.2).bind fun r3 =>
 (EV P 49 #[r3.1] r3.2).bind fun r4 =>
 (vl r4.1 r4.2).bind fun r5 =>
 (An r5.1 true (ld P 44 r1.1 r5.2) r5.2).bind fun r6 =>
 (An r5.1 true (EV P 50 #[r6.1] r6.2) r6.2).bind fun r7 =>
 (Av r5.1 r7.1 (.bool false) r7.2).bind fun r8 =>
 (vl r8.1 r8.2).bind fun r9 =>
 some (r9.1, r9.2) := by kernel_rfl
theorem IL (x0 : Value) (w : World) : Bl P (EV P) 23 #[x0] w =
 (bx P 44 x0 w).bind fun r1 =>
 (al P 32 r1.2).bind fun r2 =>
 (ld P 44 r1.1 r2.2).bind fun r3 =>
 (EV P 45 #[r3.1] r3.2).bind fun r4 =>
 (uo P .not r4.1 r4.2).bind fun r5 =>
 AP r5.1 (
 (bd P 32 #[] r5.2).bind fun r6 =>
 (st P 32 r2.1 r6.1 r6.2).bind fun r7 =>
 ((ld P 32 r2.1 r7.2).bind fun r8 => Aj (r8.2 = r7.2) (some r8.1)).bind fun v9 =>
 some (v9, r7.2)) (
 (ld P 44 r1.1 r5.2).bind fun r10 =>
 (EV P 48 #[r10.1] r10.2).bind fun r11 =>
 (st P 32 r2.1 r11.1 r11.2).bind fun r12 =>
 ((ld P 32 r2.1 r12.2).bind fun r13 => Aj (r13.2 = r12.2) (some r13.1)).bind fun v14 =>
 some (v14, r12.2)) := by kernel_rfl
theorem Jy (w : World) : Bl P (EV P) 24 #[] w =
 (al P 44 w).bind fun r1 =>
 (ms P 42 (.int .i64 4) (.int .i64 4) r1.2).bind fun r2 =>
 (bd P 44 #[(0, r2.1)] r2.2).bind fun r3 =>
 (st P 44 r1.1 r3.1 r3.2).bind fun r4 =>
 ((ld P 44 r1.1 r4.2).bind fun r5 => Aj (r5.2 = r4.2) (some r5.1)).bind fun v6 =>
 some (v6, r4.2) := by kernel_rfl
noncomputable def Ce (e : Env) (w : World) : Option (Value × World) := Bu P (EV P) 25 44 (.loop (cA (cA (cB (cA (cB (cB (cB (Ai P 25))))))))) e w (Ao 0 (AD P (EV P) 25 44 (cB (cB (cB (cB (Ai P 25))))) (Be P (AA P 25))))
noncomputable def Dl (e : Env) (w : World) : Option (Value × World) := Bu P (EV P) 25 44 (cB (cB (cB (cA (cA (cB (cA (cB (cB (cB (Ai P 25))))))))))) e w (F6 P (EV P) 25 44 (cA (cA (cB (cA (cB (cB (cB (Ai P 25)))))))) (Ao 0 (AD P (EV P) 25 44 (cB (cB (cB (cB (Ai P 25))))) (Be P (AA P 25)))))
theorem DZ (e : Env) (w : World) : Ce e w =
 (bo P .lss 3 (.tmp 22) (.tmp 21) (e 22) (e 21) w).bind fun r1 =>
 AP r1.1 (
 (vl (e 22) r1.2).bind fun r2 =>
 (ia P 42 (e 20) (e 22) r2.2).bind fun r3 =>
 (ld P 49 r3.1 r3.2).bind fun r4 =>
 (al P 49 r4.2).bind fun r5 =>
 (vl r2.1 r5.2).bind fun r6 =>
 (st P 49 r5.1 r4.1 r6.2).bind fun r7 =>
 (fa P 44 (e 5) 0 (dw r7.2)).bind fun r9 =>
 Aj (r9.2 = (dw r7.2)) <|
 (ld P 42 r9.1 (dw r7.2)).bind fun r10 =>
 Aj (r10.2 = (dw r7.2)) <|
 (vl r6.1 (dw r7.2)).bind fun r11 =>
 Aj (r11.2 = (dw r7.2)) <|
 (ia P 42 r10.1 r11.1 (dw r7.2)).bind fun r12 =>
 Aj (r12.2 = (dw r7.2)) <|
 (fa P 49 r12.1 1 (dw r7.2)).bind fun r13 =>
 Aj (r13.2 = (dw r7.2)) <|
 (ld P 36 r13.1 (dw r7.2)).bind fun r14 =>
 Aj (r14.2 = (dw r7.2)) <|
 (fa P 49 r5.1 1 (dw r7.2)).bind fun r15 =>
 Aj (r15.2 = (dw r7.2)) <|
 (ld P 36 r15.1 (dw r7.2)).bind fun r16 =>
 Aj (r16.2 = (dw r7.2)) <|
 (EV P 18 #[r14.1, r16.1] (dw r7.2)).bind fun r17 =>
 Aj (True ∧ True ∧ True ∧ True ∧ True ∧ True ∧ True ∧ True) <|
 AP r17.1 (
 (fa P 44 (e 5) 0 (dw r17.2)).bind fun r19 =>
 Aj (r19.2 = (dw r17.2)) <|
 (ld P 42 r19.1 (dw r17.2)).bind fun r20 =>
 Aj (r20.2 = (dw r17.2)) <|
 (vl r6.1 (dw r17.2)).bind fun r21 =>
 Aj (r21.2 = (dw r17.2)) <|
 (ld P 49 r5.1 (dw r17.2)).bind fun r22 =>
 Aj (r22.2 = (dw r17.2)) <|
 (EV P 52 #[r22.1] (dw r17.2)).bind fun r23 =>
 Aj (True ∧ ld P 42 r19.1 r23.2 = some (r20.1, r23.2) ∧ fa P 44 (e 5) 0 r23.2 = some (r19.1, r23.2) ∧ True) <|
 (ia P 42 r20.1 r21.1 r23.2).bind fun r24 =>
 Aj (r24.2 = r23.2) <|
 (st P 49 r24.1 r23.1 r23.2).bind fun r25 =>
 Aj (True ∧ True ∧ True ∧ True ∧ True) <|
 Dl (AJ e [(23, r1.1), (24, r2.1), (25, r3.1), (26, r4.1), (7, r5.1), (6, r6.1), (27, r9.1), (28, r10.1), (29, r11.1), (30, r12.1), (31, r13.1), (32, r14.1), (33, r15.1), (34, r16.1), (35, r17.1), (36, r19.1), (37, r20.1), (38, r21.1), (39, r22.1), (40, r23.1), (41, r24.1)]) r25.2) (
 Dl (AJ e [(23, r1.1), (24, r2.1), (25, r3.1), (26, r4.1), (7, r5.1), (6, r6.1), (27, r9.1), (28, r10.1), (29, r11.1), (30, r12.1), (31, r13.1), (32, r14.1), (33, r15.1), (34, r16.1), (35, r17.1)]) r17.2)) (
 (ld P 44 (e 5) r1.2).bind fun r26 =>
 (st P 44 (e 4) r26.1 r26.2).bind fun r27 =>
 ((ld P 44 (e 4) r27.2).bind fun r28 => Aj (r28.2 = r27.2) (some r28.1)).bind fun v29 =>
 some (v29, r27.2)) := (Ay P (EV P) 25 44 (cA (cA (cB (cA (cB (cB (cB (Ai P 25)))))))) e w (Ao 0 (AD P (EV P) 25 44 (cB (cB (cB (cB (Ai P 25))))) (Be P (AA P 25))))).trans (by kernel_rfl)
theorem D8 (e : Env) (w : World) : Dl e w =
 (bo P .add 3 (.tmp 22) (.const (.int .i64 1)) (e 22) (.int .i64 1) w).bind fun r1 =>
 (vl r1.1 r1.2).bind fun r2 =>
 Ce (AJ e [(42, r1.1), (22, r2.1)]) r2.2 := by kernel_rfl
theorem IM (x0 x1 : Value) (w : World) : Bl P (EV P) 25 #[x0, x1] w =
 (bx P 44 x0 w).bind fun r1 =>
 (bx P 44 x1 r1.2).bind fun r2 =>
 (al P 44 r2.2).bind fun r3 =>
 (ld P 44 r1.1 r3.2).bind fun r4 =>
 (EV P 45 #[r4.1] r4.2).bind fun r5 =>
 (uo P .not r5.1 r5.2).bind fun r6 =>
 (vl r6.1 r6.2).bind fun r7 =>
 (An r7.1 false (ld P 44 r2.1 r7.2) r7.2).bind fun r8 =>
 (An r7.1 false (EV P 45 #[r8.1] r8.2) r8.2).bind fun r9 =>
 (An r7.1 false (uo P .not r9.1 r9.2) r9.2).bind fun r10 =>
 (Av r7.1 (.bool true) r10.1 r10.2).bind fun r11 =>
 AP r11.1 (
 (bd P 44 #[] r11.2).bind fun r12 =>
 (st P 44 r3.1 r12.1 r12.2).bind fun r13 =>
 ((ld P 44 r3.1 r13.2).bind fun r14 => Aj (r14.2 = r13.2) (some r14.1)).bind fun v15 =>
 some (v15, r13.2)) (
 (ld P 44 r1.1 r11.2).bind fun r16 =>
 (EV P 51 #[r16.1] r16.2).bind fun r17 =>
 (al P 44 r17.2).bind fun r18 =>
 (st P 44 r18.1 r17.1 r18.2).bind fun r19 =>
 (fa P 44 r2.1 0 r19.2).bind fun r20 =>
 (ld P 42 r20.1 r20.2).bind fun r21 =>
 (Au P #[42] 3 #[r21.1] r21.2).bind fun r22 =>
 (vl (.int .i64 0) r22.2).bind fun r23 =>
 Ce (AJ (AL #[x0, x1]) [(2, r1.1), (3, r2.1), (4, r3.1), (8, r4.1), (9, r5.1), (10, r6.1), (11, r7.1), (12, r8.1), (13, r9.1), (14, r10.1), (15, r11.1), (17, r16.1), (18, r17.1), (5, r18.1), (19, r20.1), (20, r21.1), (21, r22.1), (22, r23.1)]) r23.2) := by kernel_rfl
noncomputable def CT (e : Env) (w : World) : Option (Value × World) := Bu P (EV P) 27 11 (cB (cB (Ai P 27))) e w (Be P (AA P 27))
theorem H4 (e : Env) (w : World) : CT e w =
 (vl (e 0) w).bind fun r1 =>
 (bd P 93 #[(0, r1.1)] r1.2).bind fun r2 =>
 (bx P 93 r2.1 r2.2).bind fun r3 =>
 (vl r3.1 r3.2).bind fun r4 =>
 some (r4.1, r4.2) := by kernel_rfl
theorem Kl (x0 : Value) (w : World) : Bl P (EV P) 27 #[x0] w =
 (vl (Go.Value.pointer none) w).bind fun r1 =>
 (vl x0 r1.2).bind fun r2 =>
 (Au P #[22] 3 #[r2.1] r2.2).bind fun r3 =>
 (bo P .gtr 3 (.tmp 4) (.const (.int .i64 2000)) r3.1 (.int .i64 2000) r3.2).bind fun r4 =>
 AP r4.1 (
 (vl x0 r4.2).bind fun r5 =>
 (sl P 22 r5.1 none (some (.int .i64 2000)) none r5.2).bind fun r6 =>
 (vl r6.1 r6.2).bind fun r7 =>
 CT (AJ (AL #[x0]) [(2, r1.1), (3, r2.1), (4, r3.1), (5, r4.1), (6, r5.1), (7, r6.1), (0, r7.1)]) r7.2) (
 CT (AJ (AL #[x0]) [(2, r1.1), (3, r2.1), (4, r3.1), (5, r4.1)]) r4.2) := by kernel_rfl
theorem IP (x0 x1 : Value) (w : World) : Bl P (EV P) 34 #[x0, x1] w =
 (vl (.int .i64 0) w).bind fun r1 =>
 (vl x1 r1.2).bind fun r2 =>
 (vl x0 r2.2).bind fun r3 =>
 (vl x1 r3.2).bind fun r4 =>
 (Au P #[64] 3 #[r4.1] r4.2).bind fun r5 =>
 (EV P 42 #[r3.1, r5.1] r5.2).bind fun r6 =>
 (ia P 64 r2.1 r6.1 r6.2).bind fun r7 =>
 (ld P 3 r7.1 r7.2).bind fun r8 =>
 (vl r8.1 r8.2).bind fun r9 =>
 some (r9.1, r9.2) := by kernel_rfl
theorem KW (x0 x1 x2 : Value) (w : World) : Bl P (EV P) 35 #[x0, x1, x2] w =
 (vl (.bool false) w).bind fun r1 =>
 (vl x0 r1.2).bind fun r2 =>
 (vl x1 r2.2).bind fun r3 =>
 (bo P .geq 3 (.tmp 7) (.tmp 8) r2.1 r3.1 r3.2).bind fun r4 =>
 (vl r4.1 r4.2).bind fun r5 =>
 (An r5.1 true (vl x0 r5.2) r5.2).bind fun r6 =>
 (An r5.1 true (vl x2 r6.2) r6.2).bind fun r7 =>
 (An r5.1 true (bo P .leq 3 (.tmp 11) (.tmp 12) r6.1 r7.1 r7.2) r7.2).bind fun r8 =>
 (Av r5.1 r8.1 (.bool false) r8.2).bind fun r9 =>
 (vl r9.1 r9.2).bind fun r10 =>
 some (r10.1, r10.2) := by kernel_rfl
theorem Ht (x0 : Value) (w : World) : Bl P (EV P) 36 #[x0] w =
 (bx P 32 x0 w).bind fun r1 =>
 (al P 32 r1.2).bind fun r2 =>
 (fa P 32 r1.1 0 r2.2).bind fun r3 =>
 (ld P 30 r3.1 r3.2).bind fun r4 =>
 (EV P 69 #[r4.1] r4.2).bind fun r5 =>
 (EV P 68 #[r5.1] r5.2).bind fun r6 =>
 (bd P 32 #[(0, r6.1)] r6.2).bind fun r7 =>
 (st P 32 r2.1 r7.1 r7.2).bind fun r8 =>
 ((ld P 32 r2.1 r8.2).bind fun r9 => Aj (r9.2 = r8.2) (some r9.1)).bind fun v10 =>
 some (v10, r8.2) := by kernel_rfl
theorem Nr (x0 x1 x2 : Value) (w : World) : Bl P (EV P) 37 #[x0, x1, x2] w =
 (vl (.bool false) w).bind fun r1 =>
 (vl x0 r1.2).bind fun r2 =>
 (vl x1 r2.2).bind fun r3 =>
 (bo P .geq 3 (.tmp 7) (.tmp 8) r2.1 r3.1 r3.2).bind fun r4 =>
 (vl r4.1 r4.2).bind fun r5 =>
 (An r5.1 true (vl x0 r5.2) r5.2).bind fun r6 =>
 (An r5.1 true (vl x2 r6.2) r6.2).bind fun r7 =>
 (An r5.1 true (bo P .leq 3 (.tmp 11) (.tmp 12) r6.1 r7.1 r7.2) r7.2).bind fun r8 =>
 (Av r5.1 r8.1 (.bool false) r8.2).bind fun r9 =>
 (vl r9.1 r9.2).bind fun r10 =>
 some (r10.1, r10.2) := by kernel_rfl
theorem KX (w : World) : Bl P (EV P) 38 #[] w =
 (al P 32 w).bind fun r1 =>
 (ms P 30 (.int .i64 4) (.int .i64 4) r1.2).bind fun r2 =>
 (bd P 32 #[(0, r2.1)] r2.2).bind fun r3 =>
 (st P 32 r1.1 r3.1 r3.2).bind fun r4 =>
 ((ld P 32 r1.1 r4.2).bind fun r5 => Aj (r5.2 = r4.2) (some r5.1)).bind fun v6 =>
 some (v6, r4.2) := by kernel_rfl
theorem Hu (x0 x1 : Value) (w : World) : Bl P (EV P) 39 #[x0, x1] w =
 (bx P 36 x0 w).bind fun r1 =>
 (bx P 36 x1 r1.2).bind fun r2 =>
 (vl (.int .i64 0) r2.2).bind fun r3 =>
 (fa P 36 r1.1 0 (dw r3.2)).bind fun r5 =>
 Aj (r5.2 = (dw r3.2)) <|
 (ld P 3 r5.1 (dw r3.2)).bind fun r6 =>
 Aj (r6.2 = (dw r3.2)) <|
 (fa P 36 r2.1 0 (dw r3.2)).bind fun r7 =>
 Aj (r7.2 = (dw r3.2)) <|
 (ld P 3 r7.1 (dw r3.2)).bind fun r8 =>
 Aj (r8.2 = (dw r3.2)) <|
 (fa P 36 r1.1 1 (dw r3.2)).bind fun r9 =>
 Aj (r9.2 = (dw r3.2)) <|
 (ld P 3 r9.1 (dw r3.2)).bind fun r10 =>
 Aj (r10.2 = (dw r3.2)) <|
 (fa P 36 r2.1 1 (dw r3.2)).bind fun r11 =>
 Aj (r11.2 = (dw r3.2)) <|
 (ld P 3 r11.1 (dw r3.2)).bind fun r12 =>
 Aj (r12.2 = (dw r3.2)) <|
 (EV P 71 #[r6.1, r8.1] (dw r3.2)).bind fun r13 =>
 Aj (ld P 3 r11.1 r13.2 = some (r12.1, r13.2) ∧ fa P 36 r2.1 1 r13.2 = some (r11.1, r13.2) ∧ ld P 3 r9.1 r13.2 = some (r10.1, r13.2) ∧ fa P 36 r1.1 1 r13.2 = some (r9.1, r13.2) ∧ True ∧ True ∧ True ∧ True ∧ True) <|
 (EV P 71 #[r10.1, r12.1] r13.2).bind fun r14 =>
 Aj (True ∧ True ∧ True ∧ True ∧ True ∧ True ∧ True ∧ True ∧ True) <|
 (bs P 64 2 #[(0, r13.1), (1, r14.1)] r14.2).bind fun r15 =>
 Aj (True ∧ True ∧ True ∧ True ∧ True ∧ True ∧ True ∧ True ∧ True) <|
 (EV P 70 #[r15.1] r15.2).bind fun r16 =>
 Aj (True ∧ True ∧ True ∧ True ∧ True ∧ True ∧ True ∧ True ∧ True) <|
 (vl r16.1 r16.2).bind fun r17 =>
 Aj (r17.2 = r16.2) <|
 some (r17.1, r16.2) := by kernel_rfl
theorem KY (x0 : Value) (w : World) : Bl P (EV P) 40 #[x0] w =
 (bx P 32 x0 w).bind fun r1 =>
 (vl (.bool false) r1.2).bind fun r2 =>
 (fa P 32 r1.1 0 r2.2).bind fun r3 =>
 (ld P 30 r3.1 r3.2).bind fun r4 =>
 (Au P #[30] 3 #[r4.1] r4.2).bind fun r5 =>
 (bo P .eql 3 (.tmp 5) (.const (.int .i64 4)) r5.1 (.int .i64 4) r5.2).bind fun r6 =>
 (vl r6.1 r6.2).bind fun r7 =>
 (An r7.1 true (fa P 32 r1.1 0 r7.2) r7.2).bind fun r8 =>
 (An r7.1 true (ld P 30 r8.1 r8.2) r8.2).bind fun r9 =>
 (An r7.1 true (EV P 72 #[r9.1, (.func (.func 73) #[] #[])] r9.2) r9.2).bind fun r10 =>
 (An r7.1 true (uo P .not r10.1 r10.2) r10.2).bind fun r11 =>
 (Av r7.1 r11.1 (.bool false) r11.2).bind fun r12 =>
 (vl r12.1 r12.2).bind fun r13 =>
 some (r13.1, r13.2) := by kernel_rfl
noncomputable def BU (e : Env) (w : World) : Option (Value × World) := Bu P (EV P) 41 23 (.loop (cA (cA (cB (cA (cB (Ai P 41))))))) e w (Ao 0 (AD P (EV P) 41 23 (cB (cB (Ai P 41))) (Be P (AA P 41))))
theorem DJ (e : Env) (w : World) : BU e w =
 (bo P .lss 3 (.tmp 10) (.tmp 9) (e 10) (e 9) w).bind fun r1 =>
 AP r1.1 (
 (vl (e 10) r1.2).bind fun r2 =>
 (ia P 30 (e 8) (e 10) r2.2).bind fun r3 =>
 (ld P 36 r3.1 r3.2).bind fun r4 =>
 (al P 36 r4.2).bind fun r5 =>
 (vl r2.1 r5.2).bind fun r6 =>
 (st P 36 r5.1 r4.1 r6.2).bind fun r7 =>
 (fa P 32 (e 3) 0 (dw r7.2)).bind fun r9 =>
 Aj (r9.2 = (dw r7.2)) <|
 (ld P 30 r9.1 (dw r7.2)).bind fun r10 =>
 Aj (r10.2 = (dw r7.2)) <|
 (vl r6.1 (dw r7.2)).bind fun r11 =>
 Aj (r11.2 = (dw r7.2)) <|
 (ia P 30 r10.1 r11.1 (dw r7.2)).bind fun r12 =>
 Aj (r12.2 = (dw r7.2)) <|
 (ld P 36 r12.1 (dw r7.2)).bind fun r13 =>
 Aj (r13.2 = (dw r7.2)) <|
 (ld P 36 r5.1 (dw r7.2)).bind fun r14 =>
 Aj (r14.2 = (dw r7.2)) <|
 (EV P 18 #[r13.1, r14.1] (dw r7.2)).bind fun r15 =>
 Aj (True ∧ True ∧ True ∧ True ∧ True ∧ True) <|
 AP r15.1 (
 (vl (.bool false) r15.2).bind fun r16 =>
 some (r16.1, r16.2)) (
 (bo P .add 3 (.tmp 10) (.const (.int .i64 1)) (e 10) (.int .i64 1) r15.2).bind fun r17 =>
 (vl r17.1 r17.2).bind fun r18 =>
 BU (AJ e [(11, r1.1), (12, r2.1), (13, r3.1), (14, r4.1), (6, r5.1), (5, r6.1), (15, r9.1), (16, r10.1), (17, r11.1), (18, r12.1), (19, r13.1), (20, r14.1), (21, r15.1), (22, r17.1), (10, r18.1)]) r18.2)) (
 (vl (.bool true) r1.2).bind fun r19 =>
 some (r19.1, r19.2)) := (Ay P (EV P) 41 23 (cA (cA (cB (cA (cB (Ai P 41)))))) e w (Ao 0 (AD P (EV P) 41 23 (cB (cB (Ai P 41))) (Be P (AA P 41))))).trans (by kernel_rfl)
theorem H5 (x0 x1 : Value) (w : World) : Bl P (EV P) 41 #[x0, x1] w =
 (bx P 32 x0 w).bind fun r1 =>
 (bx P 32 x1 r1.2).bind fun r2 =>
 (vl (.bool false) r2.2).bind fun r3 =>
 (fa P 32 r1.1 0 r3.2).bind fun r4 =>
 (ld P 30 r4.1 r4.2).bind fun r5 =>
 (Au P #[30] 3 #[r5.1] r5.2).bind fun r6 =>
 (vl (.int .i64 0) r6.2).bind fun r7 =>
 BU (AJ (AL #[x0, x1]) [(2, r1.1), (3, r2.1), (4, r3.1), (7, r4.1), (8, r5.1), (9, r6.1), (10, r7.1)]) r7.2 := by kernel_rfl
theorem H6 (x0 x1 : Value) (w : World) : Bl P (EV P) 42 #[x0, x1] w =
 (vl (.int .i64 0) w).bind fun r1 =>
 (vl x0 r1.2).bind fun r2 =>
 (vl x0 r2.2).bind fun r3 =>
 (nk P r3.1 r3.2).bind fun r4 =>
 (fa P 93 r4.1 1 r4.2).bind fun r5 =>
 (ld P 3 r5.1 r5.2).bind fun r6 =>
 (bo P .add 3 (.tmp 11) (.const (.int .i64 1)) r6.1 (.int .i64 1) r6.2).bind fun r7 =>
 (nk P r2.1 r7.2).bind fun r8 =>
 (fa P 93 r8.1 1 r8.2).bind fun r9 =>
 (st P 3 r9.1 r7.1 r9.2).bind fun r10 =>
 (vl x1 r10.2).bind fun r11 =>
 (bo P .lss 3 (.tmp 15) (.const (.int .i64 1)) r11.1 (.int .i64 1) r11.2).bind fun r12 =>
 (vl r12.1 r12.2).bind fun r13 =>
 (An r13.1 false (vl x0 r13.2) r13.2).bind fun r14 =>
 (An r13.1 false (nk P r14.1 r14.2) r14.2).bind fun r15 =>
 (An r13.1 false (fa P 93 r15.1 0 r15.2) r15.2).bind fun r16 =>
 (An r13.1 false (ld P 22 r16.1 r16.2) r16.2).bind fun r17 =>
 (An r13.1 false (Au P #[22] 3 #[r17.1] r17.2) r17.2).bind fun r18 =>
 (An r13.1 false (bo P .eql 3 (.tmp 22) (.const (.int .i64 0)) r18.1 (.int .i64 0) r18.2) r18.2).bind fun r19 =>
 (Av r13.1 (.bool true) r19.1 r19.2).bind fun r20 =>
 AP r20.1 (
 (vl (.int .i64 0) r20.2).bind fun r21 =>
 some (r21.1, r21.2)) (
 (vl x0 r20.2).bind fun r22 =>
 (nk P r22.1 r22.2).bind fun r23 =>
 (fa P 93 r23.1 1 r23.2).bind fun r24 =>
 (ld P 3 r24.1 r24.2).bind fun r25 =>
 (bo P .sub 3 (.tmp 28) (.const (.int .i64 1)) r25.1 (.int .i64 1) r25.2).bind fun r26 =>
 (vl r26.1 r26.2).bind fun r27 =>
 (vl r27.1 r27.2).bind fun r28 =>
 (vl x0 r28.2).bind fun r29 =>
 (nk P r29.1 r29.2).bind fun r30 =>
 (fa P 93 r30.1 0 r30.2).bind fun r31 =>
 (ld P 22 r31.1 r31.2).bind fun r32 =>
 (Au P #[22] 3 #[r32.1] r32.2).bind fun r33 =>
 (bo P .lss 3 (.tmp 30) (.tmp 35) r28.1 r33.1 r33.2).bind fun r34 =>
 AP r34.1 (
 (vl x0 r34.2).bind fun r35 =>
 (nk P r35.1 r35.2).bind fun r36 =>
 (fa P 93 r36.1 0 r36.2).bind fun r37 =>
 (ld P 22 r37.1 r37.2).bind fun r38 =>
 (vl r27.1 r38.2).bind fun r39 =>
 (ia P 22 r38.1 r39.1 r39.2).bind fun r40 =>
 (ld P 5 r40.1 r40.2).bind fun r41 =>
 (cv P 5 3 r41.1 r41.2).bind fun r42 =>
 (vl x1 r42.2).bind fun r43 =>
 (bo P .rem 3 (.tmp 44) (.tmp 45) r42.1 r43.1 r43.2).bind fun r44 =>
 (vl r44.1 r44.2).bind fun r45 =>
 some (r45.1, r45.2)) (
 (vl x0 (dw r34.2)).bind fun r47 =>
 Aj (r47.2 = (dw r34.2)) <|
 (nk P r47.1 (dw r34.2)).bind fun r48 =>
 Aj (r48.2 = (dw r34.2)) <|
 (fa P 93 r48.1 0 (dw r34.2)).bind fun r49 =>
 Aj (r49.2 = (dw r34.2)) <|
 (ld P 22 r49.1 (dw r34.2)).bind fun r50 =>
 Aj (r50.2 = (dw r34.2)) <|
 (vl r27.1 (dw r34.2)).bind fun r51 =>
 Aj (r51.2 = (dw r34.2)) <|
 (vl x0 (dw r34.2)).bind fun r52 =>
 Aj (r52.2 = (dw r34.2)) <|
 (nk P r52.1 (dw r34.2)).bind fun r53 =>
 Aj (r53.2 = (dw r34.2)) <|
 (fa P 93 r53.1 0 (dw r34.2)).bind fun r54 =>
 Aj (r54.2 = (dw r34.2)) <|
 (ld P 22 r54.1 (dw r34.2)).bind fun r55 =>
 Aj (r55.2 = (dw r34.2)) <|
 (Au P #[22] 3 #[r55.1] (dw r34.2)).bind fun r56 =>
 Aj (r56.2 = (dw r34.2)) <|
 (bo P .rem 3 (.tmp 51) (.tmp 56) r51.1 r56.1 (dw r34.2)).bind fun r57 =>
 Aj (r57.2 = (dw r34.2)) <|
 (ia P 22 r50.1 r57.1 (dw r34.2)).bind fun r58 =>
 Aj (r58.2 = (dw r34.2)) <|
 (ld P 5 r58.1 (dw r34.2)).bind fun r59 =>
 Aj (r59.2 = (dw r34.2)) <|
 (cv P 5 3 r59.1 (dw r34.2)).bind fun r60 =>
 Aj (r60.2 = (dw r34.2)) <|
 (bo P .mul 3 (.tmp 60) (.const (.int .i64 131)) r60.1 (.int .i64 131) (dw r34.2)).bind fun r61 =>
 Aj (r61.2 = (dw r34.2)) <|
 (vl x0 (dw r34.2)).bind fun r62 =>
 Aj (r62.2 = (dw r34.2)) <|
 (nk P r62.1 (dw r34.2)).bind fun r63 =>
 Aj (r63.2 = (dw r34.2)) <|
 (fa P 93 r63.1 0 (dw r34.2)).bind fun r64 =>
 Aj (r64.2 = (dw r34.2)) <|
 (ld P 22 r64.1 (dw r34.2)).bind fun r65 =>
 Aj (r65.2 = (dw r34.2)) <|
 (vl r27.1 (dw r34.2)).bind fun r66 =>
 Aj (r66.2 = (dw r34.2)) <|
 (bo P .mul 3 (.tmp 66) (.const (.int .i64 7)) r66.1 (.int .i64 7) (dw r34.2)).bind fun r67 =>
 Aj (r67.2 = (dw r34.2)) <|
 (bo P .add 3 (.tmp 67) (.const (.int .i64 3)) r67.1 (.int .i64 3) (dw r34.2)).bind fun r68 =>
 Aj (r68.2 = (dw r34.2)) <|
 (vl x0 (dw r34.2)).bind fun r69 =>
 Aj (r69.2 = (dw r34.2)) <|
 (nk P r69.1 (dw r34.2)).bind fun r70 =>
 Aj (r70.2 = (dw r34.2)) <|
 (fa P 93 r70.1 0 (dw r34.2)).bind fun r71 =>
 Aj (r71.2 = (dw r34.2)) <|
 (ld P 22 r71.1 (dw r34.2)).bind fun r72 =>
 Aj (r72.2 = (dw r34.2)) <|
 (Au P #[22] 3 #[r72.1] (dw r34.2)).bind fun r73 =>
 Aj (r73.2 = (dw r34.2)) <|
 (bo P .rem 3 (.tmp 68) (.tmp 73) r68.1 r73.1 (dw r34.2)).bind fun r74 =>
 Aj (r74.2 = (dw r34.2)) <|
 (ia P 22 r65.1 r74.1 (dw r34.2)).bind fun r75 =>
 Aj (r75.2 = (dw r34.2)) <|
 (ld P 5 r75.1 (dw r34.2)).bind fun r76 =>
 Aj (r76.2 = (dw r34.2)) <|
 (cv P 5 3 r76.1 (dw r34.2)).bind fun r77 =>
 Aj (r77.2 = (dw r34.2)) <|
 (bo P .mul 3 (.tmp 77) (.const (.int .i64 1117)) r77.1 (.int .i64 1117) (dw r34.2)).bind fun r78 =>
 Aj (r78.2 = (dw r34.2)) <|
 (bo P .add 3 (.tmp 61) (.tmp 78) r61.1 r78.1 (dw r34.2)).bind fun r79 =>
 Aj (r79.2 = (dw r34.2)) <|
 (vl r27.1 (dw r34.2)).bind fun r80 =>
 Aj (r80.2 = (dw r34.2)) <|
 (bo P .mul 3 (.tmp 80) (.const (.int .i64 29)) r80.1 (.int .i64 29) (dw r34.2)).bind fun r81 =>
 Aj (r81.2 = (dw r34.2)) <|
 (bo P .add 3 (.tmp 79) (.tmp 81) r79.1 r81.1 (dw r34.2)).bind fun r82 =>
 Aj (r82.2 = (dw r34.2)) <|
 (vl r27.1 (dw r34.2)).bind fun r83 =>
 Aj (r83.2 = (dw r34.2)) <|
 (vl x0 (dw r34.2)).bind fun r84 =>
 Aj (r84.2 = (dw r34.2)) <|
 (nk P r84.1 (dw r34.2)).bind fun r85 =>
 Aj (r85.2 = (dw r34.2)) <|
 (fa P 93 r85.1 0 (dw r34.2)).bind fun r86 =>
 Aj (r86.2 = (dw r34.2)) <|
 (ld P 22 r86.1 (dw r34.2)).bind fun r87 =>
 Aj (r87.2 = (dw r34.2)) <|
 (Au P #[22] 3 #[r87.1] (dw r34.2)).bind fun r88 =>
 Aj (r88.2 = (dw r34.2)) <|
 (bo P .quo 3 (.tmp 83) (.tmp 88) r83.1 r88.1 (dw r34.2)).bind fun r89 =>
 Aj (r89.2 = (dw r34.2)) <|
 (bo P .mul 3 (.tmp 89) (.const (.int .i64 53)) r89.1 (.int .i64 53) (dw r34.2)).bind fun r90 =>
 Aj (r90.2 = (dw r34.2)) <|
 (bo P .add 3 (.tmp 82) (.tmp 90) r82.1 r90.1 (dw r34.2)).bind fun r91 =>
 Aj (r91.2 = (dw r34.2)) <|
 (vl r91.1 (dw r34.2)).bind fun r92 =>
 Aj (r92.2 = (dw r34.2)) <|
 (vl r92.1 (dw r34.2)).bind fun r93 =>
 (vl r92.1 r93.2).bind fun r94 =>
 (bo P .quo 3 (.tmp 93) (.const (.int .i64 64)) r94.1 (.int .i64 64) r94.2).bind fun r95 =>
 (bo P .xor 3 (.tmp 92) (.tmp 94) r93.1 r95.1 r95.2).bind fun r96 =>
 (vl r96.1 r96.2).bind fun r97 =>
 (vl r97.1 r97.2).bind fun r98 =>
 (vl x1 r98.2).bind fun r99 =>
 (bo P .rem 3 (.tmp 96) (.tmp 97) r98.1 r99.1 r99.2).bind fun r100 =>
 (vl r100.1 r100.2).bind fun r101 =>
 some (r101.1, r101.2))) := by kernel_rfl
theorem Jz (x0 : Value) (w : World) : Bl P (EV P) 43 #[x0] w =
 (al P 77 w).bind fun r1 =>
 (vl x0 r1.2).bind fun r2 =>
 (EV P 74 #[r2.1] r2.2).bind fun r3 =>
 (vl r3.1 r3.2).bind fun r4 =>
 (xt P r4.1 0 r4.2).bind fun r5 =>
 (xt P r4.1 1 r5.2).bind fun r6 =>
 (xt P r4.1 2 r6.2).bind fun r7 =>
 (vl r5.1 r7.2).bind fun r8 =>
 (vl r6.1 r8.2).bind fun r9 =>
 (vl r7.1 r9.2).bind fun r10 =>
 (vl r8.1 r10.2).bind fun r11 =>
 (vl r9.1 r11.2).bind fun r12 =>
 (vl r10.1 r12.2).bind fun r13 =>
 (EV P 76 #[r11.1, r12.1, r13.1] r13.2).bind fun r14 =>
 (EV P 75 #[r14.1] r14.2).bind fun r15 =>
 (st P 77 r1.1 r15.1 r15.2).bind fun r16 =>
 ((ld P 77 r1.1 r16.2).bind fun r17 => Aj (r17.2 = r16.2) (some r17.1)).bind fun v18 =>
 some (v18, r16.2) := by kernel_rfl
noncomputable def Bi (e : Env) (w : World) : Option (Value × World) := Bu P (EV P) 44 32 (cB (cB (cB (Ai P 44)))) e w (Be P (AA P 44))
theorem Gd (e : Env) (w : World) : Bi e w =
 (ld P 44 (e 3) w).bind fun r1 =>
 (st P 44 (e 2) r1.1 r1.2).bind fun r2 =>
 ((ld P 44 (e 2) r2.2).bind fun r3 => Aj (r3.2 = r2.2) (some r3.1)).bind fun v4 =>
 some (v4, r2.2) := by kernel_rfl
theorem Hv (x0 : Value) (w : World) : Bl P (EV P) 44 #[x0] w =
 (al P 44 w).bind fun r1 =>
 (vl x0 r1.2).bind fun r2 =>
 (EV P 77 #[r2.1] r2.2).bind fun r3 =>
 (al P 44 r3.2).bind fun r4 =>
 (st P 44 r4.1 r3.1 r4.2).bind fun r5 =>
 (vl x0 r5.2).bind fun r6 =>
 (EV P 42 #[r6.1, (.int .i64 10)] r6.2).bind fun r7 =>
 (bo P .eql 3 (.tmp 7) (.const (.int .i64 0)) r7.1 (.int .i64 0) r7.2).bind fun r8 =>
 (vl r8.1 r8.2).bind fun r9 =>
 AP r9.1 (
 (fa P 44 r4.1 0 r9.2).bind fun r10 =>
 (ld P 42 r10.1 r10.2).bind fun r11 =>
 (sl P 42 r11.1 (some (.int .i64 1)) none none r11.2).bind fun r12 =>
 (fa P 44 r4.1 0 r12.2).bind fun r13 =>
 (st P 42 r13.1 r12.1 r13.2).bind fun r14 =>
 Bi (AJ (AL #[x0]) [(2, r1.1), (4, r2.1), (5, r3.1), (3, r4.1), (6, r6.1), (7, r7.1), (9, r8.1), (8, r9.1), (10, r10.1), (11, r11.1), (12, r12.1), (13, r13.1)]) r14.2) (
 (bo P .eql 3 (.tmp 7) (.const (.int .i64 1)) r7.1 (.int .i64 1) r9.2).bind fun r15 =>
 (vl r15.1 r15.2).bind fun r16 =>
 AP r16.1 (
 (fa P 44 r4.1 0 (dw r16.2)).bind fun r18 =>
 Aj (r18.2 = (dw r16.2)) <|
 (ld P 42 r18.1 (dw r16.2)).bind fun r19 =>
 Aj (r19.2 = (dw r16.2)) <|
 (vl x0 (dw r16.2)).bind fun r20 =>
 Aj (r20.2 = (dw r16.2)) <|
 (vl x0 (dw r16.2)).bind fun r21 =>
 Aj (r21.2 = (dw r16.2)) <|
 (EV P 42 #[r20.1, (.int .i64 4)] (dw r16.2)).bind fun r22 =>
 Aj (ld P 42 r18.1 r22.2 = some (r19.1, r22.2) ∧ fa P 44 r4.1 0 r22.2 = some (r18.1, r22.2) ∧ True) <|
 (EV P 78 #[r21.1] r22.2).bind fun r23 =>
 Aj (ld P 42 r18.1 r23.2 = some (r19.1, r23.2) ∧ fa P 44 r4.1 0 r23.2 = some (r18.1, r23.2) ∧ True) <|
 (ia P 42 r19.1 r22.1 r23.2).bind fun r24 =>
 Aj (r24.2 = r23.2) <|
 (st P 49 r24.1 r23.1 r23.2).bind fun r25 =>
 Aj (True ∧ True ∧ True ∧ True) <|
 Bi (AJ (AL #[x0]) [(2, r1.1), (4, r2.1), (5, r3.1), (3, r4.1), (6, r6.1), (7, r7.1), (9, r8.1), (8, r9.1), (15, r15.1), (14, r16.1), (16, r18.1), (17, r19.1), (18, r20.1), (20, r21.1), (19, r22.1), (21, r23.1), (22, r24.1)]) r25.2) (
 (bo P .eql 3 (.tmp 7) (.const (.int .i64 2)) r7.1 (.int .i64 2) r16.2).bind fun r26 =>
 (vl r26.1 r26.2).bind fun r27 =>
 AP r27.1 (
 (fa P 44 r4.1 0 (dw r27.2)).bind fun r29 =>
 Aj (r29.2 = (dw r27.2)) <|
 (ld P 42 r29.1 (dw r27.2)).bind fun r30 =>
 Aj (r30.2 = (dw r27.2)) <|
 (vl x0 (dw r27.2)).bind fun r31 =>
 Aj (r31.2 = (dw r27.2)) <|
 (bd P 49 #[(3, (Go.Value.string { data := #[120] }))] (dw r27.2)).bind fun r32 =>
 Aj (r32.2 = (dw r27.2)) <|
 (EV P 42 #[r31.1, (.int .i64 4)] (dw r27.2)).bind fun r33 =>
 Aj (bd P 49 #[(3, (Go.Value.string { data := #[120] }))] r33.2 = some (r32.1, r33.2) ∧ ld P 42 r29.1 r33.2 = some (r30.1, r33.2) ∧ fa P 44 r4.1 0 r33.2 = some (r29.1, r33.2) ∧ True) <|
 (ia P 42 r30.1 r33.1 r33.2).bind fun r34 =>
 Aj (r34.2 = r33.2) <|
 (st P 49 r34.1 r32.1 r33.2).bind fun r35 =>
 Aj (True ∧ True ∧ True ∧ True ∧ True) <|
 Bi (AJ (AL #[x0]) [(2, r1.1), (4, r2.1), (5, r3.1), (3, r4.1), (6, r6.1), (7, r7.1), (9, r8.1), (8, r9.1), (15, r15.1), (14, r16.1), (24, r26.1), (23, r27.1), (25, r29.1), (26, r30.1), (27, r31.1), (29, r32.1), (28, r33.1), (30, r34.1)]) r35.2) (
 Bi (AJ (AL #[x0]) [(2, r1.1), (4, r2.1), (5, r3.1), (3, r4.1), (6, r6.1), (7, r7.1), (9, r8.1), (8, r9.1), (15, r15.1), (14, r16.1), (24, r26.1), (23, r27.1)]) r27.2))) := by kernel_rfl
noncomputable def B9 (e : Env) (w : World) : Option (Value × World) := Bu P (EV P) 45 33 (.loop (cA (cA (cB (cA (cB (Ai P 45))))))) e w (Ao 0 (AD P (EV P) 45 33 (cB (cB (Ai P 45))) (Be P (AA P 45))))
theorem EE (e : Env) (w : World) : B9 e w =
 (bo P .lss 3 (.tmp 8) (.tmp 7) (e 8) (e 7) w).bind fun r1 =>
 AP r1.1 (
 (vl (e 8) r1.2).bind fun r2 =>
 (ia P 42 (e 6) (e 8) r2.2).bind fun r3 =>
 (ld P 49 r3.1 r3.2).bind fun r4 =>
 (al P 49 r4.2).bind fun r5 =>
 (vl r2.1 r5.2).bind fun r6 =>
 (st P 49 r5.1 r4.1 r6.2).bind fun r7 =>
 (ld P 49 r5.1 r7.2).bind fun r8 =>
 (bd P 49 #[] r8.2).bind fun r9 =>
 (EV P 79 #[r8.1, r9.1] r9.2).bind fun r10 =>
 (uo P .not r10.1 r10.2).bind fun r11 =>
 (vl r11.1 r11.2).bind fun r12 =>
 (An r12.1 true (ld P 49 r5.1 r12.2) r12.2).bind fun r13 =>
 (An r12.1 true (EV P 80 #[r13.1] r13.2) r13.2).bind fun r14 =>
 (An r12.1 true (uo P .not r14.1 r14.2) r14.2).bind fun r15 =>
 (An r12.1 true (vl r15.1 r15.2) r15.2).bind fun r16 =>
 (An r16.1 false (fa P 49 r5.1 0 r16.2) r16.2).bind fun r17 =>
 (An r16.1 false (ld P 3 r17.1 r17.2) r17.2).bind fun r18 =>
 (An r16.1 false (vl r6.1 r18.2) r18.2).bind fun r19 =>
 (An r16.1 false (bo P .neq 3 (.tmp 23) (.tmp 24) r18.1 r19.1 r19.2) r19.2).bind fun r20 =>
 (An r12.1 true (Av r16.1 (.bool true) r20.1 r20.2) r20.2).bind fun r21 =>
 (Av r12.1 r21.1 (.bool false) r21.2).bind fun r22 =>
 AP r22.1 (
 (vl (.bool false) r22.2).bind fun r23 =>
 some (r23.1, r23.2)) (
 (bo P .add 3 (.tmp 8) (.const (.int .i64 1)) (e 8) (.int .i64 1) r22.2).bind fun r24 =>
 (vl r24.1 r24.2).bind fun r25 =>
 B9 (AJ e [(9, r1.1), (10, r2.1), (11, r3.1), (12, r4.1), (4, r5.1), (3, r6.1), (13, r8.1), (14, r9.1), (15, r10.1), (16, r11.1), (17, r12.1), (18, r13.1), (19, r14.1), (20, r15.1), (21, r16.1), (22, r17.1), (23, r18.1), (24, r19.1), (25, r20.1), (26, r21.1), (27, r22.1), (28, r24.1), (8, r25.1)]) r25.2)) (
 (fa P 44 (e 1) 0 r1.2).bind fun r26 =>
 (ld P 42 r26.1 r26.2).bind fun r27 =>
 (Au P #[42] 3 #[r27.1] r27.2).bind fun r28 =>
 (bo P .eql 3 (.tmp 31) (.const (.int .i64 4)) r28.1 (.int .i64 4) r28.2).bind fun r29 =>
 (vl r29.1 r29.2).bind fun r30 =>
 some (r30.1, r30.2)) := (Ay P (EV P) 45 33 (cA (cA (cB (cA (cB (Ai P 45)))))) e w (Ao 0 (AD P (EV P) 45 33 (cB (cB (Ai P 45))) (Be P (AA P 45))))).trans (by kernel_rfl)
theorem Km (x0 : Value) (w : World) : Bl P (EV P) 45 #[x0] w =
 (bx P 44 x0 w).bind fun r1 =>
 (vl (.bool false) r1.2).bind fun r2 =>
 (fa P 44 r1.1 0 r2.2).bind fun r3 =>
 (ld P 42 r3.1 r3.2).bind fun r4 =>
 (Au P #[42] 3 #[r4.1] r4.2).bind fun r5 =>
 (vl (.int .i64 0) r5.2).bind fun r6 =>
 B9 (AJ (AL #[x0]) [(1, r1.1), (2, r2.1), (5, r3.1), (6, r4.1), (7, r5.1), (8, r6.1)]) r6.2 := by kernel_rfl
theorem EF (x0 x1 : Value) (w : World) : Bl P (EV P) 46 #[x0, x1] w =
 (vl (.bool false) w).bind fun r1 =>
 (vl x0 r1.2).bind fun r2 =>
 (vl x1 r2.2).bind fun r3 =>
 (EV P 81 #[r2.1, r3.1] r3.2).bind fun r4 =>
 (bo P .geq 3 (.tmp 7) (.const (.int .i64 0)) r4.1 (.int .i64 0) r4.2).bind fun r5 =>
 (vl r5.1 r5.2).bind fun r6 =>
 some (r6.1, r6.2) := by kernel_rfl
theorem Gz (x0 x1 : Value) (w : World) : Bl P (EV P) 47 #[x0, x1] w =
 (bx P 49 x0 w).bind fun r1 =>
 (vl (.bool false) r1.2).bind fun r2 =>
 (fa P 49 r1.1 1 (dw r2.2)).bind fun r4 =>
 Aj (r4.2 = (dw r2.2)) <|
 (ld P 36 r4.1 (dw r2.2)).bind fun r5 =>
 Aj (r5.2 = (dw r2.2)) <|
 (bd P 36 #[] (dw r2.2)).bind fun r6 =>
 Aj (r6.2 = (dw r2.2)) <|
 (bo P .neq 36 (.tmp 5) (.tmp 6) r5.1 r6.1 (dw r2.2)).bind fun r7 =>
 Aj (r7.2 = (dw r2.2)) <|
 (vl r7.1 (dw r2.2)).bind fun r8 =>
 Aj (r8.2 = (dw r2.2)) <|
 (An r8.1 true (fa P 49 r1.1 2 (dw r2.2)) (dw r2.2)).bind fun r9 =>
 Aj (r9.2 = (dw r2.2)) <|
 (An r8.1 true (ld P 32 r9.1 (dw r2.2)) (dw r2.2)).bind fun r10 =>
 Aj (r10.2 = (dw r2.2)) <|
 (An r8.1 true (ld P 44 x1 (dw r2.2)) (dw r2.2)).bind fun r11 =>
 Aj (r11.2 = (dw r2.2)) <|
 (An r8.1 true (EV P 48 #[r11.1] (dw r2.2)) (dw r2.2)).bind fun r12 =>
 Aj (True ∧ An r8.1 true (ld P 32 r9.1 r12.2) r12.2 = some (r10.1, r12.2) ∧ An r8.1 true (fa P 49 r1.1 2 r12.2) r12.2 = some (r9.1, r12.2) ∧ True ∧ True ∧ True ∧ True ∧ True) <|
 (An r8.1 true (EV P 41 #[r10.1, r12.1] r12.2) r12.2).bind fun r13 =>
 Aj (True ∧ True ∧ True ∧ True ∧ True ∧ True ∧ True ∧ True) <|
 (An r8.1 true (uo P .not r13.1 r13.2) r13.2).bind fun r14 =>
 Aj (r14.2 = r13.2) <|
 (Av r8.1 r14.1 (.bool false) r13.2).bind fun r15 =>
 Aj (r15.2 = r13.2) <|
 (vl r15.1 r13.2).bind fun r16 =>
 Aj (r16.2 = r13.2) <|
 some (r16.1, r13.2) := by kernel_rfl
noncomputable def BV (e : Env) (w : World) : Option (Value × World) := Bu P (EV P) 48 23 (.loop (cA (cA (cB (cA (cB (cB (Ai P 48)))))))) e w (Ao 0 (AD P (EV P) 48 23 (cB (cB (cB (Ai P 48)))) (Be P (AA P 48))))
theorem DK (e : Env) (w : World) : BV e w =
 (bo P .lss 3 (.tmp 10) (.tmp 9) (e 10) (e 9) w).bind fun r1 =>
 AP r1.1 (
 (vl (e 10) r1.2).bind fun r2 =>
 (ia P 42 (e 8) (e 10) r2.2).bind fun r3 =>
 (ld P 49 r3.1 r3.2).bind fun r4 =>
 (al P 49 r4.2).bind fun r5 =>
 (vl r2.1 r5.2).bind fun r6 =>
 (st P 49 r5.1 r4.1 r6.2).bind fun r7 =>
 (fa P 32 (e 3) 0 r7.2).bind fun r8 =>
 (ld P 30 r8.1 r8.2).bind fun r9 =>
 (vl r6.1 r9.2).bind fun r10 =>
 (fa P 49 r5.1 1 r10.2).bind fun r11 =>
 (ld P 36 r11.1 r11.2).bind fun r12 =>
 (ia P 30 r9.1 r10.1 r12.2).bind fun r13 =>
 (st P 36 r13.1 r12.1 r13.2).bind fun r14 =>
 (bo P .add 3 (.tmp 10) (.const (.int .i64 1)) (e 10) (.int .i64 1) r14.2).bind fun r15 =>
 (vl r15.1 r15.2).bind fun r16 =>
 BV (AJ e [(11, r1.1), (12, r2.1), (13, r3.1), (14, r4.1), (5, r5.1), (4, r6.1), (15, r8.1), (16, r9.1), (17, r10.1), (18, r11.1), (19, r12.1), (20, r13.1), (21, r15.1), (10, r16.1)]) r16.2) (
 (ld P 32 (e 3) r1.2).bind fun r17 =>
 (st P 32 (e 2) r17.1 r17.2).bind fun r18 =>
 ((ld P 32 (e 2) r18.2).bind fun r19 => Aj (r19.2 = r18.2) (some r19.1)).bind fun v20 =>
 some (v20, r18.2)) := (Ay P (EV P) 48 23 (cA (cA (cB (cA (cB (cB (Ai P 48))))))) e w (Ao 0 (AD P (EV P) 48 23 (cB (cB (cB (Ai P 48)))) (Be P (AA P 48))))).trans (by kernel_rfl)
theorem H7 (x0 : Value) (w : World) : Bl P (EV P) 48 #[x0] w =
 (bx P 44 x0 w).bind fun r1 =>
 (al P 32 r1.2).bind fun r2 =>
 (EV P 17 #[] r2.2).bind fun r3 =>
 (al P 32 r3.2).bind fun r4 =>
 (st P 32 r4.1 r3.1 r4.2).bind fun r5 =>
 (fa P 44 r1.1 0 r5.2).bind fun r6 =>
 (ld P 42 r6.1 r6.2).bind fun r7 =>
 (Au P #[42] 3 #[r7.1] r7.2).bind fun r8 =>
 (vl (.int .i64 0) r8.2).bind fun r9 =>
 BV (AJ (AL #[x0]) [(1, r1.1), (2, r2.1), (6, r3.1), (3, r4.1), (7, r6.1), (8, r7.1), (9, r8.1), (10, r9.1)]) r9.2 := by kernel_rfl
noncomputable def BI (e : Env) (w : World) : Option (Value × World) := Bu P (EV P) 49 87 (.loop (cA (cA (cB (cA (cB (Ai P 49))))))) e w (Ao 0 (AD P (EV P) 49 87 (cB (cB (Ai P 49))) (Be P (AA P 49))))
theorem Ea (e : Env) (w : World) : BI e w =
 (vl (e 3) w).bind fun r1 =>
 (fa P 44 (e 1) 0 r1.2).bind fun r2 =>
 (ld P 42 r2.1 r2.2).bind fun r3 =>
 (Au P #[42] 3 #[r3.1] r3.2).bind fun r4 =>
 (bo P .lss 3 (.tmp 4) (.tmp 7) r1.1 r4.1 r4.2).bind fun r5 =>
 AP r5.1 (
 (fa P 44 (e 1) 0 r5.2).bind fun r6 =>
 (ld P 42 r6.1 r6.2).bind fun r7 =>
 (vl (e 3) r7.2).bind fun r8 =>
 (ia P 42 r7.1 r8.1 r8.2).bind fun r9 =>
 (fa P 49 r9.1 1 r9.2).bind fun r10 =>
 (ld P 36 r10.1 r10.2).bind fun r11 =>
 (bd P 36 #[] r11.2).bind fun r12 =>
 (bo P .neq 36 (.tmp 16) (.tmp 17) r11.1 r12.1 r12.2).bind fun r13 =>
 (vl r13.1 r13.2).bind fun r14 =>
 (An r14.1 true (fa P 44 (e 1) 0 r14.2) r14.2).bind fun r15 =>
 (An r14.1 true (ld P 42 r15.1 r15.2) r15.2).bind fun r16 =>
 (An r14.1 true (vl (e 3) r16.2) r16.2).bind fun r17 =>
 (An r14.1 true (ia P 42 r16.1 r17.1 r17.2) r17.2).bind fun r18 =>
 (An r14.1 true (ld P 49 r18.1 r18.2) r18.2).bind fun r19 =>
 (An r14.1 true (EV P 82 #[r19.1] r19.2) r19.2).bind fun r20 =>
 (An r14.1 true (uo P .not r20.1 r20.2) r20.2).bind fun r21 =>
 (An r14.1 true (vl r21.1 r21.2) r21.2).bind fun r22 =>
 (An r22.1 false (fa P 44 (e 1) 0 r22.2) r22.2).bind fun r23 =>
 (An r22.1 false (ld P 42 r23.1 r23.2) r23.2).bind fun r24 =>
 (An r22.1 false (vl (e 3) r24.2) r24.2).bind fun r25 =>
 (An r22.1 false (ia P 42 r24.1 r25.1 r25.2) r25.2).bind fun r26 =>
 (An r22.1 false (fa P 49 r26.1 0 r26.2) r26.2).bind fun r27 =>
 (An r22.1 false (ld P 3 r27.1 r27.2) r27.2).bind fun r28 =>
 (An r22.1 false (vl (e 3) r28.2) r28.2).bind fun r29 =>
 (An r22.1 false (bo P .neq 3 (.tmp 33) (.tmp 34) r28.1 r29.1 r29.2) r29.2).bind fun r30 =>
 (An r14.1 true (Av r22.1 (.bool true) r30.1 r30.2) r30.2).bind fun r31 =>
 (Av r14.1 r31.1 (.bool false) r31.2).bind fun r32 =>
 AP r32.1 (
 (vl (.bool false) r32.2).bind fun r33 =>
 some (r33.1, r33.2)) (
 (fa P 44 (e 1) 0 r32.2).bind fun r34 =>
 (ld P 42 r34.1 r34.2).bind fun r35 =>
 (vl (e 3) r35.2).bind fun r36 =>
 (ia P 42 r35.1 r36.1 r36.2).bind fun r37 =>
 (fa P 49 r37.1 1 r37.2).bind fun r38 =>
 (ld P 36 r38.1 r38.2).bind fun r39 =>
 (bd P 36 #[] r39.2).bind fun r40 =>
 (bo P .eql 36 (.tmp 43) (.tmp 44) r39.1 r40.1 r40.2).bind fun r41 =>
 (vl r41.1 r41.2).bind fun r42 =>
 (An r42.1 true (fa P 44 (e 1) 0 r42.2) r42.2).bind fun r43 =>
 (An r42.1 true (ld P 42 r43.1 r43.2) r43.2).bind fun r44 =>
 (An r42.1 true (vl (e 3) r44.2) r44.2).bind fun r45 =>
 (An r42.1 true (ia P 42 r44.1 r45.1 r45.2) r45.2).bind fun r46 =>
 (An r42.1 true (fa P 49 r46.1 0 r46.2) r46.2).bind fun r47 =>
 (An r42.1 true (ld P 3 r47.1 r47.2) r47.2).bind fun r48 =>
 (An r42.1 true (bo P .neq 3 (.tmp 52) (.const (.int .i64 0)) r48.1 (.int .i64 0) r48.2) r48.2).bind fun r49 =>
 (An r42.1 true (vl r49.1 r49.2) r49.2).bind fun r50 =>
 (An r50.1 false (fa P 44 (e 1) 0 r50.2) r50.2).bind fun r51 =>
 (An r50.1 false (ld P 42 r51.1 r51.2) r51.2).bind fun r52 =>
 (An r50.1 false (vl (e 3) r52.2) r52.2).bind fun r53 =>
 (An r50.1 false (ia P 42 r52.1 r53.1 r53.2) r53.2).bind fun r54 =>
 (An r50.1 false (fa P 49 r54.1 3 r54.2) r54.2).bind fun r55 =>
 (An r50.1 false (ld P 9 r55.1 r55.2) r55.2).bind fun r56 =>
 (An r50.1 false (bo P .neq 9 (.tmp 60) (.const (Go.Value.string { data := #[] })) r56.1 (Go.Value.string { data := #[] }) r56.2) r56.2).bind fun r57 =>
 (An r42.1 true (Av r50.1 (.bool true) r57.1 r57.2) r57.2).bind fun r58 =>
 (An r42.1 true (vl r58.1 r58.2) r58.2).bind fun r59 =>
 (An r59.1 false (fa P 44 (e 1) 0 r59.2) r59.2).bind fun r60 =>
 (An r59.1 false (ld P 42 r60.1 r60.2) r60.2).bind fun r61 =>
 (An r59.1 false (vl (e 3) r61.2) r61.2).bind fun r62 =>
 (An r59.1 false (ia P 42 r61.1 r62.1 r62.2) r62.2).bind fun r63 =>
 (An r59.1 false (fa P 49 r63.1 4 r63.2) r63.2).bind fun r64 =>
 (An r59.1 false (ld P 4 r64.1 r64.2) r64.2).bind fun r65 =>
 (An r42.1 true (Av r59.1 (.bool true) r65.1 r65.2) r65.2).bind fun r66 =>
 (An r42.1 true (vl r66.1 r66.2) r66.2).bind fun r67 =>
 (An r67.1 false (fa P 44 (e 1) 0 r67.2) r67.2).bind fun r68 =>
 (An r67.1 false (ld P 42 r68.1 r68.2) r68.2).bind fun r69 =>
 (An r67.1 false (vl (e 3) r69.2) r69.2).bind fun r70 =>
 (An r67.1 false (ia P 42 r69.1 r70.1 r70.2) r70.2).bind fun r71 =>
 (An r67.1 false (fa P 49 r71.1 2 r71.2) r71.2).bind fun r72 =>
 (An r67.1 false (fa P 32 r72.1 0 r72.2) r72.2).bind fun r73 =>
 (An r67.1 false (ld P 30 r73.1 r73.2) r73.2).bind fun r74 =>
 (An r67.1 false (Au P #[30] 3 #[r74.1] r74.2) r74.2).bind fun r75 =>
 (An r67.1 false (bo P .gtr 3 (.tmp 79) (.const (.int .i64 0)) r75.1 (.int .i64 0) r75.2) r75.2).bind fun r76 =>
 (An r42.1 true (Av r67.1 (.bool true) r76.1 r76.2) r76.2).bind fun r77 =>
 (Av r42.1 r77.1 (.bool false) r77.2).bind fun r78 =>
 AP r78.1 (
 (vl (.bool false) r78.2).bind fun r79 =>
 some (r79.1, r79.2)) (
 (vl (e 3) r78.2).bind fun r80 =>
 (bo P .add 3 (.tmp 9) (.const (.int .i64 1)) r80.1 (.int .i64 1) r80.2).bind fun r81 =>
 (vl r81.1 r81.2).bind fun r82 =>
 BI (AJ e [(4, r1.1), (5, r2.1), (6, r3.1), (7, r4.1), (8, r5.1), (11, r6.1), (12, r7.1), (13, r8.1), (14, r9.1), (15, r10.1), (16, r11.1), (17, r12.1), (18, r13.1), (19, r14.1), (20, r15.1), (21, r16.1), (22, r17.1), (23, r18.1), (24, r19.1), (25, r20.1), (26, r21.1), (27, r22.1), (28, r23.1), (29, r24.1), (30, r25.1), (31, r26.1), (32, r27.1), (33, r28.1), (34, r29.1), (35, r30.1), (36, r31.1), (37, r32.1), (38, r34.1), (39, r35.1), (40, r36.1), (41, r37.1), (42, r38.1), (43, r39.1), (44, r40.1), (45, r41.1), (46, r42.1), (47, r43.1), (48, r44.1), (49, r45.1), (50, r46.1), (51, r47.1), (52, r48.1), (53, r49.1), (54, r50.1), (55, r51.1), (56, r52.1), (57, r53.1), (58, r54.1), (59, r55.1), (60, r56.1), (61, r57.1), (62, r58.1), (63, r59.1), (64, r60.1), (65, r61.1), (66, r62.1), (67, r63.1), (68, r64.1), (69, r65.1), (70, r66.1), (71, r67.1), (72, r68.1), (73, r69.1), (74, r70.1), (75, r71.1), (76, r72.1), (77, r73.1), (78, r74.1), (79, r75.1), (80, r76.1), (81, r77.1), (82, r78.1), (9, r80.1), (10, r81.1), (3, r82.1)]) r82.2))) (
 (fa P 44 (e 1) 0 r5.2).bind fun r83 =>
 (ld P 42 r83.1 r83.2).bind fun r84 =>
 (Au P #[42] 3 #[r84.1] r84.2).bind fun r85 =>
 (bo P .eql 3 (.tmp 85) (.const (.int .i64 4)) r85.1 (.int .i64 4) r85.2).bind fun r86 =>
 (vl r86.1 r86.2).bind fun r87 =>
 some (r87.1, r87.2)) := (Ay P (EV P) 49 87 (cA (cA (cB (cA (cB (Ai P 49)))))) e w (Ao 0 (AD P (EV P) 49 87 (cB (cB (Ai P 49))) (Be P (AA P 49))))).trans (by kernel_rfl)
theorem IQ (x0 : Value) (w : World) : Bl P (EV P) 49 #[x0] w =
 (bx P 44 x0 w).bind fun r1 =>
 (vl (.bool false) r1.2).bind fun r2 =>
 (vl (.int .i64 0) r2.2).bind fun r3 =>
 BI (AJ (AL #[x0]) [(1, r1.1), (2, r2.1), (3, r3.1)]) r3.2 := by kernel_rfl
noncomputable def BO (e : Env) (w : World) : Option (Value × World) := Bu P (EV P) 50 33 (.loop (cA (cA (cB (cA (cB (cB (Ai P 50)))))))) e w (Ao 0 (AD P (EV P) 50 33 (cB (cB (cB (Ai P 50)))) (Be P (AA P 50))))
theorem Eo (e : Env) (w : World) : BO e w =
 (vl (e 4) w).bind fun r1 =>
 (fa P 44 (e 1) 0 r1.2).bind fun r2 =>
 (ld P 42 r2.1 r2.2).bind fun r3 =>
 (Au P #[42] 3 #[r3.1] r3.2).bind fun r4 =>
 (bo P .lss 3 (.tmp 7) (.tmp 10) r1.1 r4.1 r4.2).bind fun r5 =>
 AP r5.1 (
 (fa P 44 (e 1) 0 (dw r5.2)).bind fun r7 =>
 Aj (r7.2 = (dw r5.2)) <|
 (ld P 42 r7.1 (dw r5.2)).bind fun r8 =>
 Aj (r8.2 = (dw r5.2)) <|
 (vl (e 4) (dw r5.2)).bind fun r9 =>
 Aj (r9.2 = (dw r5.2)) <|
 (ia P 42 r8.1 r9.1 (dw r5.2)).bind fun r10 =>
 Aj (r10.2 = (dw r5.2)) <|
 (fa P 49 r10.1 1 (dw r5.2)).bind fun r11 =>
 Aj (r11.2 = (dw r5.2)) <|
 (fa P 36 r11.1 0 (dw r5.2)).bind fun r12 =>
 Aj (r12.2 = (dw r5.2)) <|
 (ld P 3 r12.1 (dw r5.2)).bind fun r13 =>
 Aj (r13.2 = (dw r5.2)) <|
 (bo P .gtr 3 (.tmp 20) (.const (.int .i64 0)) r13.1 (.int .i64 0) (dw r5.2)).bind fun r14 =>
 Aj (r14.2 = (dw r5.2)) <|
 (vl r14.1 (dw r5.2)).bind fun r15 =>
 Aj (r15.2 = (dw r5.2)) <|
 (An r15.1 true (fa P 44 (e 1) 0 (dw r5.2)) (dw r5.2)).bind fun r16 =>
 Aj (r16.2 = (dw r5.2)) <|
 (An r15.1 true (ld P 42 r16.1 (dw r5.2)) (dw r5.2)).bind fun r17 =>
 Aj (r17.2 = (dw r5.2)) <|
 (An r15.1 true (vl (e 4) (dw r5.2)) (dw r5.2)).bind fun r18 =>
 Aj (r18.2 = (dw r5.2)) <|
 (An r15.1 true (ia P 42 r17.1 r18.1 (dw r5.2)) (dw r5.2)).bind fun r19 =>
 Aj (r19.2 = (dw r5.2)) <|
 (An r15.1 true (fa P 49 r19.1 2 (dw r5.2)) (dw r5.2)).bind fun r20 =>
 Aj (r20.2 = (dw r5.2)) <|
 (An r15.1 true (ld P 32 r20.1 (dw r5.2)) (dw r5.2)).bind fun r21 =>
 Aj (r21.2 = (dw r5.2)) <|
 (An r15.1 true (ld P 32 (e 3) (dw r5.2)) (dw r5.2)).bind fun r22 =>
 Aj (r22.2 = (dw r5.2)) <|
 (An r15.1 true (EV P 84 #[r21.1, r22.1] (dw r5.2)) (dw r5.2)).bind fun r23 =>
 Aj (True ∧ True ∧ True ∧ True ∧ True ∧ True ∧ True ∧ True ∧ True ∧ True ∧ True ∧ True ∧ True ∧ True) <|
 (An r15.1 true (uo P .not r23.1 r23.2) r23.2).bind fun r24 =>
 Aj (r24.2 = r23.2) <|
 (Av r15.1 r24.1 (.bool false) r23.2).bind fun r25 =>
 Aj (r25.2 = r23.2) <|
 AP r25.1 (
 (vl (.bool false) r23.2).bind fun r26 =>
 some (r26.1, r26.2)) (
 (vl (e 4) r23.2).bind fun r27 =>
 (bo P .add 3 (.tmp 12) (.const (.int .i64 1)) r27.1 (.int .i64 1) r27.2).bind fun r28 =>
 (vl r28.1 r28.2).bind fun r29 =>
 BO (AJ e [(7, r1.1), (8, r2.1), (9, r3.1), (10, r4.1), (11, r5.1), (14, r7.1), (15, r8.1), (16, r9.1), (17, r10.1), (18, r11.1), (19, r12.1), (20, r13.1), (21, r14.1), (22, r15.1), (23, r16.1), (24, r17.1), (25, r18.1), (26, r19.1), (27, r20.1), (28, r21.1), (29, r22.1), (30, r23.1), (31, r24.1), (32, r25.1), (12, r27.1), (13, r28.1), (4, r29.1)]) r29.2)) (
 (vl (.bool true) r5.2).bind fun r30 =>
 some (r30.1, r30.2)) := (Ay P (EV P) 50 33 (cA (cA (cB (cA (cB (cB (Ai P 50))))))) e w (Ao 0 (AD P (EV P) 50 33 (cB (cB (cB (Ai P 50)))) (Be P (AA P 50))))).trans (by kernel_rfl)
theorem JA (x0 : Value) (w : World) : Bl P (EV P) 50 #[x0] w =
 (bx P 44 x0 w).bind fun r1 =>
 (vl (.bool false) r1.2).bind fun r2 =>
 (ld P 44 r1.1 r2.2).bind fun r3 =>
 (EV P 83 #[r3.1] r3.2).bind fun r4 =>
 (al P 32 r4.2).bind fun r5 =>
 (st P 32 r5.1 r4.1 r5.2).bind fun r6 =>
 (vl (.int .i64 0) r6.2).bind fun r7 =>
 BO (AJ (AL #[x0]) [(1, r1.1), (2, r2.1), (5, r3.1), (6, r4.1), (3, r5.1), (4, r7.1)]) r7.2 := by kernel_rfl
theorem GH (x0 : Value) (w : World) : Bl P (EV P) 51 #[x0] w =
 (bx P 44 x0 w).bind fun r1 =>
 (al P 44 r1.2).bind fun r2 =>
 (fa P 44 r1.1 0 r2.2).bind fun r3 =>
 (ld P 42 r3.1 r3.2).bind fun r4 =>
 (EV P 85 #[r4.1] r4.2).bind fun r5 =>
 (bd P 44 #[(0, r5.1)] r5.2).bind fun r6 =>
 (st P 44 r2.1 r6.1 r6.2).bind fun r7 =>
 ((ld P 44 r2.1 r7.2).bind fun r8 => Aj (r8.2 = r7.2) (some r8.1)).bind fun v9 =>
 some (v9, r7.2) := by kernel_rfl
theorem H8 (x0 : Value) (w : World) : Bl P (EV P) 52 #[x0] w =
 (bx P 49 x0 w).bind fun r1 =>
 (al P 49 r1.2).bind fun r2 =>
 (fa P 49 r1.1 2 r2.2).bind fun r3 =>
 (ld P 32 r3.1 r3.2).bind fun r4 =>
 (EV P 36 #[r4.1] r4.2).bind fun r5 =>
 (fa P 49 r1.1 2 r5.2).bind fun r6 =>
 (st P 32 r6.1 r5.1 r6.2).bind fun r7 =>
 (ld P 49 r1.1 r7.2).bind fun r8 =>
 (st P 49 r2.1 r8.1 r8.2).bind fun r9 =>
 ((ld P 49 r2.1 r9.2).bind fun r10 => Aj (r10.2 = r9.2) (some r10.1)).bind fun v11 =>
 some (v11, r9.2) := by kernel_rfl
theorem IU (x0 : Value) (w : World) : Bl P (EV P) 53 #[x0] w =
 (al P 36 w).bind fun r1 =>
 (vl x0 r1.2).bind fun r2 =>
 (EV P 42 #[r2.1, (.int .i64 8)] r2.2).bind fun r3 =>
 (bo P .eql 3 (.tmp 4) (.const (.int .i64 0)) r3.1 (.int .i64 0) r3.2).bind fun r4 =>
 AP r4.1 (
 (vl x0 r4.2).bind fun r5 =>
 (bs P 64 4 #[(0, (.int .i64 0)), (1, (.int .i64 (-1))), (2, (.int .i64 1000)), (3, (.int .i64 999))] r5.2).bind fun r6 =>
 (EV P 34 #[r5.1, r6.1] r6.2).bind fun r7 =>
 (vl x0 r7.2).bind fun r8 =>
 (bs P 64 4 #[(0, (.int .i64 0)), (1, (.int .i64 1)), (2, (.int .i64 3)), (3, (.int .i64 (-1)))] r8.2).bind fun r9 =>
 (EV P 34 #[r8.1, r9.1] r9.2).bind fun r10 =>
 (bd P 36 #[(0, r7.1), (1, r10.1)] r10.2).bind fun r11 =>
 (st P 36 r1.1 r11.1 r11.2).bind fun r12 =>
 ((ld P 36 r1.1 r12.2).bind fun r13 => Aj (r13.2 = r12.2) (some r13.1)).bind fun v14 =>
 some (v14, r12.2)) (
 (vl x0 r4.2).bind fun r15 =>
 (EV P 86 #[r15.1] r15.2).bind fun r16 =>
 (st P 36 r1.1 r16.1 r16.2).bind fun r17 =>
 ((ld P 36 r1.1 r17.2).bind fun r18 => Aj (r18.2 = r17.2) (some r18.1)).bind fun v19 =>
 some (v19, r17.2)) := by kernel_rfl
theorem Mi (x0 : Value) (w : World) : Bl P (EV P) 56 #[x0] w =
 (vl (.bool false) w).bind fun r1 =>
 (vl x0 r1.2).bind fun r2 =>
 (EV P 35 #[r2.1, (.int .i64 0), (.int .i64 3)] r2.2).bind fun r3 =>
 (vl r3.1 r3.2).bind fun r4 =>
 some (r4.1, r4.2) := by kernel_rfl
theorem Mj (x0 : Value) (w : World) : Bl P (EV P) 57 #[x0] w =
 (bx P 36 x0 w).bind fun r1 =>
 (vl (.bool false) r1.2).bind fun r2 =>
 (ld P 36 r1.1 r2.2).bind fun r3 =>
 (bd P 36 #[] r3.2).bind fun r4 =>
 (bo P .eql 36 (.tmp 3) (.tmp 4) r3.1 r4.1 r4.2).bind fun r5 =>
 (vl r5.1 r5.2).bind fun r6 =>
 (An r6.1 false (fa P 36 r1.1 0 r6.2) r6.2).bind fun r7 =>
 (An r6.1 false (ld P 3 r7.1 r7.2) r7.2).bind fun r8 =>
 (An r6.1 false (EV P 35 #[r8.1, (.int .i64 1), (.int .i64 999)] r8.2) r8.2).bind fun r9 =>
 (An r6.1 false (vl r9.1 r9.2) r9.2).bind fun r10 =>
 (An r10.1 true (fa P 36 r1.1 1 r10.2) r10.2).bind fun r11 =>
 (An r10.1 true (ld P 3 r11.1 r11.2) r11.2).bind fun r12 =>
 (An r10.1 true (EV P 88 #[r12.1] r12.2) r12.2).bind fun r13 =>
 (An r6.1 false (Av r10.1 r13.1 (.bool false) r13.2) r13.2).bind fun r14 =>
 (Av r6.1 (.bool true) r14.1 r14.2).bind fun r15 =>
 (vl r15.1 r15.2).bind fun r16 =>
 some (r16.1, r16.2) := by kernel_rfl
theorem KZ (x0 x1 : Value) (w : World) : Bl P (EV P) 63 #[x0, x1] w =
 (bx P 36 x0 w).bind fun r1 =>
 (bx P 36 x1 r1.2).bind fun r2 =>
 (vl (.bool false) r2.2).bind fun r3 =>
 (fa P 36 r1.1 0 r3.2).bind fun r4 =>
 (ld P 3 r4.1 r4.2).bind fun r5 =>
 (fa P 36 r2.1 0 r5.2).bind fun r6 =>
 (ld P 3 r6.1 r6.2).bind fun r7 =>
 (bo P .lss 3 (.tmp 6) (.tmp 8) r5.1 r7.1 r7.2).bind fun r8 =>
 (vl r8.1 r8.2).bind fun r9 =>
 (An r9.1 false (fa P 36 r1.1 0 r9.2) r9.2).bind fun r10 =>
 (An r9.1 false (ld P 3 r10.1 r10.2) r10.2).bind fun r11 =>
 (An r9.1 false (fa P 36 r2.1 0 r11.2) r11.2).bind fun r12 =>
 (An r9.1 false (ld P 3 r12.1 r12.2) r12.2).bind fun r13 =>
 (An r9.1 false (bo P .eql 3 (.tmp 12) (.tmp 14) r11.1 r13.1 r13.2) r13.2).bind fun r14 =>
 (An r9.1 false (vl r14.1 r14.2) r14.2).bind fun r15 =>
 (An r15.1 true (fa P 36 r1.1 1 r15.2) r15.2).bind fun r16 =>
 (An r15.1 true (ld P 3 r16.1 r16.2) r16.2).bind fun r17 =>
 (An r15.1 true (fa P 36 r2.1 1 r17.2) r17.2).bind fun r18 =>
 (An r15.1 true (ld P 3 r18.1 r18.2) r18.2).bind fun r19 =>
 (An r15.1 true (bo P .lss 3 (.tmp 18) (.tmp 20) r17.1 r19.1 r19.2) r19.2).bind fun r20 =>
 (An r9.1 false (Av r15.1 r20.1 (.bool false) r20.2) r20.2).bind fun r21 =>
 (Av r9.1 (.bool true) r21.1 r21.2).bind fun r22 =>
 (vl r22.1 r22.2).bind fun r23 =>
 some (r23.1, r23.2) := by kernel_rfl
theorem K0 (x0 x1 x2 : Value) (w : World) : Bl P (EV P) 66 #[x0, x1, x2] w =
 (bx P 32 x0 w).bind fun r1 =>
 (bx P 36 x2 r1.2).bind fun r2 =>
 (al P 32 r2.2).bind fun r3 =>
 (bs P 30 0 #[] r3.2).bind fun r4 =>
 (fa P 32 r1.1 0 r4.2).bind fun r5 =>
 (ld P 30 r5.1 r5.2).bind fun r6 =>
 (Ar P #[30, 30] 30 #[r4.1, r6.1] r6.2).bind fun r7 =>
 (bd P 32 #[(0, r7.1)] r7.2).bind fun r8 =>
 (al P 32 r8.2).bind fun r9 =>
 (st P 32 r9.1 r8.1 r9.2).bind fun r10 =>
 (fa P 32 r9.1 0 (dw r10.2)).bind fun r12 =>
 Aj (r12.2 = (dw r10.2)) <|
 (ld P 30 r12.1 (dw r10.2)).bind fun r13 =>
 Aj (r13.2 = (dw r10.2)) <|
 (vl x1 (dw r10.2)).bind fun r14 =>
 Aj (r14.2 = (dw r10.2)) <|
 (fa P 32 r9.1 0 (dw r10.2)).bind fun r15 =>
 Aj (r15.2 = (dw r10.2)) <|
 (ld P 30 r15.1 (dw r10.2)).bind fun r16 =>
 Aj (r16.2 = (dw r10.2)) <|
 (vl x1 (dw r10.2)).bind fun r17 =>
 Aj (r17.2 = (dw r10.2)) <|
 (ia P 30 r16.1 r17.1 (dw r10.2)).bind fun r18 =>
 Aj (r18.2 = (dw r10.2)) <|
 (ld P 36 r18.1 (dw r10.2)).bind fun r19 =>
 Aj (r19.2 = (dw r10.2)) <|
 (ld P 36 r2.1 (dw r10.2)).bind fun r20 =>
 Aj (r20.2 = (dw r10.2)) <|
 (EV P 93 #[r19.1, r20.1] (dw r10.2)).bind fun r21 =>
 Aj (True ∧ True ∧ True ∧ True ∧ True ∧ ld P 30 r12.1 r21.2 = some (r13.1, r21.2) ∧ fa P 32 r9.1 0 r21.2 = some (r12.1, r21.2) ∧ True) <|
 (ia P 30 r13.1 r14.1 r21.2).bind fun r22 =>
 Aj (r22.2 = r21.2) <|
 (st P 36 r22.1 r21.1 r21.2).bind fun r23 =>
 Aj (True ∧ True ∧ True ∧ True ∧ True ∧ True ∧ True ∧ True ∧ True) <|
 (ld P 32 r9.1 r23.2).bind fun r24 =>
 (st P 32 r3.1 r24.1 r24.2).bind fun r25 =>
 ((ld P 32 r3.1 r25.2).bind fun r26 => Aj (r26.2 = r25.2) (some r26.1)).bind fun v27 =>
 some (v27, r25.2) := by kernel_rfl
noncomputable def Dm (e : Env) (w : World) : Option (Value × World) := Bu P (EV P) 67 29 (.loop (cA (cA (cB (cA (cB (cB (Ai P 67)))))))) e w (Ao 0 (AD P (EV P) 67 29 (cB (cB (cB (Ai P 67)))) (Be P (AA P 67))))
theorem Fc (e : Env) (w : World) : Dm e w =
 (vl (e 6) w).bind fun r1 =>
 (bo P .lss 3 (.tmp 8) (.const (.int .i64 4)) r1.1 (.int .i64 4) r1.2).bind fun r2 =>
 AP r2.1 (
 (fa P 32 (e 5) 0 (dw r2.2)).bind fun r4 =>
 Aj (r4.2 = (dw r2.2)) <|
 (ld P 30 r4.1 (dw r2.2)).bind fun r5 =>
 Aj (r5.2 = (dw r2.2)) <|
 (fa P 32 (e 2) 0 (dw r2.2)).bind fun r6 =>
 Aj (r6.2 = (dw r2.2)) <|
 (ld P 30 r6.1 (dw r2.2)).bind fun r7 =>
 Aj (r7.2 = (dw r2.2)) <|
 (vl (e 6) (dw r2.2)).bind fun r8 =>
 Aj (r8.2 = (dw r2.2)) <|
 (ia P 30 r7.1 r8.1 (dw r2.2)).bind fun r9 =>
 Aj (r9.2 = (dw r2.2)) <|
 (ld P 36 r9.1 (dw r2.2)).bind fun r10 =>
 Aj (r10.2 = (dw r2.2)) <|
 (fa P 32 (e 3) 0 (dw r2.2)).bind fun r11 =>
 Aj (r11.2 = (dw r2.2)) <|
 (ld P 30 r11.1 (dw r2.2)).bind fun r12 =>
 Aj (r12.2 = (dw r2.2)) <|
 (vl (e 6) (dw r2.2)).bind fun r13 =>
 Aj (r13.2 = (dw r2.2)) <|
 (ia P 30 r12.1 r13.1 (dw r2.2)).bind fun r14 =>
 Aj (r14.2 = (dw r2.2)) <|
 (ld P 36 r14.1 (dw r2.2)).bind fun r15 =>
 Aj (r15.2 = (dw r2.2)) <|
 (EV P 93 #[r10.1, r15.1] (dw r2.2)).bind fun r16 =>
 Aj (True ∧ True ∧ True ∧ True ∧ True ∧ True ∧ True ∧ True ∧ ld P 30 r4.1 r16.2 = some (r5.1, r16.2) ∧ fa P 32 (e 5) 0 r16.2 = some (r4.1, r16.2) ∧ True) <|
 (bs P 30 1 #[(0, r16.1)] r16.2).bind fun r17 =>
 Aj (True ∧ True ∧ True ∧ True ∧ True ∧ True ∧ True ∧ True ∧ ld P 30 r4.1 r17.2 = some (r5.1, r17.2) ∧ fa P 32 (e 5) 0 r17.2 = some (r4.1, r17.2) ∧ True) <|
 (Ar P #[30, 30] 30 #[r5.1, r17.1] r17.2).bind fun r18 =>
 Aj (True ∧ True ∧ True ∧ True ∧ True ∧ True ∧ True ∧ True ∧ True ∧ True ∧ True) <|
 (fa P 32 (e 5) 0 r18.2).bind fun r19 =>
 Aj (r19.2 = r18.2) <|
 (st P 30 r19.1 r18.1 r18.2).bind fun r20 =>
 Aj (True ∧ True ∧ True ∧ True ∧ True ∧ True ∧ True ∧ True ∧ True ∧ True ∧ True ∧ True) <|
 (vl (e 6) r20.2).bind fun r21 =>
 (bo P .add 3 (.tmp 10) (.const (.int .i64 1)) r21.1 (.int .i64 1) r21.2).bind fun r22 =>
 (vl r22.1 r22.2).bind fun r23 =>
 Dm (AJ e [(8, r1.1), (9, r2.1), (12, r4.1), (13, r5.1), (14, r6.1), (15, r7.1), (16, r8.1), (17, r9.1), (18, r10.1), (19, r11.1), (20, r12.1), (21, r13.1), (22, r14.1), (23, r15.1), (24, r16.1), (25, r17.1), (26, r18.1), (27, r19.1), (10, r21.1), (11, r22.1), (6, r23.1)]) r23.2) (
 (ld P 32 (e 5) r2.2).bind fun r24 =>
 (st P 32 (e 4) r24.1 r24.2).bind fun r25 =>
 ((ld P 32 (e 4) r25.2).bind fun r26 => Aj (r26.2 = r25.2) (some r26.1)).bind fun v27 =>
 some (v27, r25.2)) := (Ay P (EV P) 67 29 (cA (cA (cB (cA (cB (cB (Ai P 67))))))) e w (Ao 0 (AD P (EV P) 67 29 (cB (cB (cB (Ai P 67)))) (Be P (AA P 67))))).trans (by kernel_rfl)
theorem K4 (x0 x1 : Value) (w : World) : Bl P (EV P) 67 #[x0, x1] w =
 (bx P 32 x0 w).bind fun r1 =>
 (bx P 32 x1 r1.2).bind fun r2 =>
 (al P 32 r2.2).bind fun r3 =>
 (bd P 32 #[] r3.2).bind fun r4 =>
 (al P 32 r4.2).bind fun r5 =>
 (st P 32 r5.1 r4.1 r5.2).bind fun r6 =>
 (vl (.int .i64 0) r6.2).bind fun r7 =>
 Dm (AJ (AL #[x0, x1]) [(2, r1.1), (3, r2.1), (4, r3.1), (7, r4.1), (5, r5.1), (6, r7.1)]) r7.2 := by kernel_rfl
theorem H9 (x0 : Value) (w : World) : Bl P (EV P) 68 #[x0] w =
 (vl (Go.Value.slice none 0 0) w).bind fun r1 =>
 (vl x0 r1.2).bind fun r2 =>
 (vl x0 r2.2).bind fun r3 =>
 (Au P #[30] 3 #[r3.1] r3.2).bind fun r4 =>
 (vl x0 r4.2).bind fun r5 =>
 (Au P #[30] 3 #[r5.1] r5.2).bind fun r6 =>
 (sl P 30 r2.1 none (some r4.1) (some r6.1) r6.2).bind fun r7 =>
 (vl r7.1 r7.2).bind fun r8 =>
 some (r8.1, r8.2) := by kernel_rfl
theorem Hw (x0 : Value) (w : World) : Bl P (EV P) 69 #[x0] w =
 (vl (Go.Value.slice none 0 0) w).bind fun r1 =>
 (vl x0 r1.2).bind fun r2 =>
 (bo P .eql 30 (.tmp 3) (.const (Go.Value.slice none 0 0)) r2.1 (Go.Value.slice none 0 0) r2.2).bind fun r3 =>
 AP r3.1 (
 (vl (Go.Value.slice none 0 0) r3.2).bind fun r4 =>
 some (r4.1, r4.2)) (
 (bs P 30 0 #[] r3.2).bind fun r5 =>
 (vl x0 r5.2).bind fun r6 =>
 (Ar P #[30, 30] 30 #[r5.1, r6.1] r6.2).bind fun r7 =>
 (vl r7.1 r7.2).bind fun r8 =>
 some (r8.1, r8.2)) := by kernel_rfl
noncomputable def CM (e : Env) (w : World) : Option (Value × World) := Bu P (EV P) 70 18 (.loop (cA (cA (cB (cA (cB (cB (Ai P 70)))))))) e w (Ao 0 (AD P (EV P) 70 18 (cB (cB (cB (Ai P 70)))) (Be P (AA P 70))))
theorem DN (e : Env) (w : World) : CM e w =
 (bo P .lss 3 (.tmp 8) (.tmp 7) (e 8) (e 7) w).bind fun r1 =>
 AP r1.1 (
 (ia P 64 (e 6) (e 8) r1.2).bind fun r2 =>
 (ld P 3 r2.1 r2.2).bind fun r3 =>
 (vl r3.1 r3.2).bind fun r4 =>
 (vl r4.1 r4.2).bind fun r5 =>
 (vl (e 3) r5.2).bind fun r6 =>
 (bo P .neq 3 (.tmp 12) (.tmp 13) r5.1 r6.1 r6.2).bind fun r7 =>
 AP r7.1 (
 (vl r4.1 r7.2).bind fun r8 =>
 (vl r8.1 r8.2).bind fun r9 =>
 some (r9.1, r9.2)) (
 (bo P .add 3 (.tmp 8) (.const (.int .i64 1)) (e 8) (.int .i64 1) r7.2).bind fun r10 =>
 (vl r10.1 r10.2).bind fun r11 =>
 CM (AJ e [(9, r1.1), (10, r2.1), (11, r3.1), (5, r4.1), (12, r5.1), (13, r6.1), (14, r7.1), (16, r10.1), (8, r11.1)]) r11.2)) (
 (vl (e 3) r1.2).bind fun r12 =>
 (vl r12.1 r12.2).bind fun r13 =>
 some (r13.1, r13.2)) := (Ay P (EV P) 70 18 (cA (cA (cB (cA (cB (cB (Ai P 70))))))) e w (Ao 0 (AD P (EV P) 70 18 (cB (cB (cB (Ai P 70)))) (Be P (AA P 70))))).trans (by kernel_rfl)
theorem Ml (x0 : Value) (w : World) : Bl P (EV P) 70 #[x0] w =
 (vl (.int .i64 0) w).bind fun r1 =>
 (vl (.int .i64 0) r1.2).bind fun r2 =>
 (vl x0 r2.2).bind fun r3 =>
 (Au P #[64] 3 #[r3.1] r3.2).bind fun r4 =>
 (vl (.int .i64 0) r4.2).bind fun r5 =>
 CM (AJ (AL #[x0]) [(2, r1.1), (3, r2.1), (6, r3.1), (7, r4.1), (8, r5.1)]) r5.2 := by kernel_rfl
theorem Ia (x0 x1 : Value) (w : World) : Bl P (EV P) 71 #[x0, x1] w =
 (vl (.int .i64 0) w).bind fun r1 =>
 (vl x0 r1.2).bind fun r2 =>
 (EV P 94 #[r2.1] r2.2).bind fun r3 =>
 (vl r3.1 r3.2).bind fun r4 =>
 (vl x1 r4.2).bind fun r5 =>
 (EV P 94 #[r5.1] r5.2).bind fun r6 =>
 (vl r6.1 r6.2).bind fun r7 =>
 (vl r4.1 r7.2).bind fun r8 =>
 AP r8.1 (
 (vl r7.1 r8.2).bind fun r9 =>
 AP r9.1 (
 (vl (.int .i64 0) r9.2).bind fun r10 =>
 some (r10.1, r10.2)) (
 (vl (.int .i64 (-1)) r9.2).bind fun r11 =>
 some (r11.1, r11.2))) (
 (vl r7.1 r8.2).bind fun r12 =>
 AP r12.1 (
 (vl (.int .i64 1) r12.2).bind fun r13 =>
 some (r13.1, r13.2)) (
 (vl x0 r12.2).bind fun r14 =>
 (vl x1 r14.2).bind fun r15 =>
 (bo P .lss 3 (.tmp 14) (.tmp 15) r14.1 r15.1 r15.2).bind fun r16 =>
 AP r16.1 (
 (vl (.int .i64 (-1)) r16.2).bind fun r17 =>
 some (r17.1, r17.2)) (
 (vl x0 r16.2).bind fun r18 =>
 (vl x1 r18.2).bind fun r19 =>
 (bo P .gtr 3 (.tmp 17) (.tmp 18) r18.1 r19.1 r19.2).bind fun r20 =>
 AP r20.1 (
 (vl (.int .i64 1) r20.2).bind fun r21 =>
 some (r21.1, r21.2)) (
 (vl (.int .i64 0) r20.2).bind fun r22 =>
 some (r22.1, r22.2))))) := by kernel_rfl
theorem EG (x0 x1 : Value) (w : World) : Bl P (EV P) 72 #[x0, x1] w =
 (vl (.bool false) w).bind fun r1 =>
 (vl x0 r1.2).bind fun r2 =>
 (vl x1 r2.2).bind fun r3 =>
 (EV P 95 #[r2.1, r3.1] r3.2).bind fun r4 =>
 (bo P .geq 3 (.tmp 7) (.const (.int .i64 0)) r4.1 (.int .i64 0) r4.2).bind fun r5 =>
 (vl r5.1 r5.2).bind fun r6 =>
 some (r6.1, r6.2) := by kernel_rfl
theorem JB (x0 : Value) (w : World) : Bl P (EV P) 73 #[x0] w =
 (bx P 36 x0 w).bind fun r1 =>
 (vl (.bool false) r1.2).bind fun r2 =>
 (ld P 36 r1.1 r2.2).bind fun r3 =>
 (EV P 57 #[r3.1] r3.2).bind fun r4 =>
 (uo P .not r4.1 r4.2).bind fun r5 =>
 (vl r5.1 r5.2).bind fun r6 =>
 some (r6.1, r6.2) := by kernel_rfl
theorem Kn (x0 : Value) (w : World) : Bl P (EV P) 74 #[x0] w =
 (vl (.int .i64 0) w).bind fun r1 =>
 (vl (.int .i64 0) r1.2).bind fun r2 =>
 (vl (Go.Value.slice none 0 0) r2.2).bind fun r3 =>
 (vl x0 r3.2).bind fun r4 =>
 (EV P 42 #[r4.1, (.int .i64 4)] r4.2).bind fun r5 =>
 (bo P .add 3 (.const (.int .i64 1)) (.tmp 8) (.int .i64 1) r5.1 r5.2).bind fun r6 =>
 (vl r6.1 r6.2).bind fun r7 =>
 (vl x0 r7.2).bind fun r8 =>
 (EV P 42 #[r8.1, (.int .i64 4)] r8.2).bind fun r9 =>
 (bo P .add 3 (.const (.int .i64 1)) (.tmp 11) (.int .i64 1) r9.1 r9.2).bind fun r10 =>
 (vl r10.1 r10.2).bind fun r11 =>
 (vl r7.1 r11.2).bind fun r12 =>
 (vl r11.1 r12.2).bind fun r13 =>
 (vl x0 r13.2).bind fun r14 =>
 (vl r7.1 r14.2).bind fun r15 =>
 (vl r11.1 r15.2).bind fun r16 =>
 (vl x0 r16.2).bind fun r17 =>
 (bs P 64 4 #[(0, (.int .i64 0)), (1, (.int .i64 20)), (2, (.int .i64 60)), (3, (.int .i64 120))] r17.2).bind fun r18 =>
 (EV P 34 #[r17.1, r18.1] r18.2).bind fun r19 =>
 (EV P 96 #[r14.1, r15.1, r16.1, r19.1] r19.2).bind fun r20 =>
 (vl r12.1 r20.2).bind fun r21 =>
 (vl r13.1 r21.2).bind fun r22 =>
 (vl r20.1 r22.2).bind fun r23 =>
 some (.tuple #[r21.1, r22.1, r23.1], r23.2) := by kernel_rfl
noncomputable def Dn (e : Env) (w : World) : Option (Value × World) := Bu P (EV P) 75 80 (.loop (cA (cA (cB (cA (cB (cB (Ai P 75)))))))) e w (Ao 0 (AD P (EV P) 75 80 (cB (cB (cB (Ai P 75)))) (Be P (AA P 75))))
noncomputable def Dq (e : Env) (w : World) : Option (Value × World) := Bu P (EV P) 75 80 (.loop (cA (cA (cB (cA (cB (cB (cB (Ai P 75))))))))) e w (Ao 2 (AD P (EV P) 75 80 (cB (cB (cB (cB (Ai P 75))))) (Be P (AA P 75))))
noncomputable def Dr (e : Env) (w : World) : Option (Value × World) := Bu P (EV P) 75 80 (.loop (cA (cA (cB (cA (cB (cB (cB (cB (Ai P 75)))))))))) e w (Ao 4 (AD P (EV P) 75 80 (cB (cB (cB (cB (cB (Ai P 75)))))) (Be P (AA P 75))))
theorem Fe (e : Env) (w : World) : Dn e w =
 (vl (e 4) w).bind fun r1 =>
 (fa P 77 (e 1) 0 r1.2).bind fun r2 =>
 (ld P 73 r2.1 r2.2).bind fun r3 =>
 (Au P #[73] 3 #[r3.1] r3.2).bind fun r4 =>
 (bo P .lss 3 (.tmp 14) (.tmp 17) r1.1 r4.1 r4.2).bind fun r5 =>
 AP r5.1 (
 (fa P 77 (e 3) 0 (dw r5.2)).bind fun r7 =>
 Aj (r7.2 = (dw r5.2)) <|
 (ld P 73 r7.1 (dw r5.2)).bind fun r8 =>
 Aj (r8.2 = (dw r5.2)) <|
 (fa P 77 (e 1) 0 (dw r5.2)).bind fun r9 =>
 Aj (r9.2 = (dw r5.2)) <|
 (ld P 73 r9.1 (dw r5.2)).bind fun r10 =>
 Aj (r10.2 = (dw r5.2)) <|
 (vl (e 4) (dw r5.2)).bind fun r11 =>
 Aj (r11.2 = (dw r5.2)) <|
 (ia P 73 r10.1 r11.1 (dw r5.2)).bind fun r12 =>
 Aj (r12.2 = (dw r5.2)) <|
 (ld P 84 r12.1 (dw r5.2)).bind fun r13 =>
 Aj (r13.2 = (dw r5.2)) <|
 (EV P 97 #[r13.1] (dw r5.2)).bind fun r14 =>
 Aj (True ∧ True ∧ True ∧ True ∧ ld P 73 r7.1 r14.2 = some (r8.1, r14.2) ∧ fa P 77 (e 3) 0 r14.2 = some (r7.1, r14.2) ∧ True) <|
 (bs P 73 1 #[(0, r14.1)] r14.2).bind fun r15 =>
 Aj (True ∧ True ∧ True ∧ True ∧ ld P 73 r7.1 r15.2 = some (r8.1, r15.2) ∧ fa P 77 (e 3) 0 r15.2 = some (r7.1, r15.2) ∧ True) <|
 (Ar P #[73, 73] 73 #[r8.1, r15.1] r15.2).bind fun r16 =>
 Aj (True ∧ True ∧ True ∧ True ∧ True ∧ True ∧ True) <|
 (fa P 77 (e 3) 0 r16.2).bind fun r17 =>
 Aj (r17.2 = r16.2) <|
 (st P 73 r17.1 r16.1 r16.2).bind fun r18 =>
 Aj (True ∧ True ∧ True ∧ True ∧ True ∧ True ∧ True ∧ True) <|
 (vl (e 4) r18.2).bind fun r19 =>
 (bo P .add 3 (.tmp 19) (.const (.int .i64 1)) r19.1 (.int .i64 1) r19.2).bind fun r20 =>
 (vl r20.1 r20.2).bind fun r21 =>
 Dn (AJ e [(14, r1.1), (15, r2.1), (16, r3.1), (17, r4.1), (18, r5.1), (21, r7.1), (22, r8.1), (23, r9.1), (24, r10.1), (25, r11.1), (26, r12.1), (27, r13.1), (28, r14.1), (29, r15.1), (30, r16.1), (31, r17.1), (19, r19.1), (20, r20.1), (4, r21.1)]) r21.2) (
 (vl (.int .i64 0) r5.2).bind fun r22 =>
 Dq (AJ e [(14, r1.1), (15, r2.1), (16, r3.1), (17, r4.1), (18, r5.1), (5, r22.1)]) r22.2) := (Ay P (EV P) 75 80 (cA (cA (cB (cA (cB (cB (Ai P 75))))))) e w (Ao 0 (AD P (EV P) 75 80 (cB (cB (cB (Ai P 75)))) (Be P (AA P 75))))).trans (by kernel_rfl)
theorem Ff (e : Env) (w : World) : Dq e w =
 (vl (e 5) w).bind fun r1 =>
 (fa P 77 (e 1) 1 r1.2).bind fun r2 =>
 (ld P 74 r2.1 r2.2).bind fun r3 =>
 (Au P #[74] 3 #[r3.1] r3.2).bind fun r4 =>
 (bo P .lss 3 (.tmp 32) (.tmp 35) r1.1 r4.1 r4.2).bind fun r5 =>
 AP r5.1 (
 (fa P 77 (e 1) 1 r5.2).bind fun r6 =>
 (ld P 74 r6.1 r6.2).bind fun r7 =>
 (vl (e 5) r7.2).bind fun r8 =>
 (ia P 74 r7.1 r8.1 r8.2).bind fun r9 =>
 (ld P 129 r9.1 r9.2).bind fun r10 =>
 (al P 129 r10.2).bind fun r11 =>
 (st P 129 r11.1 r10.1 r11.2).bind fun r12 =>
 (bs P 30 0 #[] r12.2).bind fun r13 =>
 (fa P 129 r11.1 1 r13.2).bind fun r14 =>
 (fa P 32 r14.1 0 r14.2).bind fun r15 =>
 (ld P 30 r15.1 r15.2).bind fun r16 =>
 (Ar P #[30, 30] 30 #[r13.1, r16.1] r16.2).bind fun r17 =>
 (bd P 32 #[(0, r17.1)] r17.2).bind fun r18 =>
 (fa P 129 r11.1 1 r18.2).bind fun r19 =>
 (st P 32 r19.1 r18.1 r19.2).bind fun r20 =>
 (fa P 77 (e 3) 1 r20.2).bind fun r21 =>
 (ld P 74 r21.1 r21.2).bind fun r22 =>
 (ld P 129 r11.1 r22.2).bind fun r23 =>
 (bs P 74 1 #[(0, r23.1)] r23.2).bind fun r24 =>
 (Ar P #[74, 74] 74 #[r22.1, r24.1] r24.2).bind fun r25 =>
 (fa P 77 (e 3) 1 r25.2).bind fun r26 =>
 (st P 74 r26.1 r25.1 r26.2).bind fun r27 =>
 (vl (e 5) r27.2).bind fun r28 =>
 (bo P .add 3 (.tmp 37) (.const (.int .i64 1)) r28.1 (.int .i64 1) r28.2).bind fun r29 =>
 (vl r29.1 r29.2).bind fun r30 =>
 Dq (AJ e [(32, r1.1), (33, r2.1), (34, r3.1), (35, r4.1), (36, r5.1), (39, r6.1), (40, r7.1), (41, r8.1), (42, r9.1), (43, r10.1), (6, r11.1), (44, r13.1), (45, r14.1), (46, r15.1), (47, r16.1), (48, r17.1), (49, r18.1), (50, r19.1), (51, r21.1), (52, r22.1), (53, r23.1), (54, r24.1), (55, r25.1), (56, r26.1), (37, r28.1), (38, r29.1), (5, r30.1)]) r30.2) (
 (vl (.int .i64 0) r5.2).bind fun r31 =>
 Dr (AJ e [(32, r1.1), (33, r2.1), (34, r3.1), (35, r4.1), (36, r5.1), (7, r31.1)]) r31.2) := (Ay P (EV P) 75 80 (cA (cA (cB (cA (cB (cB (cB (Ai P 75)))))))) e w (Ao 2 (AD P (EV P) 75 80 (cB (cB (cB (cB (Ai P 75))))) (Be P (AA P 75))))).trans (by kernel_rfl)
theorem Fg (e : Env) (w : World) : Dr e w =
 (vl (e 7) w).bind fun r1 =>
 (fa P 77 (e 1) 2 r1.2).bind fun r2 =>
 (ld P 75 r2.1 r2.2).bind fun r3 =>
 (Au P #[75] 3 #[r3.1] r3.2).bind fun r4 =>
 (bo P .lss 3 (.tmp 57) (.tmp 60) r1.1 r4.1 r4.2).bind fun r5 =>
 AP r5.1 (
 (fa P 77 (e 1) 2 r5.2).bind fun r6 =>
 (ld P 75 r6.1 r6.2).bind fun r7 =>
 (vl (e 7) r7.2).bind fun r8 =>
 (ia P 75 r7.1 r8.1 r8.2).bind fun r9 =>
 (ld P 131 r9.1 r9.2).bind fun r10 =>
 (al P 131 r10.2).bind fun r11 =>
 (st P 131 r11.1 r10.1 r11.2).bind fun r12 =>
 (fa P 131 r11.1 3 r12.2).bind fun r13 =>
 (ld P 49 r13.1 r13.2).bind fun r14 =>
 (EV P 98 #[r14.1] r14.2).bind fun r15 =>
 (fa P 131 r11.1 3 r15.2).bind fun r16 =>
 (st P 49 r16.1 r15.1 r16.2).bind fun r17 =>
 (fa P 77 (e 3) 2 r17.2).bind fun r18 =>
 (ld P 75 r18.1 r18.2).bind fun r19 =>
 (ld P 131 r11.1 r19.2).bind fun r20 =>
 (bs P 75 1 #[(0, r20.1)] r20.2).bind fun r21 =>
 (Ar P #[75, 75] 75 #[r19.1, r21.1] r21.2).bind fun r22 =>
 (fa P 77 (e 3) 2 r22.2).bind fun r23 =>
 (st P 75 r23.1 r22.1 r23.2).bind fun r24 =>
 (vl (e 7) r24.2).bind fun r25 =>
 (bo P .add 3 (.tmp 62) (.const (.int .i64 1)) r25.1 (.int .i64 1) r25.2).bind fun r26 =>
 (vl r26.1 r26.2).bind fun r27 =>
 Dr (AJ e [(57, r1.1), (58, r2.1), (59, r3.1), (60, r4.1), (61, r5.1), (64, r6.1), (65, r7.1), (66, r8.1), (67, r9.1), (68, r10.1), (8, r11.1), (69, r13.1), (70, r14.1), (71, r15.1), (72, r16.1), (73, r18.1), (74, r19.1), (75, r20.1), (76, r21.1), (77, r22.1), (78, r23.1), (62, r25.1), (63, r26.1), (7, r27.1)]) r27.2) (
 (ld P 77 (e 3) r5.2).bind fun r28 =>
 (st P 77 (e 2) r28.1 r28.2).bind fun r29 =>
 ((ld P 77 (e 2) r29.2).bind fun r30 => Aj (r30.2 = r29.2) (some r30.1)).bind fun v31 =>
 some (v31, r29.2)) := (Ay P (EV P) 75 80 (cA (cA (cB (cA (cB (cB (cB (cB (Ai P 75))))))))) e w (Ao 4 (AD P (EV P) 75 80 (cB (cB (cB (cB (cB (Ai P 75)))))) (Be P (AA P 75))))).trans (by kernel_rfl)
theorem K5 (x0 : Value) (w : World) : Bl P (EV P) 75 #[x0] w =
 (bx P 77 x0 w).bind fun r1 =>
 (al P 77 r1.2).bind fun r2 =>
 (bs P 23 0 #[] r2.2).bind fun r3 =>
 (fa P 77 r1.1 3 r3.2).bind fun r4 =>
 (ld P 23 r4.1 r4.2).bind fun r5 =>
 (Ar P #[23, 23] 23 #[r3.1, r5.1] r5.2).bind fun r6 =>
 (bd P 77 #[(3, r6.1)] r6.2).bind fun r7 =>
 (al P 77 r7.2).bind fun r8 =>
 (st P 77 r8.1 r7.1 r8.2).bind fun r9 =>
 (vl (.int .i64 0) r9.2).bind fun r10 =>
 Dn (AJ (AL #[x0]) [(1, r1.1), (2, r2.1), (9, r3.1), (10, r4.1), (11, r5.1), (12, r6.1), (13, r7.1), (3, r8.1), (4, r10.1)]) r10.2 := by kernel_rfl
noncomputable def Ds (e : Env) (w : World) : Option (Value × World) := Bu P (EV P) 76 35 (.loop (cA (cA (cB (cA (cB (cB (Ai P 76)))))))) e w (Ao 0 (AD P (EV P) 76 35 (cB (cB (cB (Ai P 76)))) (Be P (AA P 76))))
noncomputable def GI (e : Env) (w : World) : Option (Value × World) := Bu P (EV P) 76 35 (cA (cA (cA (cB (cA (cA (cB (cA (cB (cB (Ai P 76))))))))))) e w (AD P (EV P) 76 35 (cB (cA (cA (cB (cA (cA (cB (cA (cB (cB (Ai P 76))))))))))) (Ao 1 (AD P (EV P) 76 35 (cB (cB (cA (cA (cB (cA (cB (cB (Ai P 76))))))))) (F6 P (EV P) 76 35 (cA (cA (cB (cA (cB (cB (Ai P 76))))))) (Ao 0 (AD P (EV P) 76 35 (cB (cB (cB (Ai P 76)))) (Be P (AA P 76))))))))
noncomputable def Dt (e : Env) (w : World) : Option (Value × World) := Bu P (EV P) 76 35 (cB (cA (cA (cB (cA (cA (cB (cA (cB (cB (Ai P 76))))))))))) e w (Ao 1 (AD P (EV P) 76 35 (cB (cB (cA (cA (cB (cA (cB (cB (Ai P 76))))))))) (F6 P (EV P) 76 35 (cA (cA (cB (cA (cB (cB (Ai P 76))))))) (Ao 0 (AD P (EV P) 76 35 (cB (cB (cB (Ai P 76)))) (Be P (AA P 76)))))))
theorem Fh (e : Env) (w : World) : Ds e w =
 (vl (e 8) w).bind fun r1 =>
 (vl (e 2) r1.2).bind fun r2 =>
 (Au P #[109] 3 #[r2.1] r2.2).bind fun r3 =>
 (bo P .lss 3 (.tmp 14) (.tmp 16) r1.1 r3.1 r3.2).bind fun r4 =>
 (vl r4.1 r4.2).bind fun r5 =>
 (An r5.1 true (vl (e 8) r5.2) r5.2).bind fun r6 =>
 (An r5.1 true (bo P .lss 3 (.tmp 19) (.const (.int .i64 60)) r6.1 (.int .i64 60) r6.2) r6.2).bind fun r7 =>
 (Av r5.1 r7.1 (.bool false) r7.2).bind fun r8 =>
 AP r8.1 (
 GI (AJ e [(14, r1.1), (15, r2.1), (16, r3.1), (17, r4.1), (18, r5.1), (19, r6.1), (20, r7.1), (21, r8.1)]) r8.2) (
 (ld P 77 (e 7) r8.2).bind fun r9 =>
 (st P 77 (e 6) r9.1 r9.2).bind fun r10 =>
 ((ld P 77 (e 6) r10.2).bind fun r11 => Aj (r11.2 = r10.2) (some r11.1)).bind fun v12 =>
 some (v12, r10.2)) := (Ay P (EV P) 76 35 (cA (cA (cB (cA (cB (cB (Ai P 76))))))) e w (Ao 0 (AD P (EV P) 76 35 (cB (cB (cB (Ai P 76)))) (Be P (AA P 76))))).trans (by kernel_rfl)
theorem Ib (e : Env) (w : World) {Q : Value × World → Prop} (h :
 (Ag (ld P 77 (e 7) (dw w)) fun r1 => r1.2 = (dw w) ∧
 (Ag (vl (e 2) (dw w)) fun r2 => r2.2 = (dw w) ∧
 (Ag (vl (e 8) (dw w)) fun r3 => r3.2 = (dw w) ∧
 (Ag (ia P 109 r2.1 r3.1 (dw w)) fun r4 => r4.2 = (dw w) ∧
 (Ag (ld P 137 r4.1 (dw w)) fun r5 => r5.2 = (dw w) ∧
 ((Ag (EV P 100 #[r1.1, r5.1] (dw w)) fun r6 => (True ∧ True ∧ True ∧ True) ∧
 (Ag (vl r6.1 r6.2) fun r7 => r7.2 = r6.2 ∧
 (Ag (xt P r7.1 0 r6.2) fun r8 => r8.2 = r6.2 ∧
 (Ag (xt P r7.1 1 r6.2) fun r9 => r9.2 = r6.2 ∧
 ((Ag (al P 77 r6.2) fun r10 => (xt P r7.1 1 r10.2 = some (r9.1, r10.2) ∧ xt P r7.1 0 r10.2 = some (r8.1, r10.2) ∧ ld P 137 r4.1 r10.2 = some (r5.1, r10.2) ∧ ia P 109 r2.1 r3.1 r10.2 = some (r4.1, r10.2) ∧ ld P 77 (e 7) r10.2 = some (r1.1, r10.2) ∧ True) ∧
 ((Ag (st P 77 r10.1 r8.1 r10.2) fun r11 => (xt P r7.1 1 r11.2 = some (r9.1, r11.2) ∧ True ∧ True ∧ True ∧ True ∧ True) ∧
 (Ag (vl r9.1 r11.2) fun r12 => r12.2 = r11.2 ∧
 Ag (Dt (AJ e [(25, r1.1), (26, r2.1), (27, r3.1), (28, r4.1), (29, r5.1), (30, r6.1), (24, r7.1), (31, r8.1), (32, r9.1), (9, r10.1), (10, r12.1)]) r11.2) Q))))))))) ∧
 (Ag (al P 77 (dw w)) fun r13 => (ld P 137 r4.1 r13.2 = some (r5.1, r13.2) ∧ ia P 109 r2.1 r3.1 r13.2 = some (r4.1, r13.2) ∧ ld P 77 (e 7) r13.2 = some (r1.1, r13.2) ∧ True) ∧
 ((Ag (EV P 100 #[r1.1, r5.1] r13.2) fun r14 => (True ∧ True ∧ True ∧ True) ∧
 (Ag (vl r14.1 r14.2) fun r15 => r15.2 = r14.2 ∧
 (Ag (xt P r15.1 0 r14.2) fun r16 => r16.2 = r14.2 ∧
 (Ag (xt P r15.1 1 r14.2) fun r17 => r17.2 = r14.2 ∧
 ((Ag (st P 77 r13.1 r16.1 r14.2) fun r18 => (xt P r15.1 1 r18.2 = some (r17.1, r18.2) ∧ True ∧ True ∧ True ∧ True ∧ True) ∧
 (Ag (vl r17.1 r18.2) fun r19 => r19.2 = r18.2 ∧
 Ag (Dt (AJ e [(25, r1.1), (26, r2.1), (27, r3.1), (28, r4.1), (29, r5.1), (9, r13.1), (30, r14.1), (24, r15.1), (31, r16.1), (32, r17.1), (10, r19.1)]) r18.2) Q)))))))))))))))) : Ag (GI e w) Q := Gf (id := 5) (ops := opsOf (cA (cA (cA (cB (cA (cA (cB (cA (cB (cB (Ai P 76)))))))))))) (by kernel_rfl) (by kernel_rfl) (Eq.mpr (by kernel_rfl) h)
theorem IV (e : Env) (w : World) : Dt e w =
 (ld P 77 (e 9) w).bind fun r1 =>
 (st P 77 (e 7) r1.1 r1.2).bind fun r2 =>
 (vl (e 8) r2.2).bind fun r3 =>
 (bo P .add 3 (.tmp 22) (.const (.int .i64 1)) r3.1 (.int .i64 1) r3.2).bind fun r4 =>
 (vl r4.1 r4.2).bind fun r5 =>
 Ds (AJ e [(33, r1.1), (22, r3.1), (23, r4.1), (8, r5.1)]) r5.2 := by kernel_rfl
theorem K6 (x0 x1 x2 : Value) (w : World) : Bl P (EV P) 76 #[x0, x1, x2] w =
 (al P 77 w).bind fun r1 =>
 (vl x0 r1.2).bind fun r2 =>
 (vl x1 r2.2).bind fun r3 =>
 (EV P 99 #[r2.1, r3.1] r3.2).bind fun r4 =>
 (al P 77 r4.2).bind fun r5 =>
 (st P 77 r5.1 r4.1 r5.2).bind fun r6 =>
 (vl (.int .i64 0) r6.2).bind fun r7 =>
 Ds (AJ (AL #[x0, x1, x2]) [(6, r1.1), (11, r2.1), (12, r3.1), (13, r4.1), (7, r5.1), (8, r7.1)]) r7.2 := by kernel_rfl
noncomputable def Cv (e : Env) (w : World) : Option (Value × World) := Bu P (EV P) 77 17 (.loop (cA (cA (cB (cA (cB (cB (Ai P 77)))))))) e w (Ao 0 (AD P (EV P) 77 17 (cB (cB (cB (Ai P 77)))) (Be P (AA P 77))))
theorem Ep (e : Env) (w : World) : Cv e w =
 (vl (e 4) w).bind fun r1 =>
 (bo P .gtr 3 (.tmp 8) (.const (.int .i64 0)) r1.1 (.int .i64 0) r1.2).bind fun r2 =>
 AP r2.1 (
 (ld P 44 (e 3) (dw r2.2)).bind fun r4 =>
 Aj (r4.2 = (dw r2.2)) <|
 (vl (e 0) (dw r2.2)).bind fun r5 =>
 Aj (r5.2 = (dw r2.2)) <|
 (EV P 103 #[r5.1] (dw r2.2)).bind fun r6 =>
 Aj (ld P 44 (e 3) r6.2 = some (r4.1, r6.2) ∧ True) <|
 (EV P 102 #[r4.1, r6.1] r6.2).bind fun r7 =>
 Aj (True ∧ True) <|
 (st P 44 (e 3) r7.1 r7.2).bind fun r8 =>
 Aj (True ∧ True) <|
 (vl (e 4) r8.2).bind fun r9 =>
 (bo P .sub 3 (.tmp 10) (.const (.int .i64 1)) r9.1 (.int .i64 1) r9.2).bind fun r10 =>
 (vl r10.1 r10.2).bind fun r11 =>
 Cv (AJ e [(8, r1.1), (9, r2.1), (12, r4.1), (13, r5.1), (14, r6.1), (15, r7.1), (10, r9.1), (11, r10.1), (4, r11.1)]) r11.2) (
 (ld P 44 (e 3) r2.2).bind fun r12 =>
 (st P 44 (e 2) r12.1 r12.2).bind fun r13 =>
 ((ld P 44 (e 2) r13.2).bind fun r14 => Aj (r14.2 = r13.2) (some r14.1)).bind fun v15 =>
 some (v15, r13.2)) := (Ay P (EV P) 77 17 (cA (cA (cB (cA (cB (cB (Ai P 77))))))) e w (Ao 0 (AD P (EV P) 77 17 (cB (cB (cB (Ai P 77)))) (Be P (AA P 77))))).trans (by kernel_rfl)
theorem JC (x0 : Value) (w : World) : Bl P (EV P) 77 #[x0] w =
 (al P 44 w).bind fun r1 =>
 (EV P 101 #[] r1.2).bind fun r2 =>
 (al P 44 r2.2).bind fun r3 =>
 (st P 44 r3.1 r2.1 r3.2).bind fun r4 =>
 (vl x0 r4.2).bind fun r5 =>
 (EV P 42 #[r5.1, (.int .i64 7)] r5.2).bind fun r6 =>
 (vl r6.1 r6.2).bind fun r7 =>
 Cv (AJ (AL #[x0]) [(2, r1.1), (5, r2.1), (3, r3.1), (6, r5.1), (7, r6.1), (4, r7.1)]) r7.2 := by kernel_rfl
noncomputable def AS (e : Env) (w : World) : Option (Value × World) := Bu P (EV P) 78 46 (cB (cB (cB (Ai P 78)))) e w (Be P (AA P 78))
theorem GJ (e : Env) (w : World) : AS e w =
 (ld P 49 (e 3) w).bind fun r1 =>
 (st P 49 (e 2) r1.1 r1.2).bind fun r2 =>
 ((ld P 49 (e 2) r2.2).bind fun r3 => Aj (r3.2 = r2.2) (some r3.1)).bind fun v4 =>
 some (v4, r2.2) := by kernel_rfl
theorem IW (x0 : Value) (w : World) : Bl P (EV P) 78 #[x0] w =
 (al P 49 w).bind fun r1 =>
 (vl x0 r1.2).bind fun r2 =>
 (EV P 103 #[r2.1] r2.2).bind fun r3 =>
 (al P 49 r3.2).bind fun r4 =>
 (st P 49 r4.1 r3.1 r4.2).bind fun r5 =>
 (vl x0 r5.2).bind fun r6 =>
 (EV P 42 #[r6.1, (.int .i64 10)] r6.2).bind fun r7 =>
 (bo P .eql 3 (.tmp 7) (.const (.int .i64 0)) r7.1 (.int .i64 0) r7.2).bind fun r8 =>
 (vl r8.1 r8.2).bind fun r9 =>
 AP r9.1 (
 (vl x0 r9.2).bind fun r10 =>
 (bs P 64 2 #[(0, (.int .i64 (-1))), (1, (.int .i64 4))] r10.2).bind fun r11 =>
 (EV P 34 #[r10.1, r11.1] r11.2).bind fun r12 =>
 (fa P 49 r4.1 0 r12.2).bind fun r13 =>
 (st P 3 r13.1 r12.1 r13.2).bind fun r14 =>
 AS (AJ (AL #[x0]) [(2, r1.1), (4, r2.1), (5, r3.1), (3, r4.1), (6, r6.1), (7, r7.1), (9, r8.1), (8, r9.1), (10, r10.1), (11, r11.1), (12, r12.1), (13, r13.1)]) r14.2) (
 (bo P .eql 3 (.tmp 7) (.const (.int .i64 1)) r7.1 (.int .i64 1) r9.2).bind fun r15 =>
 (vl r15.1 r15.2).bind fun r16 =>
 AP r16.1 (
 (vl x0 r16.2).bind fun r17 =>
 (bs P 140 3 #[(0, (Go.Value.string { data := #[97, 32, 98] })), (1, (Go.Value.string { data := #[116, 111, 111, 108, 111, 110, 103, 101, 114] })), (2, (Go.Value.string { data := #[10] }))] r17.2).bind fun r18 =>
 (EV P 104 #[r17.1, r18.1] r18.2).bind fun r19 =>
 (fa P 49 r4.1 3 r19.2).bind fun r20 =>
 (st P 9 r20.1 r19.1 r20.2).bind fun r21 =>
 AS (AJ (AL #[x0]) [(2, r1.1), (4, r2.1), (5, r3.1), (3, r4.1), (6, r6.1), (7, r7.1), (9, r8.1), (8, r9.1), (15, r15.1), (14, r16.1), (16, r17.1), (17, r18.1), (18, r19.1), (19, r20.1)]) r21.2) (
 (bo P .eql 3 (.tmp 7) (.const (.int .i64 2)) r7.1 (.int .i64 2) r16.2).bind fun r22 =>
 (vl r22.1 r22.2).bind fun r23 =>
 AP r23.1 (
 (fa P 49 r4.1 2 r23.2).bind fun r24 =>
 (fa P 32 r24.1 0 r24.2).bind fun r25 =>
 (ld P 30 r25.1 r25.2).bind fun r26 =>
 (sl P 30 r26.1 (some (.int .i64 1)) none none r26.2).bind fun r27 =>
 (fa P 49 r4.1 2 r27.2).bind fun r28 =>
 (fa P 32 r28.1 0 r28.2).bind fun r29 =>
 (st P 30 r29.1 r27.1 r29.2).bind fun r30 =>
 AS (AJ (AL #[x0]) [(2, r1.1), (4, r2.1), (5, r3.1), (3, r4.1), (6, r6.1), (7, r7.1), (9, r8.1), (8, r9.1), (15, r15.1), (14, r16.1), (21, r22.1), (20, r23.1), (22, r24.1), (23, r25.1), (24, r26.1), (25, r27.1), (26, r28.1), (27, r29.1)]) r30.2) (
 (bo P .eql 3 (.tmp 7) (.const (.int .i64 3)) r7.1 (.int .i64 3) r23.2).bind fun r31 =>
 (vl r31.1 r31.2).bind fun r32 =>
 AP r32.1 (
 (fa P 49 r4.1 2 (dw r32.2)).bind fun r34 =>
 Aj (r34.2 = (dw r32.2)) <|
 (fa P 32 r34.1 0 (dw r32.2)).bind fun r35 =>
 Aj (r35.2 = (dw r32.2)) <|
 (ld P 30 r35.1 (dw r32.2)).bind fun r36 =>
 Aj (r36.2 = (dw r32.2)) <|
 (vl x0 (dw r32.2)).bind fun r37 =>
 Aj (r37.2 = (dw r32.2)) <|
 (bd P 36 #[(0, (.int .i64 50)), (1, (.int .i64 1))] (dw r32.2)).bind fun r38 =>
 Aj (r38.2 = (dw r32.2)) <|
 (EV P 42 #[r37.1, (.int .i64 4)] (dw r32.2)).bind fun r39 =>
 Aj (bd P 36 #[(0, (.int .i64 50)), (1, (.int .i64 1))] r39.2 = some (r38.1, r39.2) ∧ ld P 30 r35.1 r39.2 = some (r36.1, r39.2) ∧ fa P 32 r34.1 0 r39.2 = some (r35.1, r39.2) ∧ fa P 49 r4.1 2 r39.2 = some (r34.1, r39.2) ∧ True) <|
 (ia P 30 r36.1 r39.1 r39.2).bind fun r40 =>
 Aj (r40.2 = r39.2) <|
 (st P 36 r40.1 r38.1 r39.2).bind fun r41 =>
 Aj (True ∧ True ∧ True ∧ True ∧ True ∧ True) <|
 AS (AJ (AL #[x0]) [(2, r1.1), (4, r2.1), (5, r3.1), (3, r4.1), (6, r6.1), (7, r7.1), (9, r8.1), (8, r9.1), (15, r15.1), (14, r16.1), (21, r22.1), (20, r23.1), (29, r31.1), (28, r32.1), (30, r34.1), (31, r35.1), (32, r36.1), (33, r37.1), (35, r38.1), (34, r39.1), (36, r40.1)]) r41.2) (
 (bo P .eql 3 (.tmp 7) (.const (.int .i64 4)) r7.1 (.int .i64 4) r32.2).bind fun r42 =>
 (vl r42.1 r42.2).bind fun r43 =>
 AP r43.1 (
 (vl x0 r43.2).bind fun r44 =>
 (EV P 53 #[r44.1] r44.2).bind fun r45 =>
 (fa P 49 r4.1 1 r45.2).bind fun r46 =>
 (st P 36 r46.1 r45.1 r46.2).bind fun r47 =>
 AS (AJ (AL #[x0]) [(2, r1.1), (4, r2.1), (5, r3.1), (3, r4.1), (6, r6.1), (7, r7.1), (9, r8.1), (8, r9.1), (15, r15.1), (14, r16.1), (21, r22.1), (20, r23.1), (29, r31.1), (28, r32.1), (38, r42.1), (37, r43.1), (39, r44.1), (40, r45.1), (41, r46.1)]) r47.2) (
 (bo P .eql 3 (.tmp 7) (.const (.int .i64 5)) r7.1 (.int .i64 5) r43.2).bind fun r48 =>
 (vl r48.1 r48.2).bind fun r49 =>
 AP r49.1 (
 (fa P 49 r4.1 4 r49.2).bind fun r50 =>
 (st P 4 r50.1 (.bool true) r50.2).bind fun r51 =>
 AS (AJ (AL #[x0]) [(2, r1.1), (4, r2.1), (5, r3.1), (3, r4.1), (6, r6.1), (7, r7.1), (9, r8.1), (8, r9.1), (15, r15.1), (14, r16.1), (21, r22.1), (20, r23.1), (29, r31.1), (28, r32.1), (38, r42.1), (37, r43.1), (43, r48.1), (42, r49.1), (44, r50.1)]) r51.2) (
 AS (AJ (AL #[x0]) [(2, r1.1), (4, r2.1), (5, r3.1), (3, r4.1), (6, r6.1), (7, r7.1), (9, r8.1), (8, r9.1), (15, r15.1), (14, r16.1), (21, r22.1), (20, r23.1), (29, r31.1), (28, r32.1), (38, r42.1), (37, r43.1), (43, r48.1), (42, r49.1)]) r49.2)))))) := by kernel_rfl
theorem JD (x0 x1 : Value) (w : World) : Bl P (EV P) 79 #[x0, x1] w =
 (bx P 49 x0 w).bind fun r1 =>
 (bx P 49 x1 r1.2).bind fun r2 =>
 (vl (.bool false) r2.2).bind fun r3 =>
 (fa P 49 r1.1 0 r3.2).bind fun r4 =>
 (ld P 3 r4.1 r4.2).bind fun r5 =>
 (fa P 49 r2.1 0 r5.2).bind fun r6 =>
 (ld P 3 r6.1 r6.2).bind fun r7 =>
 (bo P .eql 3 (.tmp 6) (.tmp 8) r5.1 r7.1 r7.2).bind fun r8 =>
 (vl r8.1 r8.2).bind fun r9 =>
 (An r9.1 true (fa P 49 r1.1 1 r9.2) r9.2).bind fun r10 =>
 (An r9.1 true (ld P 36 r10.1 r10.2) r10.2).bind fun r11 =>
 (An r9.1 true (fa P 49 r2.1 1 r11.2) r11.2).bind fun r12 =>
 (An r9.1 true (ld P 36 r12.1 r12.2) r12.2).bind fun r13 =>
 (An r9.1 true (bo P .eql 36 (.tmp 12) (.tmp 14) r11.1 r13.1 r13.2) r13.2).bind fun r14 =>
 (Av r9.1 r14.1 (.bool false) r14.2).bind fun r15 =>
 (vl r15.1 r15.2).bind fun r16 =>
 (An r16.1 true (fa P 49 r1.1 2 r16.2) r16.2).bind fun r17 =>
 (An r16.1 true (fa P 32 r17.1 0 r17.2) r17.2).bind fun r18 =>
 (An r16.1 true (ld P 30 r18.1 r18.2) r18.2).bind fun r19 =>
 (An r16.1 true (fa P 49 r2.1 2 r19.2) r19.2).bind fun r20 =>
 (An r16.1 true (fa P 32 r20.1 0 r20.2) r20.2).bind fun r21 =>
 (An r16.1 true (ld P 30 r21.1 r21.2) r21.2).bind fun r22 =>
 (An r16.1 true (EV P 105 #[r19.1, r22.1] r22.2) r22.2).bind fun r23 =>
 (Av r16.1 r23.1 (.bool false) r23.2).bind fun r24 =>
 (vl r24.1 r24.2).bind fun r25 =>
 (An r25.1 true (fa P 49 r1.1 3 r25.2) r25.2).bind fun r26 =>
 (An r25.1 true (ld P 9 r26.1 r26.2) r26.2).bind fun r27 =>
 (An r25.1 true (fa P 49 r2.1 3 r27.2) r27.2).bind fun r28 =>
 (An r25.1 true (ld P 9 r28.1 r28.2) r28.2).bind fun r29 =>
 (An r25.1 true (bo P .eql 9 (.tmp 28) (.tmp 30) r27.1 r29.1 r29.2) r29.2).bind fun r30 =>
 (Av r25.1 r30.1 (.bool false) r30.2).bind fun r31 =>
 (vl r31.1 r31.2).bind fun r32 =>
 (An r32.1 true (fa P 49 r1.1 4 r32.2) r32.2).bind fun r33 =>
 (An r32.1 true (ld P 4 r33.1 r33.2) r33.2).bind fun r34 =>
 (An r32.1 true (fa P 49 r2.1 4 r34.2) r34.2).bind fun r35 =>
 (An r32.1 true (ld P 4 r35.1 r35.2) r35.2).bind fun r36 =>
 (An r32.1 true (bo P .eql 4 (.tmp 35) (.tmp 37) r34.1 r36.1 r36.2) r36.2).bind fun r37 =>
 (Av r32.1 r37.1 (.bool false) r37.2).bind fun r38 =>
 (vl r38.1 r38.2).bind fun r39 =>
 some (r39.1, r39.2) := by kernel_rfl
theorem Mm (x0 : Value) (w : World) : Bl P (EV P) 80 #[x0] w =
 (bx P 49 x0 w).bind fun r1 =>
 (vl (.bool false) r1.2).bind fun r2 =>
 (ld P 49 r1.1 (dw r2.2)).bind fun r4 =>
 Aj (r4.2 = (dw r2.2)) <|
 (EV P 106 #[r4.1] (dw r2.2)).bind fun r5 =>
 Aj (True ∧ True) <|
 (vl r5.1 r5.2).bind fun r6 =>
 Aj (r6.2 = r5.2) <|
 (An r6.1 true (fa P 49 r1.1 1 r5.2) r5.2).bind fun r7 =>
 Aj (r7.2 = r5.2) <|
 (An r6.1 true (ld P 36 r7.1 r5.2) r5.2).bind fun r8 =>
 Aj (r8.2 = r5.2) <|
 (An r6.1 true (EV P 57 #[r8.1] r5.2) r5.2).bind fun r9 =>
 Aj (True ∧ True ∧ True ∧ True) <|
 (Av r6.1 r9.1 (.bool false) r9.2).bind fun r10 =>
 Aj (r10.2 = r9.2) <|
 (vl r10.1 r9.2).bind fun r11 =>
 Aj (r11.2 = r9.2) <|
 (An r11.1 true (fa P 49 r1.1 1 r9.2) r9.2).bind fun r12 =>
 Aj (r12.2 = r9.2) <|
 (An r11.1 true (fa P 36 r12.1 0 r9.2) r9.2).bind fun r13 =>
 Aj (r13.2 = r9.2) <|
 (An r11.1 true (ld P 3 r13.1 r9.2) r9.2).bind fun r14 =>
 Aj (r14.2 = r9.2) <|
 (An r11.1 true (fa P 49 r1.1 2 r9.2) r9.2).bind fun r15 =>
 Aj (r15.2 = r9.2) <|
 (An r11.1 true (ld P 32 r15.1 r9.2) r9.2).bind fun r16 =>
 Aj (r16.2 = r9.2) <|
 (An r11.1 true (EV P 89 #[r16.1] r9.2) r9.2).bind fun r17 =>
 Aj (True ∧ True ∧ An r11.1 true (ld P 3 r13.1 r17.2) r17.2 = some (r14.1, r17.2) ∧ An r11.1 true (fa P 36 r12.1 0 r17.2) r17.2 = some (r13.1, r17.2) ∧ An r11.1 true (fa P 49 r1.1 1 r17.2) r17.2 = some (r12.1, r17.2) ∧ True ∧ True ∧ True ∧ True) <|
 (An r11.1 true (bo P .gtr 3 (.tmp 13) (.tmp 16) r14.1 r17.1 r17.2) r17.2).bind fun r18 =>
 Aj (r18.2 = r17.2) <|
 (Av r11.1 r18.1 (.bool false) r17.2).bind fun r19 =>
 Aj (r19.2 = r17.2) <|
 (vl r19.1 r17.2).bind fun r20 =>
 Aj (r20.2 = r17.2) <|
 some (r20.1, r17.2) := by kernel_rfl
noncomputable def Bq (e : Env) (w : World) : Option (Value × World) := Bu P (EV P) 81 19 (.loop (cA (cA (cB (cA (cB (Ai P 81))))))) e w (Ao 0 (AD P (EV P) 81 19 (cB (cB (Ai P 81))) (Be P (AA P 81))))
theorem Cn (e : Env) (w : World) : Bq e w =
 (bo P .lss 3 (.tmp 8) (.tmp 7) (e 8) (e 7) w).bind fun r1 =>
 AP r1.1 (
 (vl (e 8) r1.2).bind fun r2 =>
 (vl r2.1 r2.2).bind fun r3 =>
 (vl (e 1) r3.2).bind fun r4 =>
 (vl (e 0) r4.2).bind fun r5 =>
 (vl r3.1 r5.2).bind fun r6 =>
 (ia P 42 r5.1 r6.1 r6.2).bind fun r7 =>
 (ld P 49 r7.1 r7.2).bind fun r8 =>
 (QA P r4.1 #[r8.1] r8.2).bind fun r9 =>
 AP r9.1 (
 (vl r3.1 r9.2).bind fun r10 =>
 (vl r10.1 r10.2).bind fun r11 =>
 some (r11.1, r11.2)) (
 (bo P .add 3 (.tmp 8) (.const (.int .i64 1)) (e 8) (.int .i64 1) r9.2).bind fun r12 =>
 (vl r12.1 r12.2).bind fun r13 =>
 Bq (AJ e [(9, r1.1), (10, r2.1), (5, r3.1), (11, r4.1), (12, r5.1), (13, r6.1), (14, r7.1), (15, r8.1), (16, r9.1), (18, r12.1), (8, r13.1)]) r13.2)) (
 (vl (.int .i64 (-1)) r1.2).bind fun r14 =>
 some (r14.1, r14.2)) := (Ay P (EV P) 81 19 (cA (cA (cB (cA (cB (Ai P 81)))))) e w (Ao 0 (AD P (EV P) 81 19 (cB (cB (Ai P 81))) (Be P (AA P 81))))).trans (by kernel_rfl)
theorem FR (x0 x1 : Value) (w : World) : Bl P (EV P) 81 #[x0, x1] w =
 (vl (.int .i64 0) w).bind fun r1 =>
 (vl x0 r1.2).bind fun r2 =>
 (Au P #[42] 3 #[r2.1] r2.2).bind fun r3 =>
 (vl (.int .i64 0) r3.2).bind fun r4 =>
 Bq (AJ (AL #[x0, x1]) [(4, r1.1), (6, r2.1), (7, r3.1), (8, r4.1)]) r4.2 := by kernel_rfl
noncomputable def Du (e : Env) (w : World) : Option (Value × World) := Bu P (EV P) 82 56 (.loop (cA (cA (cB (cA (cB (cB (Ai P 82)))))))) e w (Ao 0 (AD P (EV P) 82 56 (cB (cB (cB (Ai P 82)))) (Be P (AA P 82))))
theorem Gr (e : Env) (w : World) : Du e w =
 (vl (e 3) w).bind fun r1 =>
 (bo P .lss 3 (.tmp 41) (.const (.int .i64 4)) r1.1 (.int .i64 4) r1.2).bind fun r2 =>
 AP r2.1 (
 (fa P 49 (e 1) 2 (dw r2.2)).bind fun r4 =>
 Aj (r4.2 = (dw r2.2)) <|
 (fa P 32 r4.1 0 (dw r2.2)).bind fun r5 =>
 Aj (r5.2 = (dw r2.2)) <|
 (ld P 30 r5.1 (dw r2.2)).bind fun r6 =>
 Aj (r6.2 = (dw r2.2)) <|
 (vl (e 3) (dw r2.2)).bind fun r7 =>
 Aj (r7.2 = (dw r2.2)) <|
 (ia P 30 r6.1 r7.1 (dw r2.2)).bind fun r8 =>
 Aj (r8.2 = (dw r2.2)) <|
 (fa P 36 r8.1 0 (dw r2.2)).bind fun r9 =>
 Aj (r9.2 = (dw r2.2)) <|
 (ld P 3 r9.1 (dw r2.2)).bind fun r10 =>
 Aj (r10.2 = (dw r2.2)) <|
 (fa P 49 (e 1) 1 (dw r2.2)).bind fun r11 =>
 Aj (r11.2 = (dw r2.2)) <|
 (fa P 36 r11.1 0 (dw r2.2)).bind fun r12 =>
 Aj (r12.2 = (dw r2.2)) <|
 (ld P 3 r12.1 (dw r2.2)).bind fun r13 =>
 Aj (r13.2 = (dw r2.2)) <|
 (bo P .geq 3 (.tmp 51) (.tmp 54) r10.1 r13.1 (dw r2.2)).bind fun r14 =>
 Aj (r14.2 = (dw r2.2)) <|
 AP r14.1 (
 (vl (.bool false) (dw r2.2)).bind fun r15 =>
 some (r15.1, r15.2)) (
 (vl (e 3) (dw r2.2)).bind fun r16 =>
 (bo P .add 3 (.tmp 43) (.const (.int .i64 1)) r16.1 (.int .i64 1) r16.2).bind fun r17 =>
 (vl r17.1 r17.2).bind fun r18 =>
 Du (AJ e [(41, r1.1), (42, r2.1), (45, r4.1), (46, r5.1), (47, r6.1), (48, r7.1), (49, r8.1), (50, r9.1), (51, r10.1), (52, r11.1), (53, r12.1), (54, r13.1), (55, r14.1), (43, r16.1), (44, r17.1), (3, r18.1)]) r18.2)) (
 (vl (.bool true) r2.2).bind fun r19 =>
 some (r19.1, r19.2)) := (Ay P (EV P) 82 56 (cA (cA (cB (cA (cB (cB (Ai P 82))))))) e w (Ao 0 (AD P (EV P) 82 56 (cB (cB (cB (Ai P 82)))) (Be P (AA P 82))))).trans (by kernel_rfl)
theorem Ns (x0 : Value) (w : World) : Bl P (EV P) 82 #[x0] w =
 (bx P 49 x0 w).bind fun r1 =>
 (vl (.bool false) r1.2).bind fun r2 =>
 (fa P 49 r1.1 0 r2.2).bind fun r3 =>
 (ld P 3 r3.1 r3.2).bind fun r4 =>
 (EV P 37 #[r4.1, (.int .i64 0), (.int .i64 3)] r4.2).bind fun r5 =>
 (uo P .not r5.1 r5.2).bind fun r6 =>
 (vl r6.1 r6.2).bind fun r7 =>
 (An r7.1 false (fa P 49 r1.1 3 r7.2) r7.2).bind fun r8 =>
 (An r7.1 false (ld P 9 r8.1 r8.2) r8.2).bind fun r9 =>
 (An r7.1 false (EV P 107 #[r9.1] r9.2) r9.2).bind fun r10 =>
 (An r7.1 false (uo P .not r10.1 r10.2) r10.2).bind fun r11 =>
 (Av r7.1 (.bool true) r11.1 r11.2).bind fun r12 =>
 (vl r12.1 r12.2).bind fun r13 =>
 (An r13.1 false (fa P 49 r1.1 1 r13.2) r13.2).bind fun r14 =>
 (An r13.1 false (ld P 36 r14.1 r14.2) r14.2).bind fun r15 =>
 (An r13.1 false (EV P 92 #[r15.1] r15.2) r15.2).bind fun r16 =>
 (An r13.1 false (uo P .not r16.1 r16.2) r16.2).bind fun r17 =>
 (Av r13.1 (.bool true) r17.1 r17.2).bind fun r18 =>
 (vl r18.1 r18.2).bind fun r19 =>
 (An r19.1 false (fa P 49 r1.1 1 r19.2) r19.2).bind fun r20 =>
 (An r19.1 false (fa P 36 r20.1 0 r20.2) r20.2).bind fun r21 =>
 (An r19.1 false (ld P 3 r21.1 r21.2) r21.2).bind fun r22 =>
 (An r19.1 false (bo P .eql 3 (.tmp 23) (.const (.int .i64 0)) r22.1 (.int .i64 0) r22.2) r22.2).bind fun r23 =>
 (Av r19.1 (.bool true) r23.1 r23.2).bind fun r24 =>
 (vl r24.1 r24.2).bind fun r25 =>
 (An r25.1 false (fa P 49 r1.1 4 r25.2) r25.2).bind fun r26 =>
 (An r25.1 false (ld P 4 r26.1 r26.2) r26.2).bind fun r27 =>
 (An r25.1 false (vl r27.1 r27.2) r27.2).bind fun r28 =>
 (An r28.1 true (fa P 49 r1.1 3 r28.2) r28.2).bind fun r29 =>
 (An r28.1 true (ld P 9 r29.1 r29.2) r29.2).bind fun r30 =>
 (An r28.1 true (bo P .neq 9 (.tmp 31) (.const (Go.Value.string { data := #[] })) r30.1 (Go.Value.string { data := #[] }) r30.2) r30.2).bind fun r31 =>
 (An r25.1 false (Av r28.1 r31.1 (.bool false) r31.2) r31.2).bind fun r32 =>
 (Av r25.1 (.bool true) r32.1 r32.2).bind fun r33 =>
 (vl r33.1 r33.2).bind fun r34 =>
 (An r34.1 false (fa P 49 r1.1 2 r34.2) r34.2).bind fun r35 =>
 (An r34.1 false (ld P 32 r35.1 r35.2) r35.2).bind fun r36 =>
 (An r34.1 false (EV P 108 #[r36.1] r36.2) r36.2).bind fun r37 =>
 (An r34.1 false (uo P .not r37.1 r37.2) r37.2).bind fun r38 =>
 (Av r34.1 (.bool true) r38.1 r38.2).bind fun r39 =>
 AP r39.1 (
 (vl (.bool false) r39.2).bind fun r40 =>
 some (r40.1, r40.2)) (
 (vl (.int .i64 0) r39.2).bind fun r41 =>
 Du (AJ (AL #[x0]) [(1, r1.1), (2, r2.1), (4, r3.1), (5, r4.1), (6, r5.1), (7, r6.1), (8, r7.1), (9, r8.1), (10, r9.1), (11, r10.1), (12, r11.1), (13, r12.1), (14, r13.1), (15, r14.1), (16, r15.1), (17, r16.1), (18, r17.1), (19, r18.1), (20, r19.1), (21, r20.1), (22, r21.1), (23, r22.1), (24, r23.1), (25, r24.1), (26, r25.1), (27, r26.1), (28, r27.1), (29, r28.1), (30, r29.1), (31, r30.1), (32, r31.1), (33, r32.1), (34, r33.1), (35, r34.1), (36, r35.1), (37, r36.1), (38, r37.1), (39, r38.1), (40, r39.1), (3, r41.1)]) r41.2) := by kernel_rfl
noncomputable def Dw (e : Env) (w : World) : Option (Value × World) := Bu P (EV P) 83 25 (.loop (cA (cA (cB (cA (cB (cB (Ai P 83)))))))) e w (Ao 0 (AD P (EV P) 83 25 (cB (cB (cB (Ai P 83)))) (Be P (AA P 83))))
theorem Fi (e : Env) (w : World) : Dw e w =
 (vl (e 4) w).bind fun r1 =>
 (fa P 44 (e 1) 0 r1.2).bind fun r2 =>
 (ld P 42 r2.1 r2.2).bind fun r3 =>
 (Au P #[42] 3 #[r3.1] r3.2).bind fun r4 =>
 (bo P .lss 3 (.tmp 6) (.tmp 9) r1.1 r4.1 r4.2).bind fun r5 =>
 AP r5.1 (
 (fa P 32 (e 3) 0 (dw r5.2)).bind fun r7 =>
 Aj (r7.2 = (dw r5.2)) <|
 (ld P 30 r7.1 (dw r5.2)).bind fun r8 =>
 Aj (r8.2 = (dw r5.2)) <|
 (fa P 44 (e 1) 0 (dw r5.2)).bind fun r9 =>
 Aj (r9.2 = (dw r5.2)) <|
 (ld P 42 r9.1 (dw r5.2)).bind fun r10 =>
 Aj (r10.2 = (dw r5.2)) <|
 (vl (e 4) (dw r5.2)).bind fun r11 =>
 Aj (r11.2 = (dw r5.2)) <|
 (ia P 42 r10.1 r11.1 (dw r5.2)).bind fun r12 =>
 Aj (r12.2 = (dw r5.2)) <|
 (fa P 49 r12.1 1 (dw r5.2)).bind fun r13 =>
 Aj (r13.2 = (dw r5.2)) <|
 (ld P 36 r13.1 (dw r5.2)).bind fun r14 =>
 Aj (r14.2 = (dw r5.2)) <|
 (bs P 30 1 #[(0, r14.1)] (dw r5.2)).bind fun r15 =>
 Aj (True ∧ True ∧ True ∧ True ∧ True ∧ ld P 30 r7.1 r15.2 = some (r8.1, r15.2) ∧ fa P 32 (e 3) 0 r15.2 = some (r7.1, r15.2) ∧ True) <|
 (Ar P #[30, 30] 30 #[r8.1, r15.1] r15.2).bind fun r16 =>
 Aj (True ∧ True ∧ True ∧ True ∧ True ∧ True ∧ True ∧ True) <|
 (fa P 32 (e 3) 0 r16.2).bind fun r17 =>
 Aj (r17.2 = r16.2) <|
 (st P 30 r17.1 r16.1 r16.2).bind fun r18 =>
 Aj (True ∧ True ∧ True ∧ True ∧ True ∧ True ∧ True ∧ True ∧ True) <|
 (vl (e 4) r18.2).bind fun r19 =>
 (bo P .add 3 (.tmp 11) (.const (.int .i64 1)) r19.1 (.int .i64 1) r19.2).bind fun r20 =>
 (vl r20.1 r20.2).bind fun r21 =>
 Dw (AJ e [(6, r1.1), (7, r2.1), (8, r3.1), (9, r4.1), (10, r5.1), (13, r7.1), (14, r8.1), (15, r9.1), (16, r10.1), (17, r11.1), (18, r12.1), (19, r13.1), (20, r14.1), (21, r15.1), (22, r16.1), (23, r17.1), (11, r19.1), (12, r20.1), (4, r21.1)]) r21.2) (
 (ld P 32 (e 3) r5.2).bind fun r22 =>
 (st P 32 (e 2) r22.1 r22.2).bind fun r23 =>
 ((ld P 32 (e 2) r23.2).bind fun r24 => Aj (r24.2 = r23.2) (some r24.1)).bind fun v25 =>
 some (v25, r23.2)) := (Ay P (EV P) 83 25 (cA (cA (cB (cA (cB (cB (Ai P 83))))))) e w (Ao 0 (AD P (EV P) 83 25 (cB (cB (cB (Ai P 83)))) (Be P (AA P 83))))).trans (by kernel_rfl)
theorem K7 (x0 : Value) (w : World) : Bl P (EV P) 83 #[x0] w =
 (bx P 44 x0 w).bind fun r1 =>
 (al P 32 r1.2).bind fun r2 =>
 (bd P 32 #[] r2.2).bind fun r3 =>
 (al P 32 r3.2).bind fun r4 =>
 (st P 32 r4.1 r3.1 r4.2).bind fun r5 =>
 (vl (.int .i64 0) r5.2).bind fun r6 =>
 Dw (AJ (AL #[x0]) [(1, r1.1), (2, r2.1), (5, r3.1), (3, r4.1), (4, r6.1)]) r6.2 := by kernel_rfl
noncomputable def Cw (e : Env) (w : World) : Option (Value × World) := Bu P (EV P) 84 21 (.loop (cA (cA (cB (cA (cB (Ai P 84))))))) e w (Ao 0 (AD P (EV P) 84 21 (cB (cB (Ai P 84))) (Be P (AA P 84))))
theorem Er (e : Env) (w : World) : Cw e w =
 (vl (e 5) w).bind fun r1 =>
 (bo P .lss 3 (.tmp 6) (.const (.int .i64 4)) r1.1 (.int .i64 4) r1.2).bind fun r2 =>
 AP r2.1 (
 (fa P 32 (e 3) 0 (dw r2.2)).bind fun r4 =>
 Aj (r4.2 = (dw r2.2)) <|
 (ld P 30 r4.1 (dw r2.2)).bind fun r5 =>
 Aj (r5.2 = (dw r2.2)) <|
 (vl (e 5) (dw r2.2)).bind fun r6 =>
 Aj (r6.2 = (dw r2.2)) <|
 (ia P 30 r5.1 r6.1 (dw r2.2)).bind fun r7 =>
 Aj (r7.2 = (dw r2.2)) <|
 (ld P 36 r7.1 (dw r2.2)).bind fun r8 =>
 Aj (r8.2 = (dw r2.2)) <|
 (fa P 32 (e 2) 0 (dw r2.2)).bind fun r9 =>
 Aj (r9.2 = (dw r2.2)) <|
 (ld P 30 r9.1 (dw r2.2)).bind fun r10 =>
 Aj (r10.2 = (dw r2.2)) <|
 (vl (e 5) (dw r2.2)).bind fun r11 =>
 Aj (r11.2 = (dw r2.2)) <|
 (ia P 30 r10.1 r11.1 (dw r2.2)).bind fun r12 =>
 Aj (r12.2 = (dw r2.2)) <|
 (ld P 36 r12.1 (dw r2.2)).bind fun r13 =>
 Aj (r13.2 = (dw r2.2)) <|
 (EV P 63 #[r8.1, r13.1] (dw r2.2)).bind fun r14 =>
 Aj (True ∧ True ∧ True ∧ True ∧ True ∧ True ∧ True ∧ True ∧ True) <|
 AP r14.1 (
 (vl (.bool false) r14.2).bind fun r15 =>
 some (r15.1, r15.2)) (
 (vl (e 5) r14.2).bind fun r16 =>
 (bo P .add 3 (.tmp 8) (.const (.int .i64 1)) r16.1 (.int .i64 1) r16.2).bind fun r17 =>
 (vl r17.1 r17.2).bind fun r18 =>
 Cw (AJ e [(6, r1.1), (7, r2.1), (10, r4.1), (11, r5.1), (12, r6.1), (13, r7.1), (14, r8.1), (15, r9.1), (16, r10.1), (17, r11.1), (18, r12.1), (19, r13.1), (20, r14.1), (8, r16.1), (9, r17.1), (5, r18.1)]) r18.2)) (
 (vl (.bool true) r2.2).bind fun r19 =>
 some (r19.1, r19.2)) := (Ay P (EV P) 84 21 (cA (cA (cB (cA (cB (Ai P 84)))))) e w (Ao 0 (AD P (EV P) 84 21 (cB (cB (Ai P 84))) (Be P (AA P 84))))).trans (by kernel_rfl)
theorem JE (x0 x1 : Value) (w : World) : Bl P (EV P) 84 #[x0, x1] w =
 (bx P 32 x0 w).bind fun r1 =>
 (bx P 32 x1 r1.2).bind fun r2 =>
 (vl (.bool false) r2.2).bind fun r3 =>
 (vl (.int .i64 0) r3.2).bind fun r4 =>
 Cw (AJ (AL #[x0, x1]) [(2, r1.1), (3, r2.1), (4, r3.1), (5, r4.1)]) r4.2 := by kernel_rfl
noncomputable def BX (e : Env) (w : World) : Option (Value × World) := Bu P (EV P) 85 22 (.loop (cA (cA (cB (cA (cB (cB (Ai P 85)))))))) e w (Ao 0 (AD P (EV P) 85 22 (cB (cB (cB (Ai P 85)))) (Be P (AA P 85))))
theorem DL (e : Env) (w : World) : BX e w =
 (bo P .lss 3 (.tmp 11) (.tmp 10) (e 11) (e 10) w).bind fun r1 =>
 AP r1.1 (
 (ia P 42 (e 9) (e 11) r1.2).bind fun r2 =>
 (ld P 49 r2.1 r2.2).bind fun r3 =>
 (al P 49 r3.2).bind fun r4 =>
 (st P 49 r4.1 r3.1 r4.2).bind fun r5 =>
 (vl (e 3) r5.2).bind fun r6 =>
 (ld P 49 r4.1 r6.2).bind fun r7 =>
 (EV P 52 #[r7.1] r7.2).bind fun r8 =>
 (bs P 42 1 #[(0, r8.1)] r8.2).bind fun r9 =>
 (Ar P #[42, 42] 42 #[r6.1, r9.1] r9.2).bind fun r10 =>
 (vl r10.1 r10.2).bind fun r11 =>
 (bo P .add 3 (.tmp 11) (.const (.int .i64 1)) (e 11) (.int .i64 1) r11.2).bind fun r12 =>
 (vl r12.1 r12.2).bind fun r13 =>
 BX (AJ e [(12, r1.1), (13, r2.1), (14, r3.1), (5, r4.1), (15, r6.1), (16, r7.1), (17, r8.1), (18, r9.1), (19, r10.1), (3, r11.1), (20, r12.1), (11, r13.1)]) r13.2) (
 (vl (e 3) r1.2).bind fun r14 =>
 (vl r14.1 r14.2).bind fun r15 =>
 some (r15.1, r15.2)) := (Ay P (EV P) 85 22 (cA (cA (cB (cA (cB (cB (Ai P 85))))))) e w (Ao 0 (AD P (EV P) 85 22 (cB (cB (cB (Ai P 85)))) (Be P (AA P 85))))).trans (by kernel_rfl)
theorem Ic (x0 : Value) (w : World) : Bl P (EV P) 85 #[x0] w =
 (vl (Go.Value.slice none 0 0) w).bind fun r1 =>
 (vl x0 r1.2).bind fun r2 =>
 (Au P #[42] 3 #[r2.1] r2.2).bind fun r3 =>
 (ms P 42 (.int .i64 0) r3.1 r3.2).bind fun r4 =>
 (vl r4.1 r4.2).bind fun r5 =>
 (vl x0 r5.2).bind fun r6 =>
 (Au P #[42] 3 #[r6.1] r6.2).bind fun r7 =>
 (vl (.int .i64 0) r7.2).bind fun r8 =>
 BX (AJ (AL #[x0]) [(2, r1.1), (6, r2.1), (7, r3.1), (8, r4.1), (3, r5.1), (9, r6.1), (10, r7.1), (11, r8.1)]) r8.2 := by kernel_rfl
theorem K8 (x0 : Value) (w : World) : Bl P (EV P) 86 #[x0] w =
 (al P 36 w).bind fun r1 =>
 (vl x0 r1.2).bind fun r2 =>
 (EV P 42 #[r2.1, (.int .i64 3)] r2.2).bind fun r3 =>
 (bo P .eql 3 (.tmp 4) (.const (.int .i64 0)) r3.1 (.int .i64 0) r3.2).bind fun r4 =>
 AP r4.1 (
 (bd P 36 #[] r4.2).bind fun r5 =>
 (st P 36 r1.1 r5.1 r5.2).bind fun r6 =>
 ((ld P 36 r1.1 r6.2).bind fun r7 => Aj (r7.2 = r6.2) (some r7.1)).bind fun v8 =>
 some (v8, r6.2)) (
 (vl x0 r4.2).bind fun r9 =>
 (EV P 42 #[r9.1, (.int .i64 9)] r9.2).bind fun r10 =>
 (bo P .add 3 (.const (.int .i64 1)) (.tmp 8) (.int .i64 1) r10.1 r10.2).bind fun r11 =>
 (vl x0 r11.2).bind fun r12 =>
 (EV P 42 #[r12.1, (.int .i64 3)] r12.2).bind fun r13 =>
 (bd P 36 #[(0, r11.1), (1, r13.1)] r13.2).bind fun r14 =>
 (st P 36 r1.1 r14.1 r14.2).bind fun r15 =>
 ((ld P 36 r1.1 r15.2).bind fun r16 => Aj (r16.2 = r15.2) (some r16.1)).bind fun v17 =>
 some (v17, r15.2)) := by kernel_rfl
theorem Ko (x0 : Value) (w : World) : Bl P (EV P) 88 #[x0] w =
 (vl (.bool false) w).bind fun r1 =>
 (vl x0 r1.2).bind fun r2 =>
 (EV P 35 #[r2.1, (.int .i64 0), (.int .i64 2)] r2.2).bind fun r3 =>
 (vl r3.1 r3.2).bind fun r4 =>
 some (r4.1, r4.2) := by kernel_rfl
noncomputable def BL (e : Env) (w : World) : Option (Value × World) := Bu P (EV P) 89 19 (.loop (cA (cA (cB (cA (cB (cB (Ai P 89)))))))) e w (Ao 0 (AD P (EV P) 89 19 (cB (cB (cB (Ai P 89)))) (Be P (AA P 89))))
theorem Dx (e : Env) (w : World) : BL e w =
 (bo P .lss 3 (.tmp 9) (.tmp 8) (e 9) (e 8) w).bind fun r1 =>
 AP r1.1 (
 (ia P 30 (e 7) (e 9) r1.2).bind fun r2 =>
 (ld P 36 r2.1 r2.2).bind fun r3 =>
 (al P 36 r3.2).bind fun r4 =>
 (st P 36 r4.1 r3.1 r4.2).bind fun r5 =>
 (vl (e 3) r5.2).bind fun r6 =>
 (fa P 36 r4.1 0 r6.2).bind fun r7 =>
 (ld P 3 r7.1 r7.2).bind fun r8 =>
 (Rn P #[3, 3] 3 #[r6.1, r8.1] r8.2).bind fun r9 =>
 (vl r9.1 r9.2).bind fun r10 =>
 (bo P .add 3 (.tmp 9) (.const (.int .i64 1)) (e 9) (.int .i64 1) r10.2).bind fun r11 =>
 (vl r11.1 r11.2).bind fun r12 =>
 BL (AJ e [(10, r1.1), (11, r2.1), (12, r3.1), (5, r4.1), (13, r6.1), (14, r7.1), (15, r8.1), (16, r9.1), (3, r10.1), (17, r11.1), (9, r12.1)]) r12.2) (
 (vl (e 3) r1.2).bind fun r13 =>
 (vl r13.1 r13.2).bind fun r14 =>
 some (r14.1, r14.2)) := (Ay P (EV P) 89 19 (cA (cA (cB (cA (cB (cB (Ai P 89))))))) e w (Ao 0 (AD P (EV P) 89 19 (cB (cB (cB (Ai P 89)))) (Be P (AA P 89))))).trans (by kernel_rfl)
theorem Hx (x0 : Value) (w : World) : Bl P (EV P) 89 #[x0] w =
 (bx P 32 x0 w).bind fun r1 =>
 (vl (.int .i64 0) r1.2).bind fun r2 =>
 (vl (.int .i64 0) r2.2).bind fun r3 =>
 (fa P 32 r1.1 0 r3.2).bind fun r4 =>
 (ld P 30 r4.1 r4.2).bind fun r5 =>
 (Au P #[30] 3 #[r5.1] r5.2).bind fun r6 =>
 (vl (.int .i64 0) r6.2).bind fun r7 =>
 BL (AJ (AL #[x0]) [(1, r1.1), (2, r2.1), (3, r3.1), (6, r4.1), (7, r5.1), (8, r6.1), (9, r7.1)]) r7.2 := by kernel_rfl
theorem Kp (x0 : Value) (w : World) : Bl P (EV P) 92 #[x0] w =
 (bx P 36 x0 w).bind fun r1 =>
 (vl (.bool false) r1.2).bind fun r2 =>
 (ld P 36 r1.1 r2.2).bind fun r3 =>
 (bd P 36 #[] r3.2).bind fun r4 =>
 (bo P .eql 36 (.tmp 3) (.tmp 4) r3.1 r4.1 r4.2).bind fun r5 =>
 (vl r5.1 r5.2).bind fun r6 =>
 (An r6.1 false (fa P 36 r1.1 0 r6.2) r6.2).bind fun r7 =>
 (An r6.1 false (ld P 3 r7.1 r7.2) r7.2).bind fun r8 =>
 (An r6.1 false (EV P 37 #[r8.1, (.int .i64 1), (.int .i64 999)] r8.2) r8.2).bind fun r9 =>
 (An r6.1 false (vl r9.1 r9.2) r9.2).bind fun r10 =>
 (An r10.1 true (fa P 36 r1.1 1 r10.2) r10.2).bind fun r11 =>
 (An r10.1 true (ld P 3 r11.1 r11.2) r11.2).bind fun r12 =>
 (An r10.1 true (EV P 37 #[r12.1, (.int .i64 0), (.int .i64 2)] r12.2) r12.2).bind fun r13 =>
 (An r6.1 false (Av r10.1 r13.1 (.bool false) r13.2) r13.2).bind fun r14 =>
 (Av r6.1 (.bool true) r14.1 r14.2).bind fun r15 =>
 (vl r15.1 r15.2).bind fun r16 =>
 some (r16.1, r16.2) := by kernel_rfl
theorem Mn (x0 x1 : Value) (w : World) : Bl P (EV P) 93 #[x0, x1] w =
 (bx P 36 x0 w).bind fun r1 =>
 (bx P 36 x1 r1.2).bind fun r2 =>
 (al P 36 r2.2).bind fun r3 =>
 (ld P 36 r1.1 r3.2).bind fun r4 =>
 (ld P 36 r2.1 r4.2).bind fun r5 =>
 (EV P 63 #[r4.1, r5.1] r5.2).bind fun r6 =>
 AP r6.1 (
 (ld P 36 r2.1 r6.2).bind fun r7 =>
 (st P 36 r3.1 r7.1 r7.2).bind fun r8 =>
 ((ld P 36 r3.1 r8.2).bind fun r9 => Aj (r9.2 = r8.2) (some r9.1)).bind fun v10 =>
 some (v10, r8.2)) (
 (ld P 36 r1.1 r6.2).bind fun r11 =>
 (st P 36 r3.1 r11.1 r11.2).bind fun r12 =>
 ((ld P 36 r3.1 r12.2).bind fun r13 => Aj (r13.2 = r12.2) (some r13.1)).bind fun v14 =>
 some (v14, r12.2)) := by kernel_rfl
theorem JF (x0 : Value) (w : World) : Bl P (EV P) 94 #[x0] w =
 (vl (.bool false) w).bind fun r1 =>
 (vl x0 r1.2).bind fun r2 =>
 (vl x0 r2.2).bind fun r3 =>
 (bo P .neq 3 (.tmp 3) (.tmp 4) r2.1 r3.1 r3.2).bind fun r4 =>
 (vl r4.1 r4.2).bind fun r5 =>
 some (r5.1, r5.2) := by kernel_rfl
noncomputable def Br (e : Env) (w : World) : Option (Value × World) := Bu P (EV P) 95 19 (.loop (cA (cA (cB (cA (cB (Ai P 95))))))) e w (Ao 0 (AD P (EV P) 95 19 (cB (cB (Ai P 95))) (Be P (AA P 95))))
theorem Co (e : Env) (w : World) : Br e w =
 (bo P .lss 3 (.tmp 8) (.tmp 7) (e 8) (e 7) w).bind fun r1 =>
 AP r1.1 (
 (vl (e 8) r1.2).bind fun r2 =>
 (vl r2.1 r2.2).bind fun r3 =>
 (vl (e 1) r3.2).bind fun r4 =>
 (vl (e 0) r4.2).bind fun r5 =>
 (vl r3.1 r5.2).bind fun r6 =>
 (ia P 30 r5.1 r6.1 r6.2).bind fun r7 =>
 (ld P 36 r7.1 r7.2).bind fun r8 =>
 (QA P r4.1 #[r8.1] r8.2).bind fun r9 =>
 AP r9.1 (
 (vl r3.1 r9.2).bind fun r10 =>
 (vl r10.1 r10.2).bind fun r11 =>
 some (r11.1, r11.2)) (
 (bo P .add 3 (.tmp 8) (.const (.int .i64 1)) (e 8) (.int .i64 1) r9.2).bind fun r12 =>
 (vl r12.1 r12.2).bind fun r13 =>
 Br (AJ e [(9, r1.1), (10, r2.1), (5, r3.1), (11, r4.1), (12, r5.1), (13, r6.1), (14, r7.1), (15, r8.1), (16, r9.1), (18, r12.1), (8, r13.1)]) r13.2)) (
 (vl (.int .i64 (-1)) r1.2).bind fun r14 =>
 some (r14.1, r14.2)) := (Ay P (EV P) 95 19 (cA (cA (cB (cA (cB (Ai P 95)))))) e w (Ao 0 (AD P (EV P) 95 19 (cB (cB (Ai P 95))) (Be P (AA P 95))))).trans (by kernel_rfl)
theorem FT (x0 x1 : Value) (w : World) : Bl P (EV P) 95 #[x0, x1] w =
 (vl (.int .i64 0) w).bind fun r1 =>
 (vl x0 r1.2).bind fun r2 =>
 (Au P #[30] 3 #[r2.1] r2.2).bind fun r3 =>
 (vl (.int .i64 0) r3.2).bind fun r4 =>
 Br (AJ (AL #[x0, x1]) [(4, r1.1), (6, r2.1), (7, r3.1), (8, r4.1)]) r4.2 := by kernel_rfl
noncomputable def Cf (e : Env) (w : World) : Option (Value × World) := Bu P (EV P) 96 46 (.loop (cA (cA (cB (cA (cB (cB (cB (Ai P 96))))))))) e w (Ao 0 (AD P (EV P) 96 46 (cB (cB (cB (cB (Ai P 96))))) (Be P (AA P 96))))
noncomputable def Cg (e : Env) (w : World) : Option (Value × World) := Bu P (EV P) 96 46 (cB (cB (cA (cA (cB (cA (cB (cB (cB (Ai P 96)))))))))) e w (F6 P (EV P) 96 46 (cA (cA (cB (cA (cB (cB (cB (Ai P 96)))))))) (Ao 0 (AD P (EV P) 96 46 (cB (cB (cB (cB (Ai P 96))))) (Be P (AA P 96)))))
theorem Ec (e : Env) (w : World) : Cf e w =
 (vl (e 11) w).bind fun r1 =>
 (vl (e 3) r1.2).bind fun r2 =>
 (bo P .lss 3 (.tmp 19) (.tmp 20) r1.1 r2.1 r2.2).bind fun r3 =>
 AP r3.1 (
 (vl (e 0) r3.2).bind fun r4 =>
 (ld P 77 (e 9) r4.2).bind fun r5 =>
 (EV P 110 #[r4.1, r5.1] r5.2).bind fun r6 =>
 (al P 137 r6.2).bind fun r7 =>
 (st P 137 r7.1 r6.1 r7.2).bind fun r8 =>
 (ld P 77 (e 9) r8.2).bind fun r9 =>
 (ld P 137 r7.1 r9.2).bind fun r10 =>
 (EV P 100 #[r9.1, r10.1] r10.2).bind fun r11 =>
 (vl r11.1 r11.2).bind fun r12 =>
 (xt P r12.1 0 r12.2).bind fun r13 =>
 (xt P r12.1 1 r13.2).bind fun r14 =>
 (al P 77 r14.2).bind fun r15 =>
 (st P 77 r15.1 r13.1 r15.2).bind fun r16 =>
 (vl r14.1 r16.2).bind fun r17 =>
 (vl r17.1 r17.2).bind fun r18 =>
 (uo P .not r18.1 r18.2).bind fun r19 =>
 (vl r19.1 r19.2).bind fun r20 =>
 (An r20.1 true (vl (e 0) r20.2) r20.2).bind fun r21 =>
 (An r20.1 true (EV P 42 #[r21.1, (.int .i64 6)] r21.2) r21.2).bind fun r22 =>
 (An r20.1 true (bo P .gtr 3 (.tmp 37) (.const (.int .i64 0)) r22.1 (.int .i64 0) r22.2) r22.2).bind fun r23 =>
 (Av r20.1 r23.1 (.bool false) r23.2).bind fun r24 =>
 AP r24.1 (
 Cg (AJ e [(19, r1.1), (20, r2.1), (21, r3.1), (24, r4.1), (25, r5.1), (26, r6.1), (12, r7.1), (28, r9.1), (29, r10.1), (30, r11.1), (27, r12.1), (31, r13.1), (32, r14.1), (13, r15.1), (14, r17.1), (33, r18.1), (34, r19.1), (35, r20.1), (36, r21.1), (37, r22.1), (38, r23.1), (39, r24.1)]) r24.2) (
 (ld P 77 r15.1 r24.2).bind fun r25 =>
 (st P 77 (e 9) r25.1 r25.2).bind fun r26 =>
 (vl (e 10) r26.2).bind fun r27 =>
 (ld P 137 r7.1 r27.2).bind fun r28 =>
 (bs P 109 1 #[(0, r28.1)] r28.2).bind fun r29 =>
 (Ar P #[109, 109] 109 #[r27.1, r29.1] r29.2).bind fun r30 =>
 (vl r30.1 r30.2).bind fun r31 =>
 Cg (AJ e [(19, r1.1), (20, r2.1), (21, r3.1), (24, r4.1), (25, r5.1), (26, r6.1), (12, r7.1), (28, r9.1), (29, r10.1), (30, r11.1), (27, r12.1), (31, r13.1), (32, r14.1), (13, r15.1), (14, r17.1), (33, r18.1), (34, r19.1), (35, r20.1), (36, r21.1), (37, r22.1), (38, r23.1), (39, r24.1), (40, r25.1), (41, r27.1), (42, r28.1), (43, r29.1), (44, r30.1), (10, r31.1)]) r31.2)) (
 (vl (e 10) r3.2).bind fun r32 =>
 (vl r32.1 r32.2).bind fun r33 =>
 some (r33.1, r33.2)) := (Ay P (EV P) 96 46 (cA (cA (cB (cA (cB (cB (cB (Ai P 96)))))))) e w (Ao 0 (AD P (EV P) 96 46 (cB (cB (cB (cB (Ai P 96))))) (Be P (AA P 96))))).trans (by kernel_rfl)
theorem GK (e : Env) (w : World) : Cg e w =
 (vl (e 11) w).bind fun r1 =>
 (bo P .add 3 (.tmp 22) (.const (.int .i64 1)) r1.1 (.int .i64 1) r1.2).bind fun r2 =>
 (vl r2.1 r2.2).bind fun r3 =>
 Cf (AJ e [(22, r1.1), (23, r2.1), (11, r3.1)]) r3.2 := by kernel_rfl
theorem IX (x0 x1 x2 x3 : Value) (w : World) : Bl P (EV P) 96 #[x0, x1, x2, x3] w =
 (vl (Go.Value.slice none 0 0) w).bind fun r1 =>
 (vl x1 r1.2).bind fun r2 =>
 (vl x2 r2.2).bind fun r3 =>
 (EV P 99 #[r2.1, r3.1] r3.2).bind fun r4 =>
 (al P 77 r4.2).bind fun r5 =>
 (st P 77 r5.1 r4.1 r5.2).bind fun r6 =>
 (bs P 109 0 #[] r6.2).bind fun r7 =>
 (vl r7.1 r7.2).bind fun r8 =>
 (vl (.int .i64 0) r8.2).bind fun r9 =>
 Cf (AJ (AL #[x0, x1, x2, x3]) [(8, r1.1), (15, r2.1), (16, r3.1), (17, r4.1), (9, r5.1), (18, r7.1), (10, r8.1), (11, r9.1)]) r9.2 := by kernel_rfl
noncomputable def GL (e : Env) (w : World) : Option (Value × World) := Bu P (EV P) 97 37 (cA (cB (Ai P 97))) e w (AD P (EV P) 97 37 (cB (cB (Ai P 97))) (Be P (AA P 97)))
noncomputable def Cp (e : Env) (w : World) : Option (Value × World) := Bu P (EV P) 97 37 (cB (cB (Ai P 97))) e w (Be P (AA P 97))
noncomputable def Dy (e : Env) (w : World) : Option (Value × World) := Bu P (EV P) 97 37 (.loop (cA (cA (cB (cA (cB (cB (Ai P 97)))))))) e w (Ao 0 (AD P (EV P) 97 37 (cB (cB (cB (Ai P 97)))) (Be P (AA P 97))))
theorem Ie (e : Env) (w : World) {Q : Value × World → Prop} (h :
 (Ag (fa P 84 (e 1) 0 (dw w)) fun r1 => r1.2 = (dw w) ∧
 (Ag (ld P 3 r1.1 (dw w)) fun r2 => r2.2 = (dw w) ∧
 (Ag (fa P 84 (e 1) 1 (dw w)) fun r3 => r3.2 = (dw w) ∧
 (Ag (ld P 3 r3.1 (dw w)) fun r4 => r4.2 = (dw w) ∧
 (Ag (fa P 84 (e 1) 5 (dw w)) fun r5 => r5.2 = (dw w) ∧
 (Ag (ld P 4 r5.1 (dw w)) fun r6 => r6.2 = (dw w) ∧
 (Ag (fa P 84 (e 1) 2 (dw w)) fun r7 => r7.2 = (dw w) ∧
 (Ag (ld P 81 r7.1 (dw w)) fun r8 => r8.2 = (dw w) ∧
 (Ag (fa P 84 (e 1) 3 (dw w)) fun r9 => r9.2 = (dw w) ∧
 (Ag (ld P 42 r9.1 (dw w)) fun r10 => r10.2 = (dw w) ∧
 ((Ag (EV P 111 #[r8.1] (dw w)) fun r11 => (ld P 42 r9.1 r11.2 = some (r10.1, r11.2) ∧ fa P 84 (e 1) 3 r11.2 = some (r9.1, r11.2) ∧ True ∧ True ∧ ld P 4 r5.1 r11.2 = some (r6.1, r11.2) ∧ fa P 84 (e 1) 5 r11.2 = some (r5.1, r11.2) ∧ ld P 3 r3.1 r11.2 = some (r4.1, r11.2) ∧ fa P 84 (e 1) 1 r11.2 = some (r3.1, r11.2) ∧ ld P 3 r1.1 r11.2 = some (r2.1, r11.2) ∧ fa P 84 (e 1) 0 r11.2 = some (r1.1, r11.2) ∧ True) ∧
 ((Ag (EV P 112 #[r10.1] r11.2) fun r12 => (True ∧ True ∧ True ∧ True ∧ ld P 4 r5.1 r12.2 = some (r6.1, r12.2) ∧ fa P 84 (e 1) 5 r12.2 = some (r5.1, r12.2) ∧ ld P 3 r3.1 r12.2 = some (r4.1, r12.2) ∧ fa P 84 (e 1) 1 r12.2 = some (r3.1, r12.2) ∧ ld P 3 r1.1 r12.2 = some (r2.1, r12.2) ∧ fa P 84 (e 1) 0 r12.2 = some (r1.1, r12.2) ∧ True) ∧
 (Ag (bd P 84 #[(0, r2.1), (1, r4.1), (5, r6.1), (2, r11.1), (3, r12.1)] r12.2) fun r13 => r13.2 = r12.2 ∧
 ((Ag (al P 84 r12.2) fun r14 => (bd P 84 #[(0, r2.1), (1, r4.1), (5, r6.1), (2, r11.1), (3, r12.1)] r14.2 = some (r13.1, r14.2) ∧ ld P 42 r9.1 r14.2 = some (r10.1, r14.2) ∧ fa P 84 (e 1) 3 r14.2 = some (r9.1, r14.2) ∧ ld P 81 r7.1 r14.2 = some (r8.1, r14.2) ∧ fa P 84 (e 1) 2 r14.2 = some (r7.1, r14.2) ∧ ld P 4 r5.1 r14.2 = some (r6.1, r14.2) ∧ fa P 84 (e 1) 5 r14.2 = some (r5.1, r14.2) ∧ ld P 3 r3.1 r14.2 = some (r4.1, r14.2) ∧ fa P 84 (e 1) 1 r14.2 = some (r3.1, r14.2) ∧ ld P 3 r1.1 r14.2 = some (r2.1, r14.2) ∧ fa P 84 (e 1) 0 r14.2 = some (r1.1, r14.2) ∧ True) ∧
 ((Ag (st P 84 r14.1 r13.1 r14.2) fun r15 => (True ∧ True ∧ True ∧ True ∧ True ∧ True ∧ True ∧ True ∧ True ∧ True ∧ True ∧ True) ∧
 Ag (Cp (AJ e [(5, r1.1), (6, r2.1), (7, r3.1), (8, r4.1), (9, r5.1), (10, r6.1), (11, r7.1), (12, r8.1), (14, r9.1), (15, r10.1), (13, r11.1), (16, r12.1), (17, r13.1), (3, r14.1)]) r15.2) Q)))))) ∧
 (Ag (al P 84 r11.2) fun r16 => (ld P 42 r9.1 r16.2 = some (r10.1, r16.2) ∧ fa P 84 (e 1) 3 r16.2 = some (r9.1, r16.2) ∧ ld P 81 r7.1 r16.2 = some (r8.1, r16.2) ∧ fa P 84 (e 1) 2 r16.2 = some (r7.1, r16.2) ∧ ld P 4 r5.1 r16.2 = some (r6.1, r16.2) ∧ fa P 84 (e 1) 5 r16.2 = some (r5.1, r16.2) ∧ ld P 3 r3.1 r16.2 = some (r4.1, r16.2) ∧ fa P 84 (e 1) 1 r16.2 = some (r3.1, r16.2) ∧ ld P 3 r1.1 r16.2 = some (r2.1, r16.2) ∧ fa P 84 (e 1) 0 r16.2 = some (r1.1, r16.2) ∧ True) ∧
 ((Ag (EV P 112 #[r10.1] r16.2) fun r17 => (True ∧ True ∧ True ∧ True ∧ ld P 4 r5.1 r17.2 = some (r6.1, r17.2) ∧ fa P 84 (e 1) 5 r17.2 = some (r5.1, r17.2) ∧ ld P 3 r3.1 r17.2 = some (r4.1, r17.2) ∧ fa P 84 (e 1) 1 r17.2 = some (r3.1, r17.2) ∧ ld P 3 r1.1 r17.2 = some (r2.1, r17.2) ∧ fa P 84 (e 1) 0 r17.2 = some (r1.1, r17.2) ∧ True) ∧
 (Ag (bd P 84 #[(0, r2.1), (1, r4.1), (5, r6.1), (2, r11.1), (3, r17.1)] r17.2) fun r18 => r18.2 = r17.2 ∧
 ((Ag (st P 84 r16.1 r18.1 r17.2) fun r19 => (True ∧ True ∧ True ∧ True ∧ True ∧ True ∧ True ∧ True ∧ True ∧ True ∧ True ∧ True) ∧
 Ag (Cp (AJ e [(5, r1.1), (6, r2.1), (7, r3.1), (8, r4.1), (9, r5.1), (10, r6.1), (11, r7.1), (12, r8.1), (14, r9.1), (15, r10.1), (13, r11.1), (3, r16.1), (16, r17.1), (17, r18.1)]) r19.2) Q)))))))) ∧
 (Ag (al P 84 (dw w)) fun r20 => (ld P 42 r9.1 r20.2 = some (r10.1, r20.2) ∧ fa P 84 (e 1) 3 r20.2 = some (r9.1, r20.2) ∧ ld P 81 r7.1 r20.2 = some (r8.1, r20.2) ∧ fa P 84 (e 1) 2 r20.2 = some (r7.1, r20.2) ∧ ld P 4 r5.1 r20.2 = some (r6.1, r20.2) ∧ fa P 84 (e 1) 5 r20.2 = some (r5.1, r20.2) ∧ ld P 3 r3.1 r20.2 = some (r4.1, r20.2) ∧ fa P 84 (e 1) 1 r20.2 = some (r3.1, r20.2) ∧ ld P 3 r1.1 r20.2 = some (r2.1, r20.2) ∧ fa P 84 (e 1) 0 r20.2 = some (r1.1, r20.2) ∧ True) ∧
 ((Ag (EV P 111 #[r8.1] r20.2) fun r21 => (ld P 42 r9.1 r21.2 = some (r10.1, r21.2) ∧ fa P 84 (e 1) 3 r21.2 = some (r9.1, r21.2) ∧ True ∧ True ∧ ld P 4 r5.1 r21.2 = some (r6.1, r21.2) ∧ fa P 84 (e 1) 5 r21.2 = some (r5.1, r21.2) ∧ ld P 3 r3.1 r21.2 = some (r4.1, r21.2) ∧ fa P 84 (e 1) 1 r21.2 = some (r3.1, r21.2) ∧ ld P 3 r1.1 r21.2 = some (r2.1, r21.2) ∧ fa P 84 (e 1) 0 r21.2 = some (r1.1, r21.2) ∧ True) ∧
 ((Ag (EV P 112 #[r10.1] r21.2) fun r22 => (True ∧ True ∧ True ∧ True ∧ ld P 4 r5.1 r22.2 = some (r6.1, r22.2) ∧ fa P 84 (e 1) 5 r22.2 = some (r5.1, r22.2) ∧ ld P 3 r3.1 r22.2 = some (r4.1, r22.2) ∧ fa P 84 (e 1) 1 r22.2 = some (r3.1, r22.2) ∧ ld P 3 r1.1 r22.2 = some (r2.1, r22.2) ∧ fa P 84 (e 1) 0 r22.2 = some (r1.1, r22.2) ∧ True) ∧
 (Ag (bd P 84 #[(0, r2.1), (1, r4.1), (5, r6.1), (2, r21.1), (3, r22.1)] r22.2) fun r23 => r23.2 = r22.2 ∧
 ((Ag (st P 84 r20.1 r23.1 r22.2) fun r24 => (True ∧ True ∧ True ∧ True ∧ True ∧ True ∧ True ∧ True ∧ True ∧ True ∧ True ∧ True) ∧
 Ag (Cp (AJ e [(5, r1.1), (6, r2.1), (7, r3.1), (8, r4.1), (9, r5.1), (10, r6.1), (11, r7.1), (12, r8.1), (14, r9.1), (15, r10.1), (3, r20.1), (13, r21.1), (16, r22.1), (17, r23.1)]) r24.2) Q)))))))))))))))))))) : Ag (GL e w) Q := Gf (id := 1) (ops := opsOf (cA (cB (Ai P 97)))) (by kernel_rfl) (by kernel_rfl) (Eq.mpr (by kernel_rfl) h)
theorem IY (e : Env) (w : World) : Cp e w =
 (vl (.int .i64 0) w).bind fun r1 =>
 Dy (AJ e [(4, r1.1)]) r1.2 := by kernel_rfl
theorem Fj (e : Env) (w : World) : Dy e w =
 (vl (e 4) w).bind fun r1 =>
 (fa P 84 (e 1) 4 r1.2).bind fun r2 =>
 (ld P 82 r2.1 r2.2).bind fun r3 =>
 (Au P #[82] 3 #[r3.1] r3.2).bind fun r4 =>
 (bo P .lss 3 (.tmp 18) (.tmp 21) r1.1 r4.1 r4.2).bind fun r5 =>
 AP r5.1 (
 (fa P 84 (e 3) 4 (dw r5.2)).bind fun r7 =>
 Aj (r7.2 = (dw r5.2)) <|
 (ld P 82 r7.1 (dw r5.2)).bind fun r8 =>
 Aj (r8.2 = (dw r5.2)) <|
 (fa P 84 (e 1) 4 (dw r5.2)).bind fun r9 =>
 Aj (r9.2 = (dw r5.2)) <|
 (ld P 82 r9.1 (dw r5.2)).bind fun r10 =>
 Aj (r10.2 = (dw r5.2)) <|
 (vl (e 4) (dw r5.2)).bind fun r11 =>
 Aj (r11.2 = (dw r5.2)) <|
 (ia P 82 r10.1 r11.1 (dw r5.2)).bind fun r12 =>
 Aj (r12.2 = (dw r5.2)) <|
 (ld P 42 r12.1 (dw r5.2)).bind fun r13 =>
 Aj (r13.2 = (dw r5.2)) <|
 (EV P 112 #[r13.1] (dw r5.2)).bind fun r14 =>
 Aj (True ∧ True ∧ True ∧ True ∧ ld P 82 r7.1 r14.2 = some (r8.1, r14.2) ∧ fa P 84 (e 3) 4 r14.2 = some (r7.1, r14.2) ∧ True) <|
 (bs P 82 1 #[(0, r14.1)] r14.2).bind fun r15 =>
 Aj (True ∧ True ∧ True ∧ True ∧ ld P 82 r7.1 r15.2 = some (r8.1, r15.2) ∧ fa P 84 (e 3) 4 r15.2 = some (r7.1, r15.2) ∧ True) <|
 (Ar P #[82, 82] 82 #[r8.1, r15.1] r15.2).bind fun r16 =>
 Aj (True ∧ True ∧ True ∧ True ∧ True ∧ True ∧ True) <|
 (fa P 84 (e 3) 4 r16.2).bind fun r17 =>
 Aj (r17.2 = r16.2) <|
 (st P 82 r17.1 r16.1 r16.2).bind fun r18 =>
 Aj (True ∧ True ∧ True ∧ True ∧ True ∧ True ∧ True ∧ True) <|
 (vl (e 4) r18.2).bind fun r19 =>
 (bo P .add 3 (.tmp 23) (.const (.int .i64 1)) r19.1 (.int .i64 1) r19.2).bind fun r20 =>
 (vl r20.1 r20.2).bind fun r21 =>
 Dy (AJ e [(18, r1.1), (19, r2.1), (20, r3.1), (21, r4.1), (22, r5.1), (25, r7.1), (26, r8.1), (27, r9.1), (28, r10.1), (29, r11.1), (30, r12.1), (31, r13.1), (32, r14.1), (33, r15.1), (34, r16.1), (35, r17.1), (23, r19.1), (24, r20.1), (4, r21.1)]) r21.2) (
 (ld P 84 (e 3) r5.2).bind fun r22 =>
 (st P 84 (e 2) r22.1 r22.2).bind fun r23 =>
 ((ld P 84 (e 2) r23.2).bind fun r24 => Aj (r24.2 = r23.2) (some r24.1)).bind fun v25 =>
 some (v25, r23.2)) := (Ay P (EV P) 97 37 (cA (cA (cB (cA (cB (cB (Ai P 97))))))) e w (Ao 0 (AD P (EV P) 97 37 (cB (cB (cB (Ai P 97)))) (Be P (AA P 97))))).trans (by kernel_rfl)
theorem K9 (x0 : Value) (w : World) : Bl P (EV P) 97 #[x0] w =
 (bx P 84 x0 w).bind fun r1 =>
 (al P 84 r1.2).bind fun r2 =>
 GL (AJ (AL #[x0]) [(1, r1.1), (2, r2.1)]) r2.2 := by kernel_rfl
theorem La (x0 : Value) (w : World) : Bl P (EV P) 98 #[x0] w =
 (bx P 49 x0 w).bind fun r1 =>
 (al P 49 r1.2).bind fun r2 =>
 (bs P 30 0 #[] r2.2).bind fun r3 =>
 (fa P 49 r1.1 2 r3.2).bind fun r4 =>
 (fa P 32 r4.1 0 r4.2).bind fun r5 =>
 (ld P 30 r5.1 r5.2).bind fun r6 =>
 (Ar P #[30, 30] 30 #[r3.1, r6.1] r6.2).bind fun r7 =>
 (bd P 32 #[(0, r7.1)] r7.2).bind fun r8 =>
 (fa P 49 r1.1 2 r8.2).bind fun r9 =>
 (st P 32 r9.1 r8.1 r9.2).bind fun r10 =>
 (ld P 49 r1.1 r10.2).bind fun r11 =>
 (st P 49 r2.1 r11.1 r11.2).bind fun r12 =>
 ((ld P 49 r2.1 r12.2).bind fun r13 => Aj (r13.2 = r12.2) (some r13.1)).bind fun v14 =>
 some (v14, r12.2) := by kernel_rfl
noncomputable def DU (e : Env) (w : World) : Option (Value × World) := Bu P (EV P) 99 36 (.loop (cA (cA (cB (cA (cB (cB (Ai P 99)))))))) e w (Ao 0 (AD P (EV P) 99 36 (cB (cB (cB (Ai P 99)))) (Be P (AA P 99))))
noncomputable def DV (e : Env) (w : World) : Option (Value × World) := Bu P (EV P) 99 36 (.loop (cA (cA (cB (cA (cB (cB (cB (Ai P 99))))))))) e w (Ao 2 (AD P (EV P) 99 36 (cB (cB (cB (cB (Ai P 99))))) (Be P (AA P 99))))
theorem FU (e : Env) (w : World) : DU e w =
 (vl (e 6) w).bind fun r1 =>
 (bo P .lss 3 (.tmp 9) (.const (.int .i64 3)) r1.1 (.int .i64 3) r1.2).bind fun r2 =>
 AP r2.1 (
 (fa P 77 (e 5) 0 (dw r2.2)).bind fun r4 =>
 Aj (r4.2 = (dw r2.2)) <|
 (ld P 73 r4.1 (dw r2.2)).bind fun r5 =>
 Aj (r5.2 = (dw r2.2)) <|
 (vl (e 6) (dw r2.2)).bind fun r6 =>
 Aj (r6.2 = (dw r2.2)) <|
 (vl (e 0) (dw r2.2)).bind fun r7 =>
 Aj (r7.2 = (dw r2.2)) <|
 (EV P 113 #[r6.1, r7.1] (dw r2.2)).bind fun r8 =>
 Aj (ld P 73 r4.1 r8.2 = some (r5.1, r8.2) ∧ fa P 77 (e 5) 0 r8.2 = some (r4.1, r8.2) ∧ True) <|
 (bs P 73 1 #[(0, r8.1)] r8.2).bind fun r9 =>
 Aj (ld P 73 r4.1 r9.2 = some (r5.1, r9.2) ∧ fa P 77 (e 5) 0 r9.2 = some (r4.1, r9.2) ∧ True) <|
 (Ar P #[73, 73] 73 #[r5.1, r9.1] r9.2).bind fun r10 =>
 Aj (True ∧ True ∧ True) <|
 (fa P 77 (e 5) 0 r10.2).bind fun r11 =>
 Aj (r11.2 = r10.2) <|
 (st P 73 r11.1 r10.1 r10.2).bind fun r12 =>
 Aj (True ∧ True ∧ True ∧ True) <|
 (vl (e 6) r12.2).bind fun r13 =>
 (bo P .add 3 (.tmp 11) (.const (.int .i64 1)) r13.1 (.int .i64 1) r13.2).bind fun r14 =>
 (vl r14.1 r14.2).bind fun r15 =>
 DU (AJ e [(9, r1.1), (10, r2.1), (13, r4.1), (14, r5.1), (15, r6.1), (16, r7.1), (17, r8.1), (18, r9.1), (19, r10.1), (20, r11.1), (11, r13.1), (12, r14.1), (6, r15.1)]) r15.2) (
 (vl (.int .i64 0) r2.2).bind fun r16 =>
 DV (AJ e [(9, r1.1), (10, r2.1), (7, r16.1)]) r16.2) := (Ay P (EV P) 99 36 (cA (cA (cB (cA (cB (cB (Ai P 99))))))) e w (Ao 0 (AD P (EV P) 99 36 (cB (cB (cB (Ai P 99)))) (Be P (AA P 99))))).trans (by kernel_rfl)
theorem FV (e : Env) (w : World) : DV e w =
 (vl (e 7) w).bind fun r1 =>
 (vl (e 1) r1.2).bind fun r2 =>
 (bo P .lss 3 (.tmp 21) (.tmp 22) r1.1 r2.1 r2.2).bind fun r3 =>
 AP r3.1 (
 (fa P 77 (e 5) 1 (dw r3.2)).bind fun r5 =>
 Aj (r5.2 = (dw r3.2)) <|
 (ld P 74 r5.1 (dw r3.2)).bind fun r6 =>
 Aj (r6.2 = (dw r3.2)) <|
 (vl (e 7) (dw r3.2)).bind fun r7 =>
 Aj (r7.2 = (dw r3.2)) <|
 (bo P .rem 3 (.tmp 28) (.const (.int .i64 3)) r7.1 (.int .i64 3) (dw r3.2)).bind fun r8 =>
 Aj (r8.2 = (dw r3.2)) <|
 (EV P 38 #[] (dw r3.2)).bind fun r9 =>
 Aj (bo P .rem 3 (.tmp 28) (.const (.int .i64 3)) r7.1 (.int .i64 3) r9.2 = some (r8.1, r9.2) ∧ ld P 74 r5.1 r9.2 = some (r6.1, r9.2) ∧ fa P 77 (e 5) 1 r9.2 = some (r5.1, r9.2) ∧ True) <|
 (bd P 129 #[(0, r8.1), (1, r9.1)] r9.2).bind fun r10 =>
 Aj (r10.2 = r9.2) <|
 (bs P 74 1 #[(0, r10.1)] r9.2).bind fun r11 =>
 Aj (True ∧ True ∧ ld P 74 r5.1 r11.2 = some (r6.1, r11.2) ∧ fa P 77 (e 5) 1 r11.2 = some (r5.1, r11.2) ∧ True) <|
 (Ar P #[74, 74] 74 #[r6.1, r11.1] r11.2).bind fun r12 =>
 Aj (True ∧ True ∧ True ∧ True ∧ True) <|
 (fa P 77 (e 5) 1 r12.2).bind fun r13 =>
 Aj (r13.2 = r12.2) <|
 (st P 74 r13.1 r12.1 r12.2).bind fun r14 =>
 Aj (True ∧ True ∧ True ∧ True ∧ True ∧ True) <|
 (vl (e 7) r14.2).bind fun r15 =>
 (bo P .add 3 (.tmp 24) (.const (.int .i64 1)) r15.1 (.int .i64 1) r15.2).bind fun r16 =>
 (vl r16.1 r16.2).bind fun r17 =>
 DV (AJ e [(21, r1.1), (22, r2.1), (23, r3.1), (26, r5.1), (27, r6.1), (28, r7.1), (29, r8.1), (30, r9.1), (31, r10.1), (32, r11.1), (33, r12.1), (34, r13.1), (24, r15.1), (25, r16.1), (7, r17.1)]) r17.2) (
 (ld P 77 (e 5) r3.2).bind fun r18 =>
 (st P 77 (e 4) r18.1 r18.2).bind fun r19 =>
 ((ld P 77 (e 4) r19.2).bind fun r20 => Aj (r20.2 = r19.2) (some r20.1)).bind fun v21 =>
 some (v21, r19.2)) := (Ay P (EV P) 99 36 (cA (cA (cB (cA (cB (cB (cB (Ai P 99)))))))) e w (Ao 2 (AD P (EV P) 99 36 (cB (cB (cB (cB (Ai P 99))))) (Be P (AA P 99))))).trans (by kernel_rfl)
theorem Mo (x0 x1 : Value) (w : World) : Bl P (EV P) 99 #[x0, x1] w =
 (al P 77 w).bind fun r1 =>
 (bd P 77 #[] r1.2).bind fun r2 =>
 (al P 77 r2.2).bind fun r3 =>
 (st P 77 r3.1 r2.1 r3.2).bind fun r4 =>
 (vl (.int .i64 0) r4.2).bind fun r5 =>
 DU (AJ (AL #[x0, x1]) [(4, r1.1), (8, r2.1), (5, r3.1), (6, r5.1)]) r5.2 := by kernel_rfl
theorem Nt (x0 x1 : Value) (w : World) : Bl P (EV P) 100 #[x0, x1] w =
 (bx P 77 x0 w).bind fun r1 =>
 (bx P 137 x1 r1.2).bind fun r2 =>
 (al P 77 r2.2).bind fun r3 =>
 (vl (.bool false) r3.2).bind fun r4 =>
 (fa P 137 r2.1 0 r4.2).bind fun r5 =>
 (ld P 3 r5.1 r5.2).bind fun r6 =>
 (EV P 37 #[r6.1, (.int .i64 1), (.int .i64 5)] r6.2).bind fun r7 =>
 (vl r7.1 r7.2).bind fun r8 =>
 AP r8.1 (
 (ld P 77 r1.1 r8.2).bind fun r9 =>
 (ld P 137 r2.1 r9.2).bind fun r10 =>
 (EV P 114 #[r9.1, r10.1] r10.2).bind fun r11 =>
 (xt P r11.1 0 r11.2).bind fun r12 =>
 (xt P r11.1 1 r12.2).bind fun r13 =>
 (st P 77 r3.1 r12.1 r13.2).bind fun r14 =>
 (vl r13.1 r14.2).bind fun r15 =>
 ((ld P 77 r3.1 r15.2).bind fun r16 => Aj (r16.2 = r15.2) (some r16.1)).bind fun v17 =>
 some (.tuple #[v17, r15.1], r15.2)) (
 (fa P 137 r2.1 0 r8.2).bind fun r18 =>
 (ld P 3 r18.1 r18.2).bind fun r19 =>
 (EV P 37 #[r19.1, (.int .i64 6), (.int .i64 9)] r19.2).bind fun r20 =>
 (vl r20.1 r20.2).bind fun r21 =>
 AP r21.1 (
 (ld P 77 r1.1 r21.2).bind fun r22 =>
 (ld P 137 r2.1 r22.2).bind fun r23 =>
 (EV P 115 #[r22.1, r23.1] r23.2).bind fun r24 =>
 (xt P r24.1 0 r24.2).bind fun r25 =>
 (xt P r24.1 1 r25.2).bind fun r26 =>
 (st P 77 r3.1 r25.1 r26.2).bind fun r27 =>
 (vl r26.1 r27.2).bind fun r28 =>
 ((ld P 77 r3.1 r28.2).bind fun r29 => Aj (r29.2 = r28.2) (some r29.1)).bind fun v30 =>
 some (.tuple #[v30, r28.1], r28.2)) (
 (fa P 137 r2.1 0 r21.2).bind fun r31 =>
 (ld P 3 r31.1 r31.2).bind fun r32 =>
 (EV P 37 #[r32.1, (.int .i64 10), (.int .i64 13)] r32.2).bind fun r33 =>
 (vl r33.1 r33.2).bind fun r34 =>
 AP r34.1 (
 (ld P 77 r1.1 r34.2).bind fun r35 =>
 (ld P 137 r2.1 r35.2).bind fun r36 =>
 (EV P 116 #[r35.1, r36.1] r36.2).bind fun r37 =>
 (xt P r37.1 0 r37.2).bind fun r38 =>
 (xt P r37.1 1 r38.2).bind fun r39 =>
 (st P 77 r3.1 r38.1 r39.2).bind fun r40 =>
 (vl r39.1 r40.2).bind fun r41 =>
 ((ld P 77 r3.1 r41.2).bind fun r42 => Aj (r42.2 = r41.2) (some r42.1)).bind fun v43 =>
 some (.tuple #[v43, r41.1], r41.2)) (
 (ld P 77 r1.1 r34.2).bind fun r44 =>
 (st P 77 r3.1 r44.1 r44.2).bind fun r45 =>
 (vl (.bool false) r45.2).bind fun r46 =>
 ((ld P 77 r3.1 r46.2).bind fun r47 => Aj (r47.2 = r46.2) (some r47.1)).bind fun v48 =>
 some (.tuple #[v48, r46.1], r46.2)))) := by kernel_rfl
theorem Mp (w : World) : Bl P (EV P) 101 #[] w =
 (al P 44 w).bind fun r1 =>
 (ms P 42 (.int .i64 4) (.int .i64 4) r1.2).bind fun r2 =>
 (bd P 44 #[(0, r2.1)] r2.2).bind fun r3 =>
 (st P 44 r1.1 r3.1 r3.2).bind fun r4 =>
 ((ld P 44 r1.1 r4.2).bind fun r5 => Aj (r5.2 = r4.2) (some r5.1)).bind fun v6 =>
 some (v6, r4.2) := by kernel_rfl
noncomputable def FH (e : Env) (w : World) : Option (Value × World) := Bu P (EV P) 102 23 (cB (cB (Ai P 102))) e w (Be P (AA P 102))
theorem FX (e : Env) (w : World) : FH e w =
 (ld P 44 (e 2) w).bind fun r1 =>
 (st P 44 (e 4) r1.1 r1.2).bind fun r2 =>
 ((ld P 44 (e 4) r2.2).bind fun r3 => Aj (r3.2 = r2.2) (some r3.1)).bind fun v4 =>
 some (v4, r2.2) := by kernel_rfl
theorem Mq (x0 x1 : Value) (w : World) : Bl P (EV P) 102 #[x0, x1] w =
 (bx P 44 x0 w).bind fun r1 =>
 (bx P 49 x1 r1.2).bind fun r2 =>
 (al P 44 r2.2).bind fun r3 =>
 (fa P 44 r1.1 0 (dw r3.2)).bind fun r5 =>
 Aj (r5.2 = (dw r3.2)) <|
 (ld P 42 r5.1 (dw r3.2)).bind fun r6 =>
 Aj (r6.2 = (dw r3.2)) <|
 (fa P 49 r2.1 0 (dw r3.2)).bind fun r7 =>
 Aj (r7.2 = (dw r3.2)) <|
 (ld P 3 r7.1 (dw r3.2)).bind fun r8 =>
 Aj (r8.2 = (dw r3.2)) <|
 (ia P 42 r6.1 r8.1 (dw r3.2)).bind fun r9 =>
 Aj (r9.2 = (dw r3.2)) <|
 (fa P 49 r9.1 1 (dw r3.2)).bind fun r10 =>
 Aj (r10.2 = (dw r3.2)) <|
 (ld P 36 r10.1 (dw r3.2)).bind fun r11 =>
 Aj (r11.2 = (dw r3.2)) <|
 (fa P 49 r2.1 1 (dw r3.2)).bind fun r12 =>
 Aj (r12.2 = (dw r3.2)) <|
 (ld P 36 r12.1 (dw r3.2)).bind fun r13 =>
 Aj (r13.2 = (dw r3.2)) <|
 (EV P 63 #[r11.1, r13.1] (dw r3.2)).bind fun r14 =>
 Aj (True ∧ True ∧ True ∧ True ∧ True ∧ True ∧ True ∧ True ∧ True ∧ True) <|
 AP r14.1 (
 (fa P 44 r1.1 0 (dw r14.2)).bind fun r16 =>
 Aj (r16.2 = (dw r14.2)) <|
 (ld P 42 r16.1 (dw r14.2)).bind fun r17 =>
 Aj (r17.2 = (dw r14.2)) <|
 (fa P 49 r2.1 0 (dw r14.2)).bind fun r18 =>
 Aj (r18.2 = (dw r14.2)) <|
 (ld P 3 r18.1 (dw r14.2)).bind fun r19 =>
 Aj (r19.2 = (dw r14.2)) <|
 (ld P 49 r2.1 (dw r14.2)).bind fun r20 =>
 Aj (r20.2 = (dw r14.2)) <|
 (EV P 98 #[r20.1] (dw r14.2)).bind fun r21 =>
 Aj (True ∧ ld P 3 r18.1 r21.2 = some (r19.1, r21.2) ∧ fa P 49 r2.1 0 r21.2 = some (r18.1, r21.2) ∧ ld P 42 r16.1 r21.2 = some (r17.1, r21.2) ∧ fa P 44 r1.1 0 r21.2 = some (r16.1, r21.2) ∧ True) <|
 (ia P 42 r17.1 r19.1 r21.2).bind fun r22 =>
 Aj (r22.2 = r21.2) <|
 (st P 49 r22.1 r21.1 r21.2).bind fun r23 =>
 Aj (True ∧ True ∧ True ∧ True ∧ True ∧ True ∧ True) <|
 FH (AJ (AL #[x0, x1]) [(2, r1.1), (3, r2.1), (4, r3.1), (5, r5.1), (6, r6.1), (7, r7.1), (8, r8.1), (9, r9.1), (10, r10.1), (11, r11.1), (12, r12.1), (13, r13.1), (14, r14.1), (15, r16.1), (16, r17.1), (17, r18.1), (18, r19.1), (19, r20.1), (20, r21.1), (21, r22.1)]) r23.2) (
 FH (AJ (AL #[x0, x1]) [(2, r1.1), (3, r2.1), (4, r3.1), (5, r5.1), (6, r6.1), (7, r7.1), (8, r8.1), (9, r9.1), (10, r10.1), (11, r11.1), (12, r12.1), (13, r13.1), (14, r14.1)]) r14.2) := by kernel_rfl
noncomputable def Dz (e : Env) (w : World) : Option (Value × World) := Bu P (EV P) 103 54 (.loop (cA (cA (cB (cA (cB (cB (cB (Ai P 103))))))))) e w (Ao 0 (AD P (EV P) 103 54 (cB (cB (cB (cB (Ai P 103))))) (Be P (AA P 103))))
noncomputable def DA (e : Env) (w : World) : Option (Value × World) := Bu P (EV P) 103 54 (cB (cB (cA (cA (cB (cA (cB (cB (cB (Ai P 103)))))))))) e w (F6 P (EV P) 103 54 (cA (cA (cB (cA (cB (cB (cB (Ai P 103)))))))) (Ao 0 (AD P (EV P) 103 54 (cB (cB (cB (cB (Ai P 103))))) (Be P (AA P 103)))))
noncomputable def EH (e : Env) (w : World) : Option (Value × World) := Bu P (EV P) 103 54 (cB (cB (cB (cB (cB (cB (Ai P 103))))))) e w (Be P (AA P 103))
theorem Fk (e : Env) (w : World) : Dz e w =
 (vl (e 5) w).bind fun r1 =>
 (bo P .lss 3 (.tmp 12) (.const (.int .i64 4)) r1.1 (.int .i64 4) r1.2).bind fun r2 =>
 AP r2.1 (
 (fa P 49 (e 3) 2 (dw r2.2)).bind fun r4 =>
 Aj (r4.2 = (dw r2.2)) <|
 (fa P 32 r4.1 0 (dw r2.2)).bind fun r5 =>
 Aj (r5.2 = (dw r2.2)) <|
 (ld P 30 r5.1 (dw r2.2)).bind fun r6 =>
 Aj (r6.2 = (dw r2.2)) <|
 (vl (e 5) (dw r2.2)).bind fun r7 =>
 Aj (r7.2 = (dw r2.2)) <|
 (vl (e 0) (dw r2.2)).bind fun r8 =>
 Aj (r8.2 = (dw r2.2)) <|
 (EV P 86 #[r8.1] (dw r2.2)).bind fun r9 =>
 Aj (ld P 30 r5.1 r9.2 = some (r6.1, r9.2) ∧ fa P 32 r4.1 0 r9.2 = some (r5.1, r9.2) ∧ fa P 49 (e 3) 2 r9.2 = some (r4.1, r9.2) ∧ True) <|
 (ia P 30 r6.1 r7.1 r9.2).bind fun r10 =>
 Aj (r10.2 = r9.2) <|
 (st P 36 r10.1 r9.1 r9.2).bind fun r11 =>
 Aj (True ∧ True ∧ True ∧ True ∧ True) <|
 (fa P 49 (e 3) 2 r11.2).bind fun r12 =>
 (fa P 32 r12.1 0 r12.2).bind fun r13 =>
 (ld P 30 r13.1 r13.2).bind fun r14 =>
 (vl (e 5) r14.2).bind fun r15 =>
 (ia P 30 r14.1 r15.1 r15.2).bind fun r16 =>
 (fa P 36 r16.1 0 r16.2).bind fun r17 =>
 (ld P 3 r17.1 r17.2).bind fun r18 =>
 (vl (e 4) r18.2).bind fun r19 =>
 (bo P .gtr 3 (.tmp 29) (.tmp 30) r18.1 r19.1 r19.2).bind fun r20 =>
 AP r20.1 (
 (fa P 49 (e 3) 2 r20.2).bind fun r21 =>
 (fa P 32 r21.1 0 r21.2).bind fun r22 =>
 (ld P 30 r22.1 r22.2).bind fun r23 =>
 (vl (e 5) r23.2).bind fun r24 =>
 (ia P 30 r23.1 r24.1 r24.2).bind fun r25 =>
 (fa P 36 r25.1 0 r25.2).bind fun r26 =>
 (ld P 3 r26.1 r26.2).bind fun r27 =>
 (vl r27.1 r27.2).bind fun r28 =>
 DA (AJ e [(12, r1.1), (13, r2.1), (16, r4.1), (17, r5.1), (18, r6.1), (19, r7.1), (20, r8.1), (21, r9.1), (22, r10.1), (23, r12.1), (24, r13.1), (25, r14.1), (26, r15.1), (27, r16.1), (28, r17.1), (29, r18.1), (30, r19.1), (31, r20.1), (32, r21.1), (33, r22.1), (34, r23.1), (35, r24.1), (36, r25.1), (37, r26.1), (38, r27.1), (4, r28.1)]) r28.2) (
 DA (AJ e [(12, r1.1), (13, r2.1), (16, r4.1), (17, r5.1), (18, r6.1), (19, r7.1), (20, r8.1), (21, r9.1), (22, r10.1), (23, r12.1), (24, r13.1), (25, r14.1), (26, r15.1), (27, r16.1), (28, r17.1), (29, r18.1), (30, r19.1), (31, r20.1)]) r20.2)) (
 (vl (e 4) r2.2).bind fun r29 =>
 (bo P .add 3 (.tmp 39) (.const (.int .i64 1)) r29.1 (.int .i64 1) r29.2).bind fun r30 =>
 (vl (e 0) r30.2).bind fun r31 =>
 (EV P 42 #[r31.1, (.int .i64 3)] r31.2).bind fun r32 =>
 (bo P .add 3 (.tmp 40) (.tmp 42) r30.1 r32.1 r32.2).bind fun r33 =>
 (vl (e 0) r33.2).bind fun r34 =>
 (EV P 42 #[r34.1, (.int .i64 3)] r34.2).bind fun r35 =>
 (bd P 36 #[(0, r33.1), (1, r35.1)] r35.2).bind fun r36 =>
 (fa P 49 (e 3) 1 r36.2).bind fun r37 =>
 (st P 36 r37.1 r36.1 r37.2).bind fun r38 =>
 (vl (e 0) r38.2).bind fun r39 =>
 (EV P 42 #[r39.1, (.int .i64 6)] r39.2).bind fun r40 =>
 (bo P .eql 3 (.tmp 49) (.const (.int .i64 0)) r40.1 (.int .i64 0) r40.2).bind fun r41 =>
 AP r41.1 (
 (fa P 49 (e 3) 3 r41.2).bind fun r42 =>
 (st P 9 r42.1 (Go.Value.string { data := #[] }) r42.2).bind fun r43 =>
 (fa P 49 (e 3) 4 r43.2).bind fun r44 =>
 (st P 4 r44.1 (.bool true) r44.2).bind fun r45 =>
 EH (AJ e [(12, r1.1), (13, r2.1), (39, r29.1), (40, r30.1), (41, r31.1), (42, r32.1), (43, r33.1), (44, r34.1), (45, r35.1), (46, r36.1), (47, r37.1), (48, r39.1), (49, r40.1), (50, r41.1), (51, r42.1), (52, r44.1)]) r45.2) (
 EH (AJ e [(12, r1.1), (13, r2.1), (39, r29.1), (40, r30.1), (41, r31.1), (42, r32.1), (43, r33.1), (44, r34.1), (45, r35.1), (46, r36.1), (47, r37.1), (48, r39.1), (49, r40.1), (50, r41.1)]) r41.2)) := (Ay P (EV P) 103 54 (cA (cA (cB (cA (cB (cB (cB (Ai P 103)))))))) e w (Ao 0 (AD P (EV P) 103 54 (cB (cB (cB (cB (Ai P 103))))) (Be P (AA P 103))))).trans (by kernel_rfl)
theorem IZ (e : Env) (w : World) : DA e w =
 (vl (e 5) w).bind fun r1 =>
 (bo P .add 3 (.tmp 14) (.const (.int .i64 1)) r1.1 (.int .i64 1) r1.2).bind fun r2 =>
 (vl r2.1 r2.2).bind fun r3 =>
 Dz (AJ e [(14, r1.1), (15, r2.1), (5, r3.1)]) r3.2 := by kernel_rfl
theorem Fl (e : Env) (w : World) : EH e w =
 (ld P 49 (e 3) w).bind fun r1 =>
 (st P 49 (e 2) r1.1 r1.2).bind fun r2 =>
 ((ld P 49 (e 2) r2.2).bind fun r3 => Aj (r3.2 = r2.2) (some r3.1)).bind fun v4 =>
 some (v4, r2.2) := by kernel_rfl
theorem Lb (x0 : Value) (w : World) : Bl P (EV P) 103 #[x0] w =
 (al P 49 w).bind fun r1 =>
 (vl x0 r1.2).bind fun r2 =>
 (EV P 42 #[r2.1, (.int .i64 4)] r2.2).bind fun r3 =>
 (EV P 38 #[] r3.2).bind fun r4 =>
 (vl x0 r4.2).bind fun r5 =>
 (EV P 117 #[r5.1] r5.2).bind fun r6 =>
 (bd P 49 #[(0, r3.1), (2, r4.1), (3, r6.1)] r6.2).bind fun r7 =>
 (al P 49 r7.2).bind fun r8 =>
 (st P 49 r8.1 r7.1 r8.2).bind fun r9 =>
 (vl (.int .i64 0) r9.2).bind fun r10 =>
 (vl (.int .i64 0) r10.2).bind fun r11 =>
 Dz (AJ (AL #[x0]) [(2, r1.1), (6, r2.1), (7, r3.1), (8, r4.1), (9, r5.1), (10, r6.1), (11, r7.1), (3, r8.1), (4, r10.1), (5, r11.1)]) r11.2 := by kernel_rfl
theorem JG (x0 x1 : Value) (w : World) : Bl P (EV P) 104 #[x0, x1] w =
 (vl (Go.Value.string { data := #[] }) w).bind fun r1 =>
 (vl x1 r1.2).bind fun r2 =>
 (vl x0 r2.2).bind fun r3 =>
 (vl x1 r3.2).bind fun r4 =>
 (Au P #[140] 3 #[r4.1] r4.2).bind fun r5 =>
 (EV P 42 #[r3.1, r5.1] r5.2).bind fun r6 =>
 (ia P 140 r2.1 r6.1 r6.2).bind fun r7 =>
 (ld P 9 r7.1 r7.2).bind fun r8 =>
 (vl r8.1 r8.2).bind fun r9 =>
 some (r9.1, r9.2) := by kernel_rfl
noncomputable def BM (e : Env) (w : World) : Option (Value × World) := Bu P (EV P) 105 26 (.loop (cA (cA (cB (cA (cB (cB (Ai P 105)))))))) e w (Ao 0 (AD P (EV P) 105 26 (cB (cB (cB (Ai P 105)))) (Be P (AA P 105))))
theorem Ge (e : Env) (w : World) : BM e w =
 (bo P .lss 3 (.tmp 13) (.tmp 12) (e 13) (e 12) w).bind fun r1 =>
 AP r1.1 (
 (vl (e 13) r1.2).bind fun r2 =>
 (vl r2.1 r2.2).bind fun r3 =>
 (vl (e 0) (dw r3.2)).bind fun r5 =>
 Aj (r5.2 = (dw r3.2)) <|
 (vl r3.1 (dw r3.2)).bind fun r6 =>
 Aj (r6.2 = (dw r3.2)) <|
 (ia P 30 r5.1 r6.1 (dw r3.2)).bind fun r7 =>
 Aj (r7.2 = (dw r3.2)) <|
 (ld P 36 r7.1 (dw r3.2)).bind fun r8 =>
 Aj (r8.2 = (dw r3.2)) <|
 (vl (e 1) (dw r3.2)).bind fun r9 =>
 Aj (r9.2 = (dw r3.2)) <|
 (vl r3.1 (dw r3.2)).bind fun r10 =>
 Aj (r10.2 = (dw r3.2)) <|
 (ia P 30 r9.1 r10.1 (dw r3.2)).bind fun r11 =>
 Aj (r11.2 = (dw r3.2)) <|
 (ld P 36 r11.1 (dw r3.2)).bind fun r12 =>
 Aj (r12.2 = (dw r3.2)) <|
 (bo P .neq 36 (.tmp 19) (.tmp 23) r8.1 r12.1 (dw r3.2)).bind fun r13 =>
 Aj (r13.2 = (dw r3.2)) <|
 AP r13.1 (
 (vl (.bool false) (dw r3.2)).bind fun r14 =>
 some (r14.1, r14.2)) (
 (bo P .add 3 (.tmp 13) (.const (.int .i64 1)) (e 13) (.int .i64 1) (dw r3.2)).bind fun r15 =>
 (vl r15.1 r15.2).bind fun r16 =>
 BM (AJ e [(14, r1.1), (15, r2.1), (5, r3.1), (16, r5.1), (17, r6.1), (18, r7.1), (19, r8.1), (20, r9.1), (21, r10.1), (22, r11.1), (23, r12.1), (24, r13.1), (25, r15.1), (13, r16.1)]) r16.2)) (
 (vl (.bool true) r1.2).bind fun r17 =>
 some (r17.1, r17.2)) := (Ay P (EV P) 105 26 (cA (cA (cB (cA (cB (cB (Ai P 105))))))) e w (Ao 0 (AD P (EV P) 105 26 (cB (cB (cB (Ai P 105)))) (Be P (AA P 105))))).trans (by kernel_rfl)
theorem Hy (x0 x1 : Value) (w : World) : Bl P (EV P) 105 #[x0, x1] w =
 (vl (.bool false) w).bind fun r1 =>
 (vl x0 r1.2).bind fun r2 =>
 (Au P #[30] 3 #[r2.1] r2.2).bind fun r3 =>
 (vl x1 r3.2).bind fun r4 =>
 (Au P #[30] 3 #[r4.1] r4.2).bind fun r5 =>
 (bo P .neq 3 (.tmp 7) (.tmp 9) r3.1 r5.1 r5.2).bind fun r6 =>
 AP r6.1 (
 (vl (.bool false) r6.2).bind fun r7 =>
 some (r7.1, r7.2)) (
 (vl x0 r6.2).bind fun r8 =>
 (Au P #[30] 3 #[r8.1] r8.2).bind fun r9 =>
 (vl (.int .i64 0) r9.2).bind fun r10 =>
 BM (AJ (AL #[x0, x1]) [(4, r1.1), (6, r2.1), (7, r3.1), (8, r4.1), (9, r5.1), (10, r6.1), (11, r8.1), (12, r9.1), (13, r10.1)]) r10.2) := by kernel_rfl
theorem Hz (x0 : Value) (w : World) : Bl P (EV P) 106 #[x0] w =
 (bx P 49 x0 w).bind fun r1 =>
 (vl (.bool false) r1.2).bind fun r2 =>
 (fa P 49 r1.1 0 r2.2).bind fun r3 =>
 (ld P 3 r3.1 r3.2).bind fun r4 =>
 (EV P 56 #[r4.1] r4.2).bind fun r5 =>
 (vl r5.1 r5.2).bind fun r6 =>
 (An r6.1 true (fa P 49 r1.1 3 r6.2) r6.2).bind fun r7 =>
 (An r6.1 true (ld P 9 r7.1 r7.2) r7.2).bind fun r8 =>
 (An r6.1 true (EV P 118 #[r8.1] r8.2) r8.2).bind fun r9 =>
 (Av r6.1 r9.1 (.bool false) r9.2).bind fun r10 =>
 (vl r10.1 r10.2).bind fun r11 =>
 (An r11.1 true (fa P 49 r1.1 4 r11.2) r11.2).bind fun r12 =>
 (An r11.1 true (ld P 4 r12.1 r12.2) r12.2).bind fun r13 =>
 (An r11.1 true (uo P .not r13.1 r13.2) r13.2).bind fun r14 =>
 (An r11.1 true (vl r14.1 r14.2) r14.2).bind fun r15 =>
 (An r15.1 false (fa P 49 r1.1 3 r15.2) r15.2).bind fun r16 =>
 (An r15.1 false (ld P 9 r16.1 r16.2) r16.2).bind fun r17 =>
 (An r15.1 false (bo P .eql 9 (.tmp 17) (.const (Go.Value.string { data := #[] })) r17.1 (Go.Value.string { data := #[] }) r17.2) r17.2).bind fun r18 =>
 (An r11.1 true (Av r15.1 (.bool true) r18.1 r18.2) r18.2).bind fun r19 =>
 (Av r11.1 r19.1 (.bool false) r19.2).bind fun r20 =>
 (vl r20.1 r20.2).bind fun r21 =>
 (An r21.1 true (fa P 49 r1.1 2 r21.2) r21.2).bind fun r22 =>
 (An r21.1 true (ld P 32 r22.1 r22.2) r22.2).bind fun r23 =>
 (An r21.1 true (EV P 40 #[r23.1] r23.2) r23.2).bind fun r24 =>
 (Av r21.1 r24.1 (.bool false) r24.2).bind fun r25 =>
 (vl r25.1 r25.2).bind fun r26 =>
 some (r26.1, r26.2) := by kernel_rfl
noncomputable def Cx (e : Env) (w : World) : Option (Value × World) := Bu P (EV P) 107 23 (.loop (cA (cA (cB (cA (cB (Ai P 107))))))) e w (Ao 0 (AD P (EV P) 107 23 (cB (cB (Ai P 107))) (Be P (AA P 107))))
theorem Es (e : Env) (w : World) : Cx e w =
 (vl (e 3) w).bind fun r1 =>
 (vl (e 0) r1.2).bind fun r2 =>
 (Au P #[9] 3 #[r2.1] r2.2).bind fun r3 =>
 (bo P .lss 3 (.tmp 4) (.tmp 6) r1.1 r3.1 r3.2).bind fun r4 =>
 AP r4.1 (
 (vl (e 0) r4.2).bind fun r5 =>
 (vl (e 3) r5.2).bind fun r6 =>
 (ix P 9 r5.1 r6.1 r6.2).bind fun r7 =>
 (bo P .lss 5 (.tmp 12) (.const (.int .u8 33)) r7.1 (.int .u8 33) r7.2).bind fun r8 =>
 (vl r8.1 r8.2).bind fun r9 =>
 (An r9.1 false (vl (e 0) r9.2) r9.2).bind fun r10 =>
 (An r9.1 false (vl (e 3) r10.2) r10.2).bind fun r11 =>
 (An r9.1 false (ix P 9 r10.1 r11.1 r11.2) r11.2).bind fun r12 =>
 (An r9.1 false (bo P .gtr 5 (.tmp 17) (.const (.int .u8 126)) r12.1 (.int .u8 126) r12.2) r12.2).bind fun r13 =>
 (Av r9.1 (.bool true) r13.1 r13.2).bind fun r14 =>
 AP r14.1 (
 (vl (.bool false) r14.2).bind fun r15 =>
 some (r15.1, r15.2)) (
 (vl (e 3) r14.2).bind fun r16 =>
 (bo P .add 3 (.tmp 8) (.const (.int .i64 1)) r16.1 (.int .i64 1) r16.2).bind fun r17 =>
 (vl r17.1 r17.2).bind fun r18 =>
 Cx (AJ e [(4, r1.1), (5, r2.1), (6, r3.1), (7, r4.1), (10, r5.1), (11, r6.1), (12, r7.1), (13, r8.1), (14, r9.1), (15, r10.1), (16, r11.1), (17, r12.1), (18, r13.1), (19, r14.1), (8, r16.1), (9, r17.1), (3, r18.1)]) r18.2)) (
 (vl (e 0) r4.2).bind fun r19 =>
 (Au P #[9] 3 #[r19.1] r19.2).bind fun r20 =>
 (bo P .leq 3 (.tmp 21) (.const (.int .i64 8)) r20.1 (.int .i64 8) r20.2).bind fun r21 =>
 (vl r21.1 r21.2).bind fun r22 =>
 some (r22.1, r22.2)) := (Ay P (EV P) 107 23 (cA (cA (cB (cA (cB (Ai P 107)))))) e w (Ao 0 (AD P (EV P) 107 23 (cB (cB (Ai P 107))) (Be P (AA P 107))))).trans (by kernel_rfl)
theorem JH (x0 : Value) (w : World) : Bl P (EV P) 107 #[x0] w =
 (vl (.bool false) w).bind fun r1 =>
 (vl (.int .i64 0) r1.2).bind fun r2 =>
 Cx (AJ (AL #[x0]) [(2, r1.1), (3, r2.1)]) r2.2 := by kernel_rfl
noncomputable def Cy (e : Env) (w : World) : Option (Value × World) := Bu P (EV P) 108 22 (.loop (cA (cA (cB (cA (cB (Ai P 108))))))) e w (Ao 0 (AD P (EV P) 108 22 (cB (cB (Ai P 108))) (Be P (AA P 108))))
theorem Et (e : Env) (w : World) : Cy e w =
 (vl (e 3) w).bind fun r1 =>
 (fa P 32 (e 1) 0 r1.2).bind fun r2 =>
 (ld P 30 r2.1 r2.2).bind fun r3 =>
 (Au P #[30] 3 #[r3.1] r3.2).bind fun r4 =>
 (bo P .lss 3 (.tmp 4) (.tmp 7) r1.1 r4.1 r4.2).bind fun r5 =>
 AP r5.1 (
 (fa P 32 (e 1) 0 r5.2).bind fun r6 =>
 (ld P 30 r6.1 r6.2).bind fun r7 =>
 (vl (e 3) r7.2).bind fun r8 =>
 (ia P 30 r7.1 r8.1 r8.2).bind fun r9 =>
 (ld P 36 r9.1 r9.2).bind fun r10 =>
 (EV P 92 #[r10.1] r10.2).bind fun r11 =>
 (uo P .not r11.1 r11.2).bind fun r12 =>
 AP r12.1 (
 (vl (.bool false) r12.2).bind fun r13 =>
 some (r13.1, r13.2)) (
 (vl (e 3) r12.2).bind fun r14 =>
 (bo P .add 3 (.tmp 9) (.const (.int .i64 1)) r14.1 (.int .i64 1) r14.2).bind fun r15 =>
 (vl r15.1 r15.2).bind fun r16 =>
 Cy (AJ e [(4, r1.1), (5, r2.1), (6, r3.1), (7, r4.1), (8, r5.1), (11, r6.1), (12, r7.1), (13, r8.1), (14, r9.1), (15, r10.1), (16, r11.1), (17, r12.1), (9, r14.1), (10, r15.1), (3, r16.1)]) r16.2)) (
 (fa P 32 (e 1) 0 r5.2).bind fun r17 =>
 (ld P 30 r17.1 r17.2).bind fun r18 =>
 (Au P #[30] 3 #[r18.1] r18.2).bind fun r19 =>
 (bo P .eql 3 (.tmp 20) (.const (.int .i64 4)) r19.1 (.int .i64 4) r19.2).bind fun r20 =>
 (vl r20.1 r20.2).bind fun r21 =>
 some (r21.1, r21.2)) := (Ay P (EV P) 108 22 (cA (cA (cB (cA (cB (Ai P 108)))))) e w (Ao 0 (AD P (EV P) 108 22 (cB (cB (Ai P 108))) (Be P (AA P 108))))).trans (by kernel_rfl)
theorem JI (x0 : Value) (w : World) : Bl P (EV P) 108 #[x0] w =
 (bx P 32 x0 w).bind fun r1 =>
 (vl (.bool false) r1.2).bind fun r2 =>
 (vl (.int .i64 0) r2.2).bind fun r3 =>
 Cy (AJ (AL #[x0]) [(1, r1.1), (2, r2.1), (3, r3.1)]) r3.2 := by kernel_rfl
noncomputable def Bx (e : Env) (w : World) : Option (Value × World) := Bu P (EV P) 110 106 (cB (cA (cB (cA (cB (cB (Ai P 110))))))) e w (Ao 0 (AD P (EV P) 110 106 (cB (cB (cB (Ai P 110)))) (Be P (AA P 110))))
noncomputable def BP (e : Env) (w : World) : Option (Value × World) := Bu P (EV P) 110 106 (cB (cB (cB (cB (cB (cA (cB (cA (cB (cB (Ai P 110))))))))))) e w (Ao 0 (AD P (EV P) 110 106 (cB (cB (cB (Ai P 110)))) (Be P (AA P 110))))
noncomputable def BQ (e : Env) (w : World) : Option (Value × World) := Bu P (EV P) 110 106 (cB (cB (cB (cB (cB (cB (cB (cA (cB (cA (cB (cB (Ai P 110))))))))))))) e w (Ao 0 (AD P (EV P) 110 106 (cB (cB (cB (Ai P 110)))) (Be P (AA P 110))))
noncomputable def BR (e : Env) (w : World) : Option (Value × World) := Bu P (EV P) 110 106 (cB (cB (cB (cB (cB (cB (cB (cB (cB (cB (cB (cA (cB (cA (cB (cB (Ai P 110))))))))))))))))) e w (Ao 0 (AD P (EV P) 110 106 (cB (cB (cB (Ai P 110)))) (Be P (AA P 110))))
noncomputable def Cz (e : Env) (w : World) : Option (Value × World) := Bu P (EV P) 110 106 (cB (cB (cB (cB (cB (cB (cB (cB (cB (cB (cB (cB (cB (cB (cB (cA (cB (cA (cB (cB (Ai P 110))))))))))))))))))))) e w (Ao 0 (AD P (EV P) 110 106 (cB (cB (cB (Ai P 110)))) (Be P (AA P 110))))
noncomputable def CA (e : Env) (w : World) : Option (Value × World) := Bu P (EV P) 110 106 (cB (cB (cB (cB (cB (cB (cB (cB (cB (cB (cB (cB (cB (cB (cB (cB (cB (cA (cB (cA (cB (cB (Ai P 110))))))))))))))))))))))) e w (Ao 0 (AD P (EV P) 110 106 (cB (cB (cB (Ai P 110)))) (Be P (AA P 110))))
theorem HA (e : Env) (w : World) : Bx e w =
 AP (e 11) (
 (vl (e 0) w).bind fun r1 =>
 (EV P 42 #[r1.1, (.int .i64 4)] r1.2).bind fun r2 =>
 (vl (e 0) r2.2).bind fun r3 =>
 (EV P 42 #[r3.1, (.int .i64 4)] r3.2).bind fun r4 =>
 (vl (e 0) r4.2).bind fun r5 =>
 (EV P 117 #[r5.1] r5.2).bind fun r6 =>
 (bd P 137 #[(0, (.int .i64 1)), (1, r2.1), (3, r4.1), (4, r6.1)] r6.2).bind fun r7 =>
 (st P 137 (e 4) r7.1 r7.2).bind fun r8 =>
 ((ld P 137 (e 4) r8.2).bind fun r9 => Aj (r9.2 = r8.2) (some r9.1)).bind fun v10 =>
 some (v10, r8.2)) (
 (bo P .eql 3 (.tmp 10) (.const (.int .i64 3)) (e 10) (.int .i64 3) w).bind fun r11 =>
 (vl r11.1 r11.2).bind fun r12 =>
 AP r12.1 (
 (vl (e 0) r12.2).bind fun r13 =>
 (EV P 42 #[r13.1, (.int .i64 4)] r13.2).bind fun r14 =>
 (vl (e 0) r14.2).bind fun r15 =>
 (EV P 42 #[r15.1, (.int .i64 4)] r15.2).bind fun r16 =>
 (bd P 137 #[(0, (.int .i64 1)), (1, r14.1), (3, r16.1), (5, (.bool true))] r16.2).bind fun r17 =>
 (st P 137 (e 4) r17.1 r17.2).bind fun r18 =>
 ((ld P 137 (e 4) r18.2).bind fun r19 => Aj (r19.2 = r18.2) (some r19.1)).bind fun v20 =>
 some (v20, r18.2)) (
 (bo P .eql 3 (.tmp 10) (.const (.int .i64 4)) (e 10) (.int .i64 4) r12.2).bind fun r21 =>
 (vl r21.1 r21.2).bind fun r22 =>
 AP r22.1 (
 BP (AJ e [(23, r11.1), (22, r12.1), (30, r21.1), (29, r22.1)]) r22.2) (
 (bo P .eql 3 (.tmp 10) (.const (.int .i64 5)) (e 10) (.int .i64 5) r22.2).bind fun r23 =>
 (vl r23.1 r23.2).bind fun r24 =>
 AP r24.1 (
 BP (AJ e [(23, r11.1), (22, r12.1), (30, r21.1), (29, r22.1), (31, r23.1), (29, r24.1)]) r24.2) (
 (bo P .eql 3 (.tmp 10) (.const (.int .i64 6)) (e 10) (.int .i64 6) r24.2).bind fun r25 =>
 (vl r25.1 r25.2).bind fun r26 =>
 BP (AJ e [(23, r11.1), (22, r12.1), (30, r21.1), (29, r22.1), (31, r23.1), (29, r24.1), (32, r25.1), (29, r26.1)]) r26.2)))) := by kernel_rfl
theorem HB (e : Env) (w : World) : BP e w =
 AP (e 29) (
 (vl (e 0) w).bind fun r1 =>
 (EV P 42 #[r1.1, (.int .i64 4)] r1.2).bind fun r2 =>
 (bd P 137 #[(0, (.int .i64 2)), (1, r2.1)] r2.2).bind fun r3 =>
 (st P 137 (e 4) r3.1 r3.2).bind fun r4 =>
 ((ld P 137 (e 4) r4.2).bind fun r5 => Aj (r5.2 = r4.2) (some r5.1)).bind fun v6 =>
 some (v6, r4.2)) (
 (bo P .eql 3 (.tmp 10) (.const (.int .i64 7)) (e 10) (.int .i64 7) w).bind fun r7 =>
 (vl r7.1 r7.2).bind fun r8 =>
 AP r8.1 (
 BQ (AJ e [(37, r7.1), (36, r8.1)]) r8.2) (
 (bo P .eql 3 (.tmp 10) (.const (.int .i64 8)) (e 10) (.int .i64 8) r8.2).bind fun r9 =>
 (vl r9.1 r9.2).bind fun r10 =>
 AP r10.1 (
 BQ (AJ e [(37, r7.1), (36, r8.1), (38, r9.1), (36, r10.1)]) r10.2) (
 (bo P .eql 3 (.tmp 10) (.const (.int .i64 9)) (e 10) (.int .i64 9) r10.2).bind fun r11 =>
 (vl r11.1 r11.2).bind fun r12 =>
 BQ (AJ e [(37, r7.1), (36, r8.1), (38, r9.1), (36, r10.1), (39, r11.1), (36, r12.1)]) r12.2))) := by kernel_rfl
theorem HC (e : Env) (w : World) : BQ e w =
 AP (e 36) (
 (vl (e 0) w).bind fun r1 =>
 (EV P 42 #[r1.1, (.int .i64 4)] r1.2).bind fun r2 =>
 (vl (e 0) r2.2).bind fun r3 =>
 (EV P 42 #[r3.1, (.int .i64 4)] r3.2).bind fun r4 =>
 (vl (e 0) r4.2).bind fun r5 =>
 (EV P 42 #[r5.1, (.int .i64 4)] r5.2).bind fun r6 =>
 (bd P 137 #[(0, (.int .i64 3)), (1, r2.1), (2, r4.1), (3, r6.1)] r6.2).bind fun r7 =>
 (st P 137 (e 4) r7.1 r7.2).bind fun r8 =>
 ((ld P 137 (e 4) r8.2).bind fun r9 => Aj (r9.2 = r8.2) (some r9.1)).bind fun v10 =>
 some (v10, r8.2)) (
 (bo P .eql 3 (.tmp 10) (.const (.int .i64 10)) (e 10) (.int .i64 10) w).bind fun r11 =>
 (vl r11.1 r11.2).bind fun r12 =>
 AP r12.1 (
 (vl (e 0) r12.2).bind fun r13 =>
 (bs P 64 2 #[(0, (.int .i64 4)), (1, (.int .i64 5))] r13.2).bind fun r14 =>
 (EV P 34 #[r13.1, r14.1] r14.2).bind fun r15 =>
 (vl (e 0) r15.2).bind fun r16 =>
 (EV P 42 #[r16.1, (.int .i64 4)] r16.2).bind fun r17 =>
 (vl (e 0) r17.2).bind fun r18 =>
 (EV P 42 #[r18.1, (.int .i64 3)] r18.2).bind fun r19 =>
 (bd P 137 #[(0, r15.1), (1, r17.1), (2, r19.1)] r19.2).bind fun r20 =>
 (st P 137 (e 4) r20.1 r20.2).bind fun r21 =>
 ((ld P 137 (e 4) r21.2).bind fun r22 => Aj (r22.2 = r21.2) (some r22.1)).bind fun v23 =>
 some (v23, r21.2)) (
 (bo P .eql 3 (.tmp 10) (.const (.int .i64 11)) (e 10) (.int .i64 11) r12.2).bind fun r24 =>
 (vl r24.1 r24.2).bind fun r25 =>
 AP r25.1 (
 BR (AJ e [(48, r11.1), (47, r12.1), (58, r24.1), (57, r25.1)]) r25.2) (
 (bo P .eql 3 (.tmp 10) (.const (.int .i64 12)) (e 10) (.int .i64 12) r25.2).bind fun r26 =>
 (vl r26.1 r26.2).bind fun r27 =>
 AP r27.1 (
 BR (AJ e [(48, r11.1), (47, r12.1), (58, r24.1), (57, r25.1), (59, r26.1), (57, r27.1)]) r27.2) (
 (bo P .eql 3 (.tmp 10) (.const (.int .i64 13)) (e 10) (.int .i64 13) r27.2).bind fun r28 =>
 (vl r28.1 r28.2).bind fun r29 =>
 BR (AJ e [(48, r11.1), (47, r12.1), (58, r24.1), (57, r25.1), (59, r26.1), (57, r27.1), (60, r28.1), (57, r29.1)]) r29.2)))) := by kernel_rfl
theorem HD (e : Env) (w : World) : BR e w =
 AP (e 57) (
 (vl (e 5) w).bind fun r1 =>
 (vl (e 0) r1.2).bind fun r2 =>
 (bs P 64 4 #[(0, (.int .i64 0)), (1, (.int .i64 0)), (2, (.int .i64 1)), (3, (.int .i64 2))] r2.2).bind fun r3 =>
 (EV P 34 #[r2.1, r3.1] r3.2).bind fun r4 =>
 (bd P 137 #[(0, (.int .i64 6)), (1, r1.1), (2, r4.1)] r4.2).bind fun r5 =>
 (st P 137 (e 4) r5.1 r5.2).bind fun r6 =>
 ((ld P 137 (e 4) r6.2).bind fun r7 => Aj (r7.2 = r6.2) (some r7.1)).bind fun v8 =>
 some (v8, r6.2)) (
 (bo P .eql 3 (.tmp 10) (.const (.int .i64 14)) (e 10) (.int .i64 14) w).bind fun r9 =>
 (vl r9.1 r9.2).bind fun r10 =>
 AP r10.1 (
 (vl (e 0) r10.2).bind fun r11 =>
 (bs P 64 2 #[(0, (.int .i64 7)), (1, (.int .i64 8))] r11.2).bind fun r12 =>
 (EV P 34 #[r11.1, r12.1] r12.2).bind fun r13 =>
 (vl (e 5) r13.2).bind fun r14 =>
 (vl (e 0) r14.2).bind fun r15 =>
 (EV P 42 #[r15.1, (.int .i64 4)] r15.2).bind fun r16 =>
 (bd P 137 #[(0, r13.1), (1, r14.1), (2, r16.1)] r16.2).bind fun r17 =>
 (st P 137 (e 4) r17.1 r17.2).bind fun r18 =>
 ((ld P 137 (e 4) r18.2).bind fun r19 => Aj (r19.2 = r18.2) (some r19.1)).bind fun v20 =>
 some (v20, r18.2)) (
 (bo P .eql 3 (.tmp 10) (.const (.int .i64 15)) (e 10) (.int .i64 15) r10.2).bind fun r21 =>
 (vl r21.1 r21.2).bind fun r22 =>
 AP r22.1 (
 Cz (AJ e [(67, r9.1), (66, r10.1), (76, r21.1), (75, r22.1)]) r22.2) (
 (bo P .eql 3 (.tmp 10) (.const (.int .i64 16)) (e 10) (.int .i64 16) r22.2).bind fun r23 =>
 (vl r23.1 r23.2).bind fun r24 =>
 Cz (AJ e [(67, r9.1), (66, r10.1), (76, r21.1), (75, r22.1), (77, r23.1), (75, r24.1)]) r24.2))) := by kernel_rfl
theorem HE (e : Env) (w : World) : Cz e w =
 AP (e 75) (
 (vl (e 5) w).bind fun r1 =>
 (vl (e 0) r1.2).bind fun r2 =>
 (EV P 42 #[r2.1, (.int .i64 3)] r2.2).bind fun r3 =>
 (bd P 137 #[(0, (.int .i64 9)), (1, r1.1), (2, r3.1)] r3.2).bind fun r4 =>
 (st P 137 (e 4) r4.1 r4.2).bind fun r5 =>
 ((ld P 137 (e 4) r5.2).bind fun r6 => Aj (r6.2 = r5.2) (some r6.1)).bind fun v7 =>
 some (v7, r5.2)) (
 (bo P .eql 3 (.tmp 10) (.const (.int .i64 17)) (e 10) (.int .i64 17) w).bind fun r8 =>
 (vl r8.1 r8.2).bind fun r9 =>
 AP r9.1 (
 CA (AJ e [(83, r8.1), (82, r9.1)]) r9.2) (
 (bo P .eql 3 (.tmp 10) (.const (.int .i64 18)) (e 10) (.int .i64 18) r9.2).bind fun r10 =>
 (vl r10.1 r10.2).bind fun r11 =>
 CA (AJ e [(83, r8.1), (82, r9.1), (84, r10.1), (82, r11.1)]) r11.2)) := by kernel_rfl
theorem HF (e : Env) (w : World) : CA e w =
 AP (e 82) (
 (vl (e 0) w).bind fun r1 =>
 (EV P 42 #[r1.1, (.int .i64 3)] r1.2).bind fun r2 =>
 (vl r2.1 r2.2).bind fun r3 =>
 (vl (e 5) r3.2).bind fun r4 =>
 (vl r3.1 r4.2).bind fun r5 =>
 (fa P 77 (e 3) 0 r5.2).bind fun r6 =>
 (ld P 73 r6.1 r6.2).bind fun r7 =>
 (vl r3.1 r7.2).bind fun r8 =>
 (ia P 73 r7.1 r8.1 r8.2).bind fun r9 =>
 (fa P 84 r9.1 4 r9.2).bind fun r10 =>
 (ld P 82 r10.1 r10.2).bind fun r11 =>
 (vl (e 5) r11.2).bind fun r12 =>
 (ia P 82 r11.1 r12.1 r12.2).bind fun r13 =>
 (ld P 42 r13.1 r13.2).bind fun r14 =>
 (Au P #[42] 3 #[r14.1] r14.2).bind fun r15 =>
 (bd P 137 #[(0, (.int .i64 10)), (1, r4.1), (2, r5.1), (3, r15.1)] r15.2).bind fun r16 =>
 (st P 137 (e 4) r16.1 r16.2).bind fun r17 =>
 ((ld P 137 (e 4) r17.2).bind fun r18 => Aj (r18.2 = r17.2) (some r18.1)).bind fun v19 =>
 some (v19, r17.2)) (
 (vl (e 0) w).bind fun r20 =>
 (bs P 64 7 #[(0, (.int .i64 11)), (1, (.int .i64 11)), (2, (.int .i64 11)), (3, (.int .i64 12)), (4, (.int .i64 13)), (5, (.int .i64 0)), (6, (.int .i64 14))] r20.2).bind fun r21 =>
 (EV P 34 #[r20.1, r21.1] r21.2).bind fun r22 =>
 (vl (e 0) r22.2).bind fun r23 =>
 (EV P 42 #[r23.1, (.int .i64 3)] r23.2).bind fun r24 =>
 (bd P 137 #[(0, r22.1), (1, r24.1)] r24.2).bind fun r25 =>
 (st P 137 (e 4) r25.1 r25.2).bind fun r26 =>
 ((ld P 137 (e 4) r26.2).bind fun r27 => Aj (r27.2 = r26.2) (some r27.1)).bind fun v28 =>
 some (v28, r26.2)) := by kernel_rfl
theorem JJ (x0 x1 : Value) (w : World) : Bl P (EV P) 110 #[x0, x1] w =
 (bx P 77 x1 w).bind fun r1 =>
 (al P 137 r1.2).bind fun r2 =>
 (vl x0 r2.2).bind fun r3 =>
 (EV P 42 #[r3.1, (.int .i64 3)] r3.2).bind fun r4 =>
 (vl r4.1 r4.2).bind fun r5 =>
 (vl x0 r5.2).bind fun r6 =>
 (EV P 42 #[r6.1, (.int .i64 20)] r6.2).bind fun r7 =>
 (bo P .eql 3 (.tmp 10) (.const (.int .i64 0)) r7.1 (.int .i64 0) r7.2).bind fun r8 =>
 (vl r8.1 r8.2).bind fun r9 =>
 AP r9.1 (
 Bx (AJ (AL #[x0, x1]) [(3, r1.1), (4, r2.1), (7, r3.1), (8, r4.1), (5, r5.1), (9, r6.1), (10, r7.1), (12, r8.1), (11, r9.1)]) r9.2) (
 (bo P .eql 3 (.tmp 10) (.const (.int .i64 1)) r7.1 (.int .i64 1) r9.2).bind fun r10 =>
 (vl r10.1 r10.2).bind fun r11 =>
 AP r11.1 (
 Bx (AJ (AL #[x0, x1]) [(3, r1.1), (4, r2.1), (7, r3.1), (8, r4.1), (5, r5.1), (9, r6.1), (10, r7.1), (12, r8.1), (11, r9.1), (13, r10.1), (11, r11.1)]) r11.2) (
 (bo P .eql 3 (.tmp 10) (.const (.int .i64 2)) r7.1 (.int .i64 2) r11.2).bind fun r12 =>
 (vl r12.1 r12.2).bind fun r13 =>
 Bx (AJ (AL #[x0, x1]) [(3, r1.1), (4, r2.1), (7, r3.1), (8, r4.1), (5, r5.1), (9, r6.1), (10, r7.1), (12, r8.1), (11, r9.1), (13, r10.1), (11, r11.1), (14, r12.1), (11, r13.1)]) r13.2)) := by kernel_rfl
noncomputable def Cq (e : Env) (w : World) : Option (Value × World) := Bu P (EV P) 111 56 (.loop (cA (cA (cB (cA (cB (cB (Ai P 111)))))))) e w (Ao 0 (AD P (EV P) 111 56 (cB (cB (cB (Ai P 111)))) (Be P (AA P 111))))
noncomputable def DB (e : Env) (w : World) : Option (Value × World) := Bu P (EV P) 111 56 (.loop (cA (cA (cB (cA (cB (cA (cA (cB (cA (cA (cB (cA (cB (cB (Ai P 111)))))))))))))))) e w (Ao 2 (AD P (EV P) 111 56 (cB (cB (cA (cA (cB (cA (cA (cB (cA (cB (cB (Ai P 111)))))))))))) (Ao 1 (AD P (EV P) 111 56 (cB (cB (cA (cA (cB (cA (cB (cB (Ai P 111))))))))) (F6 P (EV P) 111 56 (cA (cA (cB (cA (cB (cB (Ai P 111))))))) (Ao 0 (AD P (EV P) 111 56 (cB (cB (cB (Ai P 111)))) (Be P (AA P 111)))))))))
theorem Fm (e : Env) (w : World) : Cq e w =
 (vl (e 4) w).bind fun r1 =>
 (fa P 81 (e 1) 0 r1.2).bind fun r2 =>
 (ld P 79 r2.1 r2.2).bind fun r3 =>
 (Au P #[79] 3 #[r3.1] r3.2).bind fun r4 =>
 (bo P .lss 3 (.tmp 8) (.tmp 11) r1.1 r4.1 r4.2).bind fun r5 =>
 AP r5.1 (
 (fa P 81 (e 1) 0 r5.2).bind fun r6 =>
 (ld P 79 r6.1 r6.2).bind fun r7 =>
 (vl (e 4) r7.2).bind fun r8 =>
 (ia P 79 r7.1 r8.1 r8.2).bind fun r9 =>
 (fa P 86 r9.1 0 r9.2).bind fun r10 =>
 (ld P 44 r10.1 r10.2).bind fun r11 =>
 (EV P 119 #[r11.1] r11.2).bind fun r12 =>
 (bd P 86 #[(0, r12.1)] r12.2).bind fun r13 =>
 (al P 86 r13.2).bind fun r14 =>
 (st P 86 r14.1 r13.1 r14.2).bind fun r15 =>
 (vl (.int .i64 0) r15.2).bind fun r16 =>
 DB (AJ e [(8, r1.1), (9, r2.1), (10, r3.1), (11, r4.1), (12, r5.1), (15, r6.1), (16, r7.1), (17, r8.1), (18, r9.1), (19, r10.1), (20, r11.1), (21, r12.1), (22, r13.1), (5, r14.1), (6, r16.1)]) r16.2) (
 (ld P 81 (e 3) r5.2).bind fun r17 =>
 (st P 81 (e 2) r17.1 r17.2).bind fun r18 =>
 ((ld P 81 (e 2) r18.2).bind fun r19 => Aj (r19.2 = r18.2) (some r19.1)).bind fun v20 =>
 some (v20, r18.2)) := (Ay P (EV P) 111 56 (cA (cA (cB (cA (cB (cB (Ai P 111))))))) e w (Ao 0 (AD P (EV P) 111 56 (cB (cB (cB (Ai P 111)))) (Be P (AA P 111))))).trans (by kernel_rfl)
theorem Fo (e : Env) (w : World) : DB e w =
 (vl (e 6) w).bind fun r1 =>
 (fa P 81 (e 1) 0 r1.2).bind fun r2 =>
 (ld P 79 r2.1 r2.2).bind fun r3 =>
 (vl (e 4) r3.2).bind fun r4 =>
 (ia P 79 r3.1 r4.1 r4.2).bind fun r5 =>
 (fa P 86 r5.1 1 r5.2).bind fun r6 =>
 (ld P 42 r6.1 r6.2).bind fun r7 =>
 (Au P #[42] 3 #[r7.1] r7.2).bind fun r8 =>
 (bo P .lss 3 (.tmp 23) (.tmp 30) r1.1 r8.1 r8.2).bind fun r9 =>
 AP r9.1 (
 (fa P 86 (e 5) 1 (dw r9.2)).bind fun r11 =>
 Aj (r11.2 = (dw r9.2)) <|
 (ld P 42 r11.1 (dw r9.2)).bind fun r12 =>
 Aj (r12.2 = (dw r9.2)) <|
 (fa P 81 (e 1) 0 (dw r9.2)).bind fun r13 =>
 Aj (r13.2 = (dw r9.2)) <|
 (ld P 79 r13.1 (dw r9.2)).bind fun r14 =>
 Aj (r14.2 = (dw r9.2)) <|
 (vl (e 4) (dw r9.2)).bind fun r15 =>
 Aj (r15.2 = (dw r9.2)) <|
 (ia P 79 r14.1 r15.1 (dw r9.2)).bind fun r16 =>
 Aj (r16.2 = (dw r9.2)) <|
 (fa P 86 r16.1 1 (dw r9.2)).bind fun r17 =>
 Aj (r17.2 = (dw r9.2)) <|
 (ld P 42 r17.1 (dw r9.2)).bind fun r18 =>
 Aj (r18.2 = (dw r9.2)) <|
 (vl (e 6) (dw r9.2)).bind fun r19 =>
 Aj (r19.2 = (dw r9.2)) <|
 (ia P 42 r18.1 r19.1 (dw r9.2)).bind fun r20 =>
 Aj (r20.2 = (dw r9.2)) <|
 (ld P 49 r20.1 (dw r9.2)).bind fun r21 =>
 Aj (r21.2 = (dw r9.2)) <|
 (EV P 98 #[r21.1] (dw r9.2)).bind fun r22 =>
 Aj (True ∧ True ∧ True ∧ True ∧ True ∧ True ∧ True ∧ ld P 42 r11.1 r22.2 = some (r12.1, r22.2) ∧ fa P 86 (e 5) 1 r22.2 = some (r11.1, r22.2) ∧ True) <|
 (bs P 42 1 #[(0, r22.1)] r22.2).bind fun r23 =>
 Aj (True ∧ True ∧ True ∧ True ∧ True ∧ True ∧ True ∧ ld P 42 r11.1 r23.2 = some (r12.1, r23.2) ∧ fa P 86 (e 5) 1 r23.2 = some (r11.1, r23.2) ∧ True) <|
 (Ar P #[42, 42] 42 #[r12.1, r23.1] r23.2).bind fun r24 =>
 Aj (True ∧ True ∧ True ∧ True ∧ True ∧ True ∧ True ∧ True ∧ True ∧ True) <|
 (fa P 86 (e 5) 1 r24.2).bind fun r25 =>
 Aj (r25.2 = r24.2) <|
 (st P 42 r25.1 r24.1 r24.2).bind fun r26 =>
 Aj (True ∧ True ∧ True ∧ True ∧ True ∧ True ∧ True ∧ True ∧ True ∧ True ∧ True) <|
 (vl (e 6) r26.2).bind fun r27 =>
 (bo P .add 3 (.tmp 32) (.const (.int .i64 1)) r27.1 (.int .i64 1) r27.2).bind fun r28 =>
 (vl r28.1 r28.2).bind fun r29 =>
 DB (AJ e [(23, r1.1), (24, r2.1), (25, r3.1), (26, r4.1), (27, r5.1), (28, r6.1), (29, r7.1), (30, r8.1), (31, r9.1), (34, r11.1), (35, r12.1), (36, r13.1), (37, r14.1), (38, r15.1), (39, r16.1), (40, r17.1), (41, r18.1), (42, r19.1), (43, r20.1), (44, r21.1), (45, r22.1), (46, r23.1), (47, r24.1), (48, r25.1), (32, r27.1), (33, r28.1), (6, r29.1)]) r29.2) (
 (fa P 81 (e 3) 0 r9.2).bind fun r30 =>
 (ld P 79 r30.1 r30.2).bind fun r31 =>
 (ld P 86 (e 5) r31.2).bind fun r32 =>
 (bs P 79 1 #[(0, r32.1)] r32.2).bind fun r33 =>
 (Ar P #[79, 79] 79 #[r31.1, r33.1] r33.2).bind fun r34 =>
 (fa P 81 (e 3) 0 r34.2).bind fun r35 =>
 (st P 79 r35.1 r34.1 r35.2).bind fun r36 =>
 (vl (e 4) r36.2).bind fun r37 =>
 (bo P .add 3 (.tmp 13) (.const (.int .i64 1)) r37.1 (.int .i64 1) r37.2).bind fun r38 =>
 (vl r38.1 r38.2).bind fun r39 =>
 Cq (AJ e [(23, r1.1), (24, r2.1), (25, r3.1), (26, r4.1), (27, r5.1), (28, r6.1), (29, r7.1), (30, r8.1), (31, r9.1), (49, r30.1), (50, r31.1), (51, r32.1), (52, r33.1), (53, r34.1), (54, r35.1), (13, r37.1), (14, r38.1), (4, r39.1)]) r39.2) := (Ay P (EV P) 111 56 (cA (cA (cB (cA (cB (cA (cA (cB (cA (cA (cB (cA (cB (cB (Ai P 111))))))))))))))) e w (Ao 2 (AD P (EV P) 111 56 (cB (cB (cA (cA (cB (cA (cA (cB (cA (cB (cB (Ai P 111)))))))))))) (Ao 1 (AD P (EV P) 111 56 (cB (cB (cA (cA (cB (cA (cB (cB (Ai P 111))))))))) (F6 P (EV P) 111 56 (cA (cA (cB (cA (cB (cB (Ai P 111))))))) (Ao 0 (AD P (EV P) 111 56 (cB (cB (cB (Ai P 111)))) (Be P (AA P 111)))))))))).trans (by kernel_rfl)
theorem Lc (x0 : Value) (w : World) : Bl P (EV P) 111 #[x0] w =
 (bx P 81 x0 w).bind fun r1 =>
 (al P 81 r1.2).bind fun r2 =>
 (bd P 81 #[] r2.2).bind fun r3 =>
 (al P 81 r3.2).bind fun r4 =>
 (st P 81 r4.1 r3.1 r4.2).bind fun r5 =>
 (vl (.int .i64 0) r5.2).bind fun r6 =>
 Cq (AJ (AL #[x0]) [(1, r1.1), (2, r2.1), (7, r3.1), (3, r4.1), (4, r6.1)]) r6.2 := by kernel_rfl
noncomputable def DC (e : Env) (w : World) : Option (Value × World) := Bu P (EV P) 112 21 (.loop (cA (cA (cB (cA (cB (cB (Ai P 112)))))))) e w (Ao 0 (AD P (EV P) 112 21 (cB (cB (cB (Ai P 112)))) (Be P (AA P 112))))
theorem Fp (e : Env) (w : World) : DC e w =
 (vl (e 4) w).bind fun r1 =>
 (vl (e 0) r1.2).bind fun r2 =>
 (Au P #[42] 3 #[r2.1] r2.2).bind fun r3 =>
 (bo P .lss 3 (.tmp 6) (.tmp 8) r1.1 r3.1 r3.2).bind fun r4 =>
 AP r4.1 (
 (vl (e 3) r4.2).bind fun r5 =>
 (vl (e 0) r5.2).bind fun r6 =>
 (vl (e 4) r6.2).bind fun r7 =>
 (ia P 42 r6.1 r7.1 r7.2).bind fun r8 =>
 (ld P 49 r8.1 r8.2).bind fun r9 =>
 (EV P 98 #[r9.1] r9.2).bind fun r10 =>
 (bs P 42 1 #[(0, r10.1)] r10.2).bind fun r11 =>
 (Ar P #[42, 42] 42 #[r5.1, r11.1] r11.2).bind fun r12 =>
 (vl r12.1 r12.2).bind fun r13 =>
 (vl (e 4) r13.2).bind fun r14 =>
 (bo P .add 3 (.tmp 10) (.const (.int .i64 1)) r14.1 (.int .i64 1) r14.2).bind fun r15 =>
 (vl r15.1 r15.2).bind fun r16 =>
 DC (AJ e [(6, r1.1), (7, r2.1), (8, r3.1), (9, r4.1), (12, r5.1), (13, r6.1), (14, r7.1), (15, r8.1), (16, r9.1), (17, r10.1), (18, r11.1), (19, r12.1), (3, r13.1), (10, r14.1), (11, r15.1), (4, r16.1)]) r16.2) (
 (vl (e 3) r4.2).bind fun r17 =>
 (vl r17.1 r17.2).bind fun r18 =>
 some (r18.1, r18.2)) := (Ay P (EV P) 112 21 (cA (cA (cB (cA (cB (cB (Ai P 112))))))) e w (Ao 0 (AD P (EV P) 112 21 (cB (cB (cB (Ai P 112)))) (Be P (AA P 112))))).trans (by kernel_rfl)
theorem Ld (x0 : Value) (w : World) : Bl P (EV P) 112 #[x0] w =
 (vl (Go.Value.slice none 0 0) w).bind fun r1 =>
 (bs P 42 0 #[] r1.2).bind fun r2 =>
 (vl r2.1 r2.2).bind fun r3 =>
 (vl (.int .i64 0) r3.2).bind fun r4 =>
 DC (AJ (AL #[x0]) [(2, r1.1), (5, r2.1), (3, r3.1), (4, r4.1)]) r4.2 := by kernel_rfl
noncomputable def FI (e : Env) (w : World) : Option (Value × World) := Bu P (EV P) 113 10 (cA (cB (Ai P 113))) e w (AD P (EV P) 113 10 (cB (cB (Ai P 113))) (Be P (AA P 113)))
noncomputable def FJ (e : Env) (w : World) : Option (Value × World) := Bu P (EV P) 113 10 (cB (cB (Ai P 113))) e w (Be P (AA P 113))
theorem I0 (e : Env) (w : World) {Q : Value × World → Prop} (h :
 (Ag (vl (e 0) (dw w)) fun r1 => r1.2 = (dw w) ∧
 (Ag (vl (e 1) (dw w)) fun r2 => r2.2 = (dw w) ∧
 ((Ag (EV P 120 #[r2.1] (dw w)) fun r3 => (True) ∧
 ((Ag (ms P 82 (.int .i64 3) (.int .i64 3) r3.2) fun r4 => (True) ∧
 (Ag (bd P 84 #[(0, r1.1), (2, r3.1), (4, r4.1)] r4.2) fun r5 => r5.2 = r4.2 ∧
 ((Ag (st P 84 (e 4) r5.1 r4.2) fun r6 => (True ∧ True) ∧
 Ag (FJ (AJ e [(5, r1.1), (6, r2.1), (7, r3.1), (8, r4.1), (9, r5.1)]) r6.2) Q)))))) ∧
 (Ag (ms P 82 (.int .i64 3) (.int .i64 3) (dw w)) fun r7 => (True) ∧
 ((Ag (EV P 120 #[r2.1] r7.2) fun r8 => (True) ∧
 (Ag (bd P 84 #[(0, r1.1), (2, r8.1), (4, r7.1)] r8.2) fun r9 => r9.2 = r8.2 ∧
 ((Ag (st P 84 (e 4) r9.1 r8.2) fun r10 => (True ∧ True) ∧
 Ag (FJ (AJ e [(5, r1.1), (6, r2.1), (8, r7.1), (7, r8.1), (9, r9.1)]) r10.2) Q)))))))))) : Ag (FI e w) Q := Gf (id := 1) (ops := opsOf (cA (cB (Ai P 113)))) (by kernel_rfl) (by kernel_rfl) (Eq.mpr (by kernel_rfl) h)
theorem FY (e : Env) (w : World) : FJ e w =
 ((ld P 84 (e 4) w).bind fun r1 => Aj (r1.2 = w) (some r1.1)).bind fun v2 =>
 some (v2, w) := by kernel_rfl
theorem Mr (x0 x1 : Value) (w : World) : Bl P (EV P) 113 #[x0, x1] w =
 (al P 84 w).bind fun r1 =>
 FI (AJ (AL #[x0, x1]) [(4, r1.1)]) r1.2 := by kernel_rfl
theorem JK (x0 x1 : Value) (w : World) : Bl P (EV P) 114 #[x0, x1] w =
 (bx P 77 x0 w).bind fun r1 =>
 (bx P 137 x1 r1.2).bind fun r2 =>
 (al P 77 r2.2).bind fun r3 =>
 (vl (.bool false) r3.2).bind fun r4 =>
 (fa P 137 r2.1 1 r4.2).bind fun r5 =>
 (ld P 3 r5.1 r5.2).bind fun r6 =>
 (fa P 77 r1.1 1 r6.2).bind fun r7 =>
 (ld P 74 r7.1 r7.2).bind fun r8 =>
 (Au P #[74] 3 #[r8.1] r8.2).bind fun r9 =>
 (bo P .sub 3 (.tmp 10) (.const (.int .i64 1)) r9.1 (.int .i64 1) r9.2).bind fun r10 =>
 (EV P 37 #[r6.1, (.int .i64 0), r10.1] r10.2).bind fun r11 =>
 (uo P .not r11.1 r11.2).bind fun r12 =>
 AP r12.1 (
 (ld P 77 r1.1 r12.2).bind fun r13 =>
 (st P 77 r3.1 r13.1 r13.2).bind fun r14 =>
 (vl (.bool false) r14.2).bind fun r15 =>
 ((ld P 77 r3.1 r15.2).bind fun r16 => Aj (r16.2 = r15.2) (some r16.1)).bind fun v17 =>
 some (.tuple #[v17, r15.1], r15.2)) (
 (fa P 137 r2.1 0 r12.2).bind fun r18 =>
 (ld P 3 r18.1 r18.2).bind fun r19 =>
 (bo P .eql 3 (.tmp 16) (.const (.int .i64 1)) r19.1 (.int .i64 1) r19.2).bind fun r20 =>
 (vl r20.1 r20.2).bind fun r21 =>
 AP r21.1 (
 (ld P 77 r1.1 r21.2).bind fun r22 =>
 (ld P 137 r2.1 r22.2).bind fun r23 =>
 (EV P 121 #[r22.1, r23.1] r23.2).bind fun r24 =>
 (xt P r24.1 0 r24.2).bind fun r25 =>
 (xt P r24.1 1 r25.2).bind fun r26 =>
 (st P 77 r3.1 r25.1 r26.2).bind fun r27 =>
 (vl r26.1 r27.2).bind fun r28 =>
 ((ld P 77 r3.1 r28.2).bind fun r29 => Aj (r29.2 = r28.2) (some r29.1)).bind fun v30 =>
 some (.tuple #[v30, r28.1], r28.2)) (
 (bo P .eql 3 (.tmp 16) (.const (.int .i64 2)) r19.1 (.int .i64 2) r21.2).bind fun r31 =>
 (vl r31.1 r31.2).bind fun r32 =>
 AP r32.1 (
 (ld P 77 r1.1 r32.2).bind fun r33 =>
 (ld P 137 r2.1 r33.2).bind fun r34 =>
 (EV P 122 #[r33.1, r34.1] r34.2).bind fun r35 =>
 (xt P r35.1 0 r35.2).bind fun r36 =>
 (xt P r35.1 1 r36.2).bind fun r37 =>
 (st P 77 r3.1 r36.1 r37.2).bind fun r38 =>
 (vl r37.1 r38.2).bind fun r39 =>
 ((ld P 77 r3.1 r39.2).bind fun r40 => Aj (r40.2 = r39.2) (some r40.1)).bind fun v41 =>
 some (.tuple #[v41, r39.1], r39.2)) (
 (bo P .eql 3 (.tmp 16) (.const (.int .i64 3)) r19.1 (.int .i64 3) r32.2).bind fun r42 =>
 (vl r42.1 r42.2).bind fun r43 =>
 AP r43.1 (
 (ld P 77 r1.1 r43.2).bind fun r44 =>
 (ld P 137 r2.1 r44.2).bind fun r45 =>
 (EV P 123 #[r44.1, r45.1] r45.2).bind fun r46 =>
 (xt P r46.1 0 r46.2).bind fun r47 =>
 (xt P r46.1 1 r47.2).bind fun r48 =>
 (st P 77 r3.1 r47.1 r48.2).bind fun r49 =>
 (vl r48.1 r49.2).bind fun r50 =>
 ((ld P 77 r3.1 r50.2).bind fun r51 => Aj (r51.2 = r50.2) (some r51.1)).bind fun v52 =>
 some (.tuple #[v52, r50.1], r50.2)) (
 (bo P .eql 3 (.tmp 16) (.const (.int .i64 4)) r19.1 (.int .i64 4) r43.2).bind fun r53 =>
 (vl r53.1 r53.2).bind fun r54 =>
 AP r54.1 (
 (ld P 77 r1.1 r54.2).bind fun r55 =>
 (ld P 137 r2.1 r55.2).bind fun r56 =>
 (EV P 124 #[r55.1, r56.1] r56.2).bind fun r57 =>
 (xt P r57.1 0 r57.2).bind fun r58 =>
 (xt P r57.1 1 r58.2).bind fun r59 =>
 (st P 77 r3.1 r58.1 r59.2).bind fun r60 =>
 (vl r59.1 r60.2).bind fun r61 =>
 ((ld P 77 r3.1 r61.2).bind fun r62 => Aj (r62.2 = r61.2) (some r62.1)).bind fun v63 =>
 some (.tuple #[v63, r61.1], r61.2)) (
 (fa P 77 r1.1 1 r54.2).bind fun r64 =>
 (ld P 74 r64.1 r64.2).bind fun r65 =>
 (fa P 137 r2.1 1 r65.2).bind fun r66 =>
 (ld P 3 r66.1 r66.2).bind fun r67 =>
 (ia P 74 r65.1 r67.1 r67.2).bind fun r68 =>
 (fa P 129 r68.1 2 r68.2).bind fun r69 =>
 (fa P 36 r69.1 0 r69.2).bind fun r70 =>
 (ld P 3 r70.1 r70.2).bind fun r71 =>
 (bo P .gtr 3 (.tmp 52) (.const (.int .i64 0)) r71.1 (.int .i64 0) r71.2).bind fun r72 =>
 (vl r72.1 r72.2).bind fun r73 =>
 (An r73.1 false (fa P 137 r2.1 2 r73.2) r73.2).bind fun r74 =>
 (An r73.1 false (ld P 3 r74.1 r74.2) r74.2).bind fun r75 =>
 (An r73.1 false (EV P 37 #[r75.1, (.int .i64 0), (.int .i64 2)] r75.2) r75.2).bind fun r76 =>
 (An r73.1 false (uo P .not r76.1 r76.2) r76.2).bind fun r77 =>
 (Av r73.1 (.bool true) r77.1 r77.2).bind fun r78 =>
 AP r78.1 (
 (ld P 77 r1.1 r78.2).bind fun r79 =>
 (st P 77 r3.1 r79.1 r79.2).bind fun r80 =>
 (vl (.bool false) r80.2).bind fun r81 =>
 ((ld P 77 r3.1 r81.2).bind fun r82 => Aj (r82.2 = r81.2) (some r82.1)).bind fun v83 =>
 some (.tuple #[v83, r81.1], r81.2)) (
 (fa P 77 r1.1 1 r78.2).bind fun r84 =>
 (ld P 74 r84.1 r84.2).bind fun r85 =>
 (fa P 137 r2.1 1 r85.2).bind fun r86 =>
 (ld P 3 r86.1 r86.2).bind fun r87 =>
 (fa P 137 r2.1 2 r87.2).bind fun r88 =>
 (ld P 3 r88.1 r88.2).bind fun r89 =>
 (ia P 74 r85.1 r87.1 r89.2).bind fun r90 =>
 (fa P 129 r90.1 0 r90.2).bind fun r91 =>
 (st P 3 r91.1 r89.1 r91.2).bind fun r92 =>
 (ld P 77 r1.1 r92.2).bind fun r93 =>
 (st P 77 r3.1 r93.1 r93.2).bind fun r94 =>
 (vl (.bool true) r94.2).bind fun r95 =>
 ((ld P 77 r3.1 r95.2).bind fun r96 => Aj (r96.2 = r95.2) (some r96.1)).bind fun v97 =>
 some (.tuple #[v97, r95.1], r95.2))))))) := by kernel_rfl
noncomputable def AR (e : Env) (w : World) : Option (Value × World) := Bu P (EV P) 115 87 (cB (cB (cB (cB (cB (Ai P 115)))))) e w (Be P (AA P 115))
theorem Ig (e : Env) (w : World) : AR e w =
 (fa P 77 (e 2) 0 w).bind fun r1 =>
 (ld P 73 r1.1 r1.2).bind fun r2 =>
 (fa P 137 (e 3) 1 r2.2).bind fun r3 =>
 (ld P 3 r3.1 r3.2).bind fun r4 =>
 (ld P 84 (e 6) r4.2).bind fun r5 =>
 (ia P 73 r2.1 r4.1 r5.2).bind fun r6 =>
 (st P 84 r6.1 r5.1 r6.2).bind fun r7 =>
 (ld P 77 (e 2) r7.2).bind fun r8 =>
 (vl (e 7) r8.2).bind fun r9 =>
 (st P 77 (e 4) r8.1 r9.2).bind fun r10 =>
 (vl r9.1 r10.2).bind fun r11 =>
 ((ld P 77 (e 4) r11.2).bind fun r12 => Aj (r12.2 = r11.2) (some r12.1)).bind fun v13 =>
 some (.tuple #[v13, r11.1], r11.2) := by kernel_rfl
theorem Kq (x0 x1 : Value) (w : World) : Bl P (EV P) 115 #[x0, x1] w =
 (bx P 77 x0 w).bind fun r1 =>
 (bx P 137 x1 r1.2).bind fun r2 =>
 (al P 77 r2.2).bind fun r3 =>
 (vl (.bool false) r3.2).bind fun r4 =>
 (fa P 137 r2.1 1 r4.2).bind fun r5 =>
 (ld P 3 r5.1 r5.2).bind fun r6 =>
 (EV P 37 #[r6.1, (.int .i64 0), (.int .i64 2)] r6.2).bind fun r7 =>
 (uo P .not r7.1 r7.2).bind fun r8 =>
 AP r8.1 (
 (ld P 77 r1.1 r8.2).bind fun r9 =>
 (st P 77 r3.1 r9.1 r9.2).bind fun r10 =>
 (vl (.bool false) r10.2).bind fun r11 =>
 ((ld P 77 r3.1 r11.2).bind fun r12 => Aj (r12.2 = r11.2) (some r12.1)).bind fun v13 =>
 some (.tuple #[v13, r11.1], r11.2)) (
 (fa P 77 r1.1 0 r8.2).bind fun r14 =>
 (ld P 73 r14.1 r14.2).bind fun r15 =>
 (fa P 137 r2.1 1 r15.2).bind fun r16 =>
 (ld P 3 r16.1 r16.2).bind fun r17 =>
 (ia P 73 r15.1 r17.1 r17.2).bind fun r18 =>
 (ld P 84 r18.1 r18.2).bind fun r19 =>
 (al P 84 r19.2).bind fun r20 =>
 (st P 84 r20.1 r19.1 r20.2).bind fun r21 =>
 (vl (.bool false) r21.2).bind fun r22 =>
 (fa P 137 r2.1 0 r22.2).bind fun r23 =>
 (ld P 3 r23.1 r23.2).bind fun r24 =>
 (bo P .eql 3 (.tmp 20) (.const (.int .i64 6)) r24.1 (.int .i64 6) r24.2).bind fun r25 =>
 (vl r25.1 r25.2).bind fun r26 =>
 AP r26.1 (
 (fa P 84 r20.1 2 r26.2).bind fun r27 =>
 (ld P 81 r27.1 r27.2).bind fun r28 =>
 (fa P 137 r2.1 2 r28.2).bind fun r29 =>
 (ld P 3 r29.1 r29.2).bind fun r30 =>
 (EV P 125 #[r28.1, r30.1] r30.2).bind fun r31 =>
 (vl r31.1 r31.2).bind fun r32 =>
 (vl r32.1 r32.2).bind fun r33 =>
 AP r33.1 (
 (fa P 84 r20.1 2 r33.2).bind fun r34 =>
 (ld P 81 r34.1 r34.2).bind fun r35 =>
 (fa P 137 r2.1 2 r35.2).bind fun r36 =>
 (ld P 3 r36.1 r36.2).bind fun r37 =>
 (EV P 126 #[r35.1, r37.1] r37.2).bind fun r38 =>
 (fa P 84 r20.1 2 r38.2).bind fun r39 =>
 (st P 81 r39.1 r38.1 r39.2).bind fun r40 =>
 (ld P 84 r20.1 r40.2).bind fun r41 =>
 (EV P 127 #[r41.1] r41.2).bind fun r42 =>
 (st P 84 r20.1 r42.1 r42.2).bind fun r43 =>
 AR (AJ (AL #[x0, x1]) [(2, r1.1), (3, r2.1), (4, r3.1), (5, r4.1), (8, r5.1), (9, r6.1), (10, r7.1), (11, r8.1), (13, r14.1), (14, r15.1), (15, r16.1), (16, r17.1), (17, r18.1), (18, r19.1), (6, r20.1), (7, r22.1), (19, r23.1), (20, r24.1), (36, r25.1), (35, r26.1), (37, r27.1), (38, r28.1), (39, r29.1), (40, r30.1), (41, r31.1), (7, r32.1), (42, r33.1), (43, r34.1), (44, r35.1), (45, r36.1), (46, r37.1), (47, r38.1), (48, r39.1), (49, r41.1), (50, r42.1)]) r43.2) (
 AR (AJ (AL #[x0, x1]) [(2, r1.1), (3, r2.1), (4, r3.1), (5, r4.1), (8, r5.1), (9, r6.1), (10, r7.1), (11, r8.1), (13, r14.1), (14, r15.1), (15, r16.1), (16, r17.1), (17, r18.1), (18, r19.1), (6, r20.1), (7, r22.1), (19, r23.1), (20, r24.1), (36, r25.1), (35, r26.1), (37, r27.1), (38, r28.1), (39, r29.1), (40, r30.1), (41, r31.1), (7, r32.1), (42, r33.1)]) r33.2)) (
 (bo P .eql 3 (.tmp 20) (.const (.int .i64 7)) r24.1 (.int .i64 7) r26.2).bind fun r44 =>
 (vl r44.1 r44.2).bind fun r45 =>
 AP r45.1 (
 (ld P 84 r20.1 r45.2).bind fun r46 =>
 (fa P 137 r2.1 2 r46.2).bind fun r47 =>
 (ld P 3 r47.1 r47.2).bind fun r48 =>
 (EV P 128 #[r46.1, r48.1] r48.2).bind fun r49 =>
 (vl r49.1 r49.2).bind fun r50 =>
 (vl r50.1 r50.2).bind fun r51 =>
 AP r51.1 (
 (fa P 84 r20.1 2 r51.2).bind fun r52 =>
 (ld P 81 r52.1 r52.2).bind fun r53 =>
 (fa P 137 r2.1 2 r53.2).bind fun r54 =>
 (ld P 3 r54.1 r54.2).bind fun r55 =>
 (EV P 129 #[r53.1, r55.1] r55.2).bind fun r56 =>
 (fa P 84 r20.1 2 r56.2).bind fun r57 =>
 (st P 81 r57.1 r56.1 r57.2).bind fun r58 =>
 (fa P 84 r20.1 5 r58.2).bind fun r59 =>
 (st P 4 r59.1 (.bool true) r59.2).bind fun r60 =>
 (ld P 84 r20.1 r60.2).bind fun r61 =>
 (EV P 127 #[r61.1] r61.2).bind fun r62 =>
 (st P 84 r20.1 r62.1 r62.2).bind fun r63 =>
 AR (AJ (AL #[x0, x1]) [(2, r1.1), (3, r2.1), (4, r3.1), (5, r4.1), (8, r5.1), (9, r6.1), (10, r7.1), (11, r8.1), (13, r14.1), (14, r15.1), (15, r16.1), (16, r17.1), (17, r18.1), (18, r19.1), (6, r20.1), (7, r22.1), (19, r23.1), (20, r24.1), (36, r25.1), (35, r26.1), (52, r44.1), (51, r45.1), (53, r46.1), (54, r47.1), (55, r48.1), (56, r49.1), (7, r50.1), (57, r51.1), (58, r52.1), (59, r53.1), (60, r54.1), (61, r55.1), (62, r56.1), (63, r57.1), (64, r59.1), (65, r61.1), (66, r62.1)]) r63.2) (
 AR (AJ (AL #[x0, x1]) [(2, r1.1), (3, r2.1), (4, r3.1), (5, r4.1), (8, r5.1), (9, r6.1), (10, r7.1), (11, r8.1), (13, r14.1), (14, r15.1), (15, r16.1), (16, r17.1), (17, r18.1), (18, r19.1), (6, r20.1), (7, r22.1), (19, r23.1), (20, r24.1), (36, r25.1), (35, r26.1), (52, r44.1), (51, r45.1), (53, r46.1), (54, r47.1), (55, r48.1), (56, r49.1), (7, r50.1), (57, r51.1)]) r51.2)) (
 (bo P .eql 3 (.tmp 20) (.const (.int .i64 8)) r24.1 (.int .i64 8) r45.2).bind fun r64 =>
 (vl r64.1 r64.2).bind fun r65 =>
 AP r65.1 (
 (fa P 84 r20.1 2 r65.2).bind fun r66 =>
 (fa P 81 r66.1 0 r66.2).bind fun r67 =>
 (ld P 79 r67.1 r67.2).bind fun r68 =>
 (Au P #[79] 3 #[r68.1] r68.2).bind fun r69 =>
 (bo P .lss 3 (.tmp 72) (.const (.int .i64 4)) r69.1 (.int .i64 4) r69.2).bind fun r70 =>
 (vl r70.1 r70.2).bind fun r71 =>
 (vl r71.1 r71.2).bind fun r72 =>
 AP r72.1 (
 (fa P 84 r20.1 2 r72.2).bind fun r73 =>
 (ld P 81 r73.1 r73.2).bind fun r74 =>
 (EV P 130 #[r74.1] r74.2).bind fun r75 =>
 (fa P 84 r20.1 2 r75.2).bind fun r76 =>
 (st P 81 r76.1 r75.1 r76.2).bind fun r77 =>
 AR (AJ (AL #[x0, x1]) [(2, r1.1), (3, r2.1), (4, r3.1), (5, r4.1), (8, r5.1), (9, r6.1), (10, r7.1), (11, r8.1), (13, r14.1), (14, r15.1), (15, r16.1), (16, r17.1), (17, r18.1), (18, r19.1), (6, r20.1), (7, r22.1), (19, r23.1), (20, r24.1), (36, r25.1), (35, r26.1), (52, r44.1), (51, r45.1), (68, r64.1), (67, r65.1), (69, r66.1), (70, r67.1), (71, r68.1), (72, r69.1), (73, r70.1), (7, r71.1), (74, r72.1), (75, r73.1), (76, r74.1), (77, r75.1), (78, r76.1)]) r77.2) (
 AR (AJ (AL #[x0, x1]) [(2, r1.1), (3, r2.1), (4, r3.1), (5, r4.1), (8, r5.1), (9, r6.1), (10, r7.1), (11, r8.1), (13, r14.1), (14, r15.1), (15, r16.1), (16, r17.1), (17, r18.1), (18, r19.1), (6, r20.1), (7, r22.1), (19, r23.1), (20, r24.1), (36, r25.1), (35, r26.1), (52, r44.1), (51, r45.1), (68, r64.1), (67, r65.1), (69, r66.1), (70, r67.1), (71, r68.1), (72, r69.1), (73, r70.1), (7, r71.1), (74, r72.1)]) r72.2)) (
 (fa P 137 r2.1 2 r65.2).bind fun r78 =>
 (ld P 3 r78.1 r78.2).bind fun r79 =>
 (EV P 37 #[r79.1, (.int .i64 0), (.int .i64 2)] r79.2).bind fun r80 =>
 (vl r80.1 r80.2).bind fun r81 =>
 (An r81.1 true (ld P 84 r20.1 r81.2) r81.2).bind fun r82 =>
 (An r81.1 true (fa P 137 r2.1 2 r82.2) r82.2).bind fun r83 =>
 (An r81.1 true (ld P 3 r83.1 r83.2) r83.2).bind fun r84 =>
 (An r81.1 true (EV P 131 #[r82.1, r84.1] r84.2) r84.2).bind fun r85 =>
 (Av r81.1 r85.1 (.bool false) r85.2).bind fun r86 =>
 (vl r86.1 r86.2).bind fun r87 =>
 (vl r87.1 r87.2).bind fun r88 =>
 AP r88.1 (
 (ld P 84 r20.1 r88.2).bind fun r89 =>
 (fa P 137 r2.1 2 r89.2).bind fun r90 =>
 (ld P 3 r90.1 r90.2).bind fun r91 =>
 (EV P 132 #[r89.1, r91.1] r91.2).bind fun r92 =>
 (st P 84 r20.1 r92.1 r92.2).bind fun r93 =>
 AR (AJ (AL #[x0, x1]) [(2, r1.1), (3, r2.1), (4, r3.1), (5, r4.1), (8, r5.1), (9, r6.1), (10, r7.1), (11, r8.1), (13, r14.1), (14, r15.1), (15, r16.1), (16, r17.1), (17, r18.1), (18, r19.1), (6, r20.1), (7, r22.1), (19, r23.1), (20, r24.1), (36, r25.1), (35, r26.1), (52, r44.1), (51, r45.1), (68, r64.1), (67, r65.1), (21, r78.1), (22, r79.1), (23, r80.1), (24, r81.1), (25, r82.1), (26, r83.1), (27, r84.1), (28, r85.1), (29, r86.1), (7, r87.1), (30, r88.1), (31, r89.1), (32, r90.1), (33, r91.1), (34, r92.1)]) r93.2) (
 AR (AJ (AL #[x0, x1]) [(2, r1.1), (3, r2.1), (4, r3.1), (5, r4.1), (8, r5.1), (9, r6.1), (10, r7.1), (11, r8.1), (13, r14.1), (14, r15.1), (15, r16.1), (16, r17.1), (17, r18.1), (18, r19.1), (6, r20.1), (7, r22.1), (19, r23.1), (20, r24.1), (36, r25.1), (35, r26.1), (52, r44.1), (51, r45.1), (68, r64.1), (67, r65.1), (21, r78.1), (22, r79.1), (23, r80.1), (24, r81.1), (25, r82.1), (26, r83.1), (27, r84.1), (28, r85.1), (29, r86.1), (7, r87.1), (30, r88.1)]) r88.2))))) := by kernel_rfl
noncomputable def DW (e : Env) (w : World) : Option (Value × World) := Bu P (EV P) 116 137 (cB (cB (cB (cB (cB (Ai P 116)))))) e w (Be P (AA P 116))
noncomputable def HM (e : Env) (w : World) : Option (Value × World) := Bu P (EV P) 116 137 (cA (cB (cB (cB (cB (cB (cB (Ai P 116)))))))) e w (AD P (EV P) 116 137 (cB (cB (cB (cB (cB (cB (cB (Ai P 116)))))))) (Be P (AA P 116)))
noncomputable def CN (e : Env) (w : World) : Option (Value × World) := Bu P (EV P) 116 137 (cB (cB (cB (cB (cB (cB (cB (Ai P 116)))))))) e w (Be P (AA P 116))
noncomputable def DX (e : Env) (w : World) : Option (Value × World) := Bu P (EV P) 116 137 (cB (cB (cB (cB (cB (cB (cB (cB (Ai P 116))))))))) e w (Be P (AA P 116))
theorem JL (e : Env) (w : World) : DW e w =
 (fa P 137 (e 3) 0 w).bind fun r1 =>
 (ld P 3 r1.1 r1.2).bind fun r2 =>
 (bo P .eql 3 (.tmp 110) (.const (.int .i64 12)) r2.1 (.int .i64 12) r2.2).bind fun r3 =>
 AP r3.1 (
 (ld P 77 (e 2) r3.2).bind fun r4 =>
 (st P 77 (e 4) r4.1 r4.2).bind fun r5 =>
 (vl (.bool true) r5.2).bind fun r6 =>
 ((ld P 77 (e 4) r6.2).bind fun r7 => Aj (r7.2 = r6.2) (some r7.1)).bind fun v8 =>
 some (.tuple #[v8, r6.1], r6.2)) (
 HM (AJ e [(109, r1.1), (110, r2.1), (111, r3.1)]) r3.2) := by kernel_rfl
theorem I1 (e : Env) (w : World) {Q : Value × World → Prop} (h :
 (Ag (fa P 77 (e 2) 0 (dw w)) fun r1 => r1.2 = (dw w) ∧
 (Ag (ld P 73 r1.1 (dw w)) fun r2 => r2.2 = (dw w) ∧
 (Ag (fa P 131 (e 6) 1 (dw w)) fun r3 => r3.2 = (dw w) ∧
 (Ag (ld P 3 r3.1 (dw w)) fun r4 => r4.2 = (dw w) ∧
 (Ag (ia P 73 r2.1 r4.1 (dw w)) fun r5 => r5.2 = (dw w) ∧
 (Ag (ld P 84 r5.1 (dw w)) fun r6 => r6.2 = (dw w) ∧
 (Ag (fa P 131 (e 6) 0 (dw w)) fun r7 => r7.2 = (dw w) ∧
 (Ag (ld P 3 r7.1 (dw w)) fun r8 => r8.2 = (dw w) ∧
 (Ag (fa P 131 (e 6) 2 (dw w)) fun r9 => r9.2 = (dw w) ∧
 (Ag (ld P 3 r9.1 (dw w)) fun r10 => r10.2 = (dw w) ∧
 (Ag (fa P 131 (e 6) 3 (dw w)) fun r11 => r11.2 = (dw w) ∧
 (Ag (ld P 49 r11.1 (dw w)) fun r12 => r12.2 = (dw w) ∧
 ((Ag (EV P 133 #[r6.1, r8.1, r10.1, r12.1] (dw w)) fun r13 => (True ∧ True ∧ True ∧ True ∧ True ∧ True ∧ True ∧ True ∧ True ∧ True ∧ True ∧ True ∧ True) ∧
 (Ag (vl r13.1 r13.2) fun r14 => r14.2 = r13.2 ∧
 (Ag (xt P r14.1 0 r13.2) fun r15 => r15.2 = r13.2 ∧
 (Ag (xt P r14.1 1 r13.2) fun r16 => r16.2 = r13.2 ∧
 ((Ag (al P 84 r13.2) fun r17 => (xt P r14.1 1 r17.2 = some (r16.1, r17.2) ∧ xt P r14.1 0 r17.2 = some (r15.1, r17.2) ∧ ld P 49 r11.1 r17.2 = some (r12.1, r17.2) ∧ fa P 131 (e 6) 3 r17.2 = some (r11.1, r17.2) ∧ ld P 3 r9.1 r17.2 = some (r10.1, r17.2) ∧ fa P 131 (e 6) 2 r17.2 = some (r9.1, r17.2) ∧ ld P 3 r7.1 r17.2 = some (r8.1, r17.2) ∧ fa P 131 (e 6) 0 r17.2 = some (r7.1, r17.2) ∧ ld P 84 r5.1 r17.2 = some (r6.1, r17.2) ∧ ia P 73 r2.1 r4.1 r17.2 = some (r5.1, r17.2) ∧ ld P 3 r3.1 r17.2 = some (r4.1, r17.2) ∧ fa P 131 (e 6) 1 r17.2 = some (r3.1, r17.2) ∧ ld P 73 r1.1 r17.2 = some (r2.1, r17.2) ∧ fa P 77 (e 2) 0 r17.2 = some (r1.1, r17.2) ∧ True) ∧
 ((Ag (st P 84 r17.1 r15.1 r17.2) fun r18 => (xt P r14.1 1 r18.2 = some (r16.1, r18.2) ∧ True ∧ True ∧ True ∧ True ∧ True ∧ True ∧ True ∧ True ∧ True ∧ True ∧ True ∧ True ∧ True ∧ True) ∧
 (Ag (vl r16.1 r18.2) fun r19 => r19.2 = r18.2 ∧
 Ag (CN (AJ e [(114, r1.1), (115, r2.1), (116, r3.1), (117, r4.1), (118, r5.1), (119, r6.1), (120, r7.1), (121, r8.1), (122, r9.1), (123, r10.1), (124, r11.1), (125, r12.1), (126, r13.1), (113, r14.1), (127, r15.1), (128, r16.1), (7, r17.1), (8, r19.1)]) r18.2) Q))))))))) ∧
 (Ag (al P 84 (dw w)) fun r20 => (ld P 49 r11.1 r20.2 = some (r12.1, r20.2) ∧ fa P 131 (e 6) 3 r20.2 = some (r11.1, r20.2) ∧ ld P 3 r9.1 r20.2 = some (r10.1, r20.2) ∧ fa P 131 (e 6) 2 r20.2 = some (r9.1, r20.2) ∧ ld P 3 r7.1 r20.2 = some (r8.1, r20.2) ∧ fa P 131 (e 6) 0 r20.2 = some (r7.1, r20.2) ∧ ld P 84 r5.1 r20.2 = some (r6.1, r20.2) ∧ ia P 73 r2.1 r4.1 r20.2 = some (r5.1, r20.2) ∧ ld P 3 r3.1 r20.2 = some (r4.1, r20.2) ∧ fa P 131 (e 6) 1 r20.2 = some (r3.1, r20.2) ∧ ld P 73 r1.1 r20.2 = some (r2.1, r20.2) ∧ fa P 77 (e 2) 0 r20.2 = some (r1.1, r20.2) ∧ True) ∧
 ((Ag (EV P 133 #[r6.1, r8.1, r10.1, r12.1] r20.2) fun r21 => (True ∧ True ∧ True ∧ True ∧ True ∧ True ∧ True ∧ True ∧ True ∧ True ∧ True ∧ True ∧ True) ∧
 (Ag (vl r21.1 r21.2) fun r22 => r22.2 = r21.2 ∧
 (Ag (xt P r22.1 0 r21.2) fun r23 => r23.2 = r21.2 ∧
 (Ag (xt P r22.1 1 r21.2) fun r24 => r24.2 = r21.2 ∧
 ((Ag (st P 84 r20.1 r23.1 r21.2) fun r25 => (xt P r22.1 1 r25.2 = some (r24.1, r25.2) ∧ True ∧ True ∧ True ∧ True ∧ True ∧ True ∧ True ∧ True ∧ True ∧ True ∧ True ∧ True ∧ True ∧ True) ∧
 (Ag (vl r24.1 r25.2) fun r26 => r26.2 = r25.2 ∧
 Ag (CN (AJ e [(114, r1.1), (115, r2.1), (116, r3.1), (117, r4.1), (118, r5.1), (119, r6.1), (120, r7.1), (121, r8.1), (122, r9.1), (123, r10.1), (124, r11.1), (125, r12.1), (7, r20.1), (126, r21.1), (113, r22.1), (127, r23.1), (128, r24.1), (8, r26.1)]) r25.2) Q))))))))))))))))))))))) : Ag (HM e w) Q := Gf (id := 13) (ops := opsOf (cA (cB (cB (cB (cB (cB (cB (Ai P 116))))))))) (by kernel_rfl) (by kernel_rfl) (Eq.mpr (by kernel_rfl) h)
theorem JM (e : Env) (w : World) : CN e w =
 (vl (e 8) w).bind fun r1 =>
 AP r1.1 (
 (fa P 77 (e 2) 0 r1.2).bind fun r2 =>
 (ld P 73 r2.1 r2.2).bind fun r3 =>
 (fa P 131 (e 6) 1 r3.2).bind fun r4 =>
 (ld P 3 r4.1 r4.2).bind fun r5 =>
 (ld P 84 (e 7) r5.2).bind fun r6 =>
 (ia P 73 r3.1 r5.1 r6.2).bind fun r7 =>
 (st P 84 r7.1 r6.1 r7.2).bind fun r8 =>
 DX (AJ e [(129, r1.1), (130, r2.1), (131, r3.1), (132, r4.1), (133, r5.1), (134, r6.1), (135, r7.1)]) r8.2) (
 DX (AJ e [(129, r1.1)]) r1.2) := by kernel_rfl
theorem JN (e : Env) (w : World) : DX e w =
 (ld P 77 (e 2) w).bind fun r1 =>
 (st P 77 (e 4) r1.1 r1.2).bind fun r2 =>
 (vl (.bool true) r2.2).bind fun r3 =>
 ((ld P 77 (e 4) r3.2).bind fun r4 => Aj (r4.2 = r3.2) (some r4.1)).bind fun v5 =>
 some (.tuple #[v5, r3.1], r3.2) := by kernel_rfl
theorem Ms (x0 x1 : Value) (w : World) : Bl P (EV P) 116 #[x0, x1] w =
 (bx P 77 x0 w).bind fun r1 =>
 (bx P 137 x1 r1.2).bind fun r2 =>
 (al P 77 r2.2).bind fun r3 =>
 (vl (.bool false) r3.2).bind fun r4 =>
 (fa P 137 r2.1 0 r4.2).bind fun r5 =>
 (ld P 3 r5.1 r5.2).bind fun r6 =>
 (bo P .eql 3 (.tmp 10) (.const (.int .i64 10)) r6.1 (.int .i64 10) r6.2).bind fun r7 =>
 AP r7.1 (
 (fa P 137 r2.1 1 (dw r7.2)).bind fun r9 =>
 Aj (r9.2 = (dw r7.2)) <|
 (ld P 3 r9.1 (dw r7.2)).bind fun r10 =>
 Aj (r10.2 = (dw r7.2)) <|
 (EV P 37 #[r10.1, (.int .i64 0), (.int .i64 2)] (dw r7.2)).bind fun r11 =>
 Aj (True ∧ True ∧ True) <|
 (uo P .not r11.1 r11.2).bind fun r12 =>
 Aj (r12.2 = r11.2) <|
 (vl r12.1 r11.2).bind fun r13 =>
 Aj (r13.2 = r11.2) <|
 (An r13.1 false (fa P 137 r2.1 2 r11.2) r11.2).bind fun r14 =>
 Aj (r14.2 = r11.2) <|
 (An r13.1 false (ld P 3 r14.1 r11.2) r11.2).bind fun r15 =>
 Aj (r15.2 = r11.2) <|
 (An r13.1 false (EV P 37 #[r15.1, (.int .i64 0), (.int .i64 2)] r11.2) r11.2).bind fun r16 =>
 Aj (True ∧ True ∧ True ∧ True ∧ True ∧ True) <|
 (An r13.1 false (uo P .not r16.1 r16.2) r16.2).bind fun r17 =>
 Aj (r17.2 = r16.2) <|
 (Av r13.1 (.bool true) r17.1 r16.2).bind fun r18 =>
 Aj (r18.2 = r16.2) <|
 (vl r18.1 r16.2).bind fun r19 =>
 Aj (r19.2 = r16.2) <|
 (An r19.1 false (fa P 137 r2.1 1 r16.2) r16.2).bind fun r20 =>
 Aj (r20.2 = r16.2) <|
 (An r19.1 false (ld P 3 r20.1 r16.2) r16.2).bind fun r21 =>
 Aj (r21.2 = r16.2) <|
 (An r19.1 false (fa P 137 r2.1 2 r16.2) r16.2).bind fun r22 =>
 Aj (r22.2 = r16.2) <|
 (An r19.1 false (ld P 3 r22.1 r16.2) r16.2).bind fun r23 =>
 Aj (r23.2 = r16.2) <|
 (An r19.1 false (bo P .eql 3 (.tmp 24) (.tmp 26) r21.1 r23.1 r16.2) r16.2).bind fun r24 =>
 Aj (r24.2 = r16.2) <|
 (Av r19.1 (.bool true) r24.1 r16.2).bind fun r25 =>
 Aj (r25.2 = r16.2) <|
 (vl r25.1 r16.2).bind fun r26 =>
 Aj (r26.2 = r16.2) <|
 (An r26.1 false (fa P 77 r1.1 2 r16.2) r16.2).bind fun r27 =>
 Aj (r27.2 = r16.2) <|
 (An r26.1 false (ld P 75 r27.1 r16.2) r16.2).bind fun r28 =>
 Aj (r28.2 = r16.2) <|
 (An r26.1 false (Au P #[75] 3 #[r28.1] r16.2) r16.2).bind fun r29 =>
 Aj (r29.2 = r16.2) <|
 (An r26.1 false (bo P .geq 3 (.tmp 32) (.const (.int .i64 12)) r29.1 (.int .i64 12) r16.2) r16.2).bind fun r30 =>
 Aj (r30.2 = r16.2) <|
 (Av r26.1 (.bool true) r30.1 r16.2).bind fun r31 =>
 Aj (r31.2 = r16.2) <|
 (vl r31.1 r16.2).bind fun r32 =>
 Aj (r32.2 = r16.2) <|
 (An r32.1 false (fa P 137 r2.1 3 r16.2) r16.2).bind fun r33 =>
 Aj (r33.2 = r16.2) <|
 (An r32.1 false (ld P 3 r33.1 r16.2) r16.2).bind fun r34 =>
 Aj (r34.2 = r16.2) <|
 (An r32.1 false (fa P 77 r1.1 0 r16.2) r16.2).bind fun r35 =>
 Aj (r35.2 = r16.2) <|
 (An r32.1 false (ld P 73 r35.1 r16.2) r16.2).bind fun r36 =>
 Aj (r36.2 = r16.2) <|
 (An r32.1 false (fa P 137 r2.1 1 r16.2) r16.2).bind fun r37 =>
 Aj (r37.2 = r16.2) <|
 (An r32.1 false (ld P 3 r37.1 r16.2) r16.2).bind fun r38 =>
 Aj (r38.2 = r16.2) <|
 (An r32.1 false (ia P 73 r36.1 r38.1 r16.2) r16.2).bind fun r39 =>
 Aj (r39.2 = r16.2) <|
 (An r32.1 false (fa P 84 r39.1 3 r16.2) r16.2).bind fun r40 =>
 Aj (r40.2 = r16.2) <|
 (An r32.1 false (ld P 42 r40.1 r16.2) r16.2).bind fun r41 =>
 Aj (r41.2 = r16.2) <|
 (An r32.1 false (Au P #[42] 3 #[r41.1] r16.2) r16.2).bind fun r42 =>
 Aj (r42.2 = r16.2) <|
 (An r32.1 false (bo P .sub 3 (.tmp 45) (.const (.int .i64 1)) r42.1 (.int .i64 1) r16.2) r16.2).bind fun r43 =>
 Aj (r43.2 = r16.2) <|
 (An r32.1 false (EV P 37 #[r34.1, (.int .i64 0), r43.1] r16.2) r16.2).bind fun r44 =>
 Aj (True ∧ True ∧ True ∧ True ∧ True ∧ True ∧ True ∧ True ∧ True ∧ True ∧ True ∧ True ∧ True ∧ True ∧ True ∧ True ∧ True ∧ True ∧ True ∧ True ∧ True ∧ True ∧ True ∧ True ∧ True ∧ True ∧ True) <|
 (An r32.1 false (uo P .not r44.1 r44.2) r44.2).bind fun r45 =>
 Aj (r45.2 = r44.2) <|
 (Av r32.1 (.bool true) r45.1 r44.2).bind fun r46 =>
 Aj (r46.2 = r44.2) <|
 AP r46.1 (
 (ld P 77 r1.1 r44.2).bind fun r47 =>
 (st P 77 r3.1 r47.1 r47.2).bind fun r48 =>
 (vl (.bool false) r48.2).bind fun r49 =>
 ((ld P 77 r3.1 r49.2).bind fun r50 => Aj (r50.2 = r49.2) (some r50.1)).bind fun v51 =>
 some (.tuple #[v51, r49.1], r49.2)) (
 (fa P 77 r1.1 2 (dw r44.2)).bind fun r53 =>
 Aj (r53.2 = (dw r44.2)) <|
 (ld P 75 r53.1 (dw r44.2)).bind fun r54 =>
 Aj (r54.2 = (dw r44.2)) <|
 (fa P 137 r2.1 1 (dw r44.2)).bind fun r55 =>
 Aj (r55.2 = (dw r44.2)) <|
 (ld P 3 r55.1 (dw r44.2)).bind fun r56 =>
 Aj (r56.2 = (dw r44.2)) <|
 (fa P 137 r2.1 2 (dw r44.2)).bind fun r57 =>
 Aj (r57.2 = (dw r44.2)) <|
 (ld P 3 r57.1 (dw r44.2)).bind fun r58 =>
 Aj (r58.2 = (dw r44.2)) <|
 (fa P 137 r2.1 3 (dw r44.2)).bind fun r59 =>
 Aj (r59.2 = (dw r44.2)) <|
 (ld P 3 r59.1 (dw r44.2)).bind fun r60 =>
 Aj (r60.2 = (dw r44.2)) <|
 (fa P 77 r1.1 0 (dw r44.2)).bind fun r61 =>
 Aj (r61.2 = (dw r44.2)) <|
 (ld P 73 r61.1 (dw r44.2)).bind fun r62 =>
 Aj (r62.2 = (dw r44.2)) <|
 (fa P 137 r2.1 1 (dw r44.2)).bind fun r63 =>
 Aj (r63.2 = (dw r44.2)) <|
 (ld P 3 r63.1 (dw r44.2)).bind fun r64 =>
 Aj (r64.2 = (dw r44.2)) <|
 (ia P 73 r62.1 r64.1 (dw r44.2)).bind fun r65 =>
 Aj (r65.2 = (dw r44.2)) <|
 (fa P 84 r65.1 3 (dw r44.2)).bind fun r66 =>
 Aj (r66.2 = (dw r44.2)) <|
 (ld P 42 r66.1 (dw r44.2)).bind fun r67 =>
 Aj (r67.2 = (dw r44.2)) <|
 (fa P 137 r2.1 3 (dw r44.2)).bind fun r68 =>
 Aj (r68.2 = (dw r44.2)) <|
 (ld P 3 r68.1 (dw r44.2)).bind fun r69 =>
 Aj (r69.2 = (dw r44.2)) <|
 (ia P 42 r67.1 r69.1 (dw r44.2)).bind fun r70 =>
 Aj (r70.2 = (dw r44.2)) <|
 (ld P 49 r70.1 (dw r44.2)).bind fun r71 =>
 Aj (r71.2 = (dw r44.2)) <|
 (EV P 98 #[r71.1] (dw r44.2)).bind fun r72 =>
 Aj (True ∧ True ∧ True ∧ True ∧ True ∧ True ∧ True ∧ True ∧ True ∧ True ∧ True ∧ ld P 3 r59.1 r72.2 = some (r60.1, r72.2) ∧ fa P 137 r2.1 3 r72.2 = some (r59.1, r72.2) ∧ ld P 3 r57.1 r72.2 = some (r58.1, r72.2) ∧ fa P 137 r2.1 2 r72.2 = some (r57.1, r72.2) ∧ ld P 3 r55.1 r72.2 = some (r56.1, r72.2) ∧ fa P 137 r2.1 1 r72.2 = some (r55.1, r72.2) ∧ ld P 75 r53.1 r72.2 = some (r54.1, r72.2) ∧ fa P 77 r1.1 2 r72.2 = some (r53.1, r72.2) ∧ True) <|
 (bd P 131 #[(0, r56.1), (1, r58.1), (2, r60.1), (3, r72.1)] r72.2).bind fun r73 =>
 Aj (r73.2 = r72.2) <|
 (bs P 75 1 #[(0, r73.1)] r72.2).bind fun r74 =>
 Aj (True ∧ True ∧ True ∧ True ∧ True ∧ True ∧ True ∧ True ∧ True ∧ True ∧ True ∧ True ∧ True ∧ True ∧ True ∧ True ∧ True ∧ True ∧ ld P 75 r53.1 r74.2 = some (r54.1, r74.2) ∧ fa P 77 r1.1 2 r74.2 = some (r53.1, r74.2) ∧ True) <|
 (Ar P #[75, 75] 75 #[r54.1, r74.1] r74.2).bind fun r75 =>
 Aj (True ∧ True ∧ True ∧ True ∧ True ∧ True ∧ True ∧ True ∧ True ∧ True ∧ True ∧ True ∧ True ∧ True ∧ True ∧ True ∧ True ∧ True ∧ True ∧ True ∧ True) <|
 (fa P 77 r1.1 2 r75.2).bind fun r76 =>
 Aj (r76.2 = r75.2) <|
 (st P 75 r76.1 r75.1 r75.2).bind fun r77 =>
 Aj (True ∧ True ∧ True ∧ True ∧ True ∧ True ∧ True ∧ True ∧ True ∧ True ∧ True ∧ True ∧ True ∧ True ∧ True ∧ True ∧ True ∧ True ∧ True ∧ True ∧ True ∧ True) <|
 (ld P 77 r1.1 r77.2).bind fun r78 =>
 (st P 77 r3.1 r78.1 r78.2).bind fun r79 =>
 (vl (.bool true) r79.2).bind fun r80 =>
 ((ld P 77 r3.1 r80.2).bind fun r81 => Aj (r81.2 = r80.2) (some r81.1)).bind fun v82 =>
 some (.tuple #[v82, r80.1], r80.2))) (
 (fa P 137 r2.1 1 r7.2).bind fun r83 =>
 (ld P 3 r83.1 r83.2).bind fun r84 =>
 (fa P 77 r1.1 2 r84.2).bind fun r85 =>
 (ld P 75 r85.1 r85.2).bind fun r86 =>
 (Au P #[75] 3 #[r86.1] r86.2).bind fun r87 =>
 (bo P .sub 3 (.tmp 80) (.const (.int .i64 1)) r87.1 (.int .i64 1) r87.2).bind fun r88 =>
 (EV P 37 #[r84.1, (.int .i64 0), r88.1] r88.2).bind fun r89 =>
 (uo P .not r89.1 r89.2).bind fun r90 =>
 AP r90.1 (
 (ld P 77 r1.1 r90.2).bind fun r91 =>
 (st P 77 r3.1 r91.1 r91.2).bind fun r92 =>
 (vl (.bool false) r92.2).bind fun r93 =>
 ((ld P 77 r3.1 r93.2).bind fun r94 => Aj (r94.2 = r93.2) (some r94.1)).bind fun v95 =>
 some (.tuple #[v95, r93.1], r93.2)) (
 (fa P 77 r1.1 2 r90.2).bind fun r96 =>
 (ld P 75 r96.1 r96.2).bind fun r97 =>
 (fa P 137 r2.1 1 r97.2).bind fun r98 =>
 (ld P 3 r98.1 r98.2).bind fun r99 =>
 (ia P 75 r97.1 r99.1 r99.2).bind fun r100 =>
 (ld P 131 r100.1 r100.2).bind fun r101 =>
 (al P 131 r101.2).bind fun r102 =>
 (st P 131 r102.1 r101.1 r102.2).bind fun r103 =>
 (fa P 137 r2.1 0 r103.2).bind fun r104 =>
 (ld P 3 r104.1 r104.2).bind fun r105 =>
 (bo P .neq 3 (.tmp 92) (.const (.int .i64 13)) r105.1 (.int .i64 13) r105.2).bind fun r106 =>
 AP r106.1 (
 (fa P 77 r1.1 2 (dw r106.2)).bind fun r108 =>
 Aj (r108.2 = (dw r106.2)) <|
 (ld P 75 r108.1 (dw r106.2)).bind fun r109 =>
 Aj (r109.2 = (dw r106.2)) <|
 (fa P 137 r2.1 1 (dw r106.2)).bind fun r110 =>
 Aj (r110.2 = (dw r106.2)) <|
 (ld P 3 r110.1 (dw r106.2)).bind fun r111 =>
 Aj (r111.2 = (dw r106.2)) <|
 (sl P 75 r109.1 none (some r111.1) none (dw r106.2)).bind fun r112 =>
 Aj (r112.2 = (dw r106.2)) <|
 (fa P 77 r1.1 2 (dw r106.2)).bind fun r113 =>
 Aj (r113.2 = (dw r106.2)) <|
 (ld P 75 r113.1 (dw r106.2)).bind fun r114 =>
 Aj (r114.2 = (dw r106.2)) <|
 (fa P 137 r2.1 1 (dw r106.2)).bind fun r115 =>
 Aj (r115.2 = (dw r106.2)) <|
 (ld P 3 r115.1 (dw r106.2)).bind fun r116 =>
 Aj (r116.2 = (dw r106.2)) <|
 (bo P .add 3 (.tmp 104) (.const (.int .i64 1)) r116.1 (.int .i64 1) (dw r106.2)).bind fun r117 =>
 Aj (r117.2 = (dw r106.2)) <|
 (sl P 75 r114.1 (some r117.1) none none (dw r106.2)).bind fun r118 =>
 Aj (r118.2 = (dw r106.2)) <|
 (bs P 75 0 #[] (dw r106.2)).bind fun r119 =>
 Aj (sl P 75 r114.1 (some r117.1) none none r119.2 = some (r118.1, r119.2) ∧ bo P .add 3 (.tmp 104) (.const (.int .i64 1)) r116.1 (.int .i64 1) r119.2 = some (r117.1, r119.2) ∧ ld P 3 r115.1 r119.2 = some (r116.1, r119.2) ∧ fa P 137 r2.1 1 r119.2 = some (r115.1, r119.2) ∧ ld P 75 r113.1 r119.2 = some (r114.1, r119.2) ∧ fa P 77 r1.1 2 r119.2 = some (r113.1, r119.2) ∧ sl P 75 r109.1 none (some r111.1) none r119.2 = some (r112.1, r119.2) ∧ ld P 3 r110.1 r119.2 = some (r111.1, r119.2) ∧ fa P 137 r2.1 1 r119.2 = some (r110.1, r119.2) ∧ ld P 75 r108.1 r119.2 = some (r109.1, r119.2) ∧ fa P 77 r1.1 2 r119.2 = some (r108.1, r119.2) ∧ True) <|
 (Ar P #[75, 75] 75 #[r119.1, r112.1] r119.2).bind fun r120 =>
 Aj (sl P 75 r114.1 (some r117.1) none none r120.2 = some (r118.1, r120.2) ∧ bo P .add 3 (.tmp 104) (.const (.int .i64 1)) r116.1 (.int .i64 1) r120.2 = some (r117.1, r120.2) ∧ ld P 3 r115.1 r120.2 = some (r116.1, r120.2) ∧ fa P 137 r2.1 1 r120.2 = some (r115.1, r120.2) ∧ ld P 75 r113.1 r120.2 = some (r114.1, r120.2) ∧ fa P 77 r1.1 2 r120.2 = some (r113.1, r120.2) ∧ True ∧ True ∧ True ∧ True ∧ True ∧ True) <|
 (Ar P #[75, 75] 75 #[r120.1, r118.1] r120.2).bind fun r121 =>
 Aj (True ∧ True ∧ True ∧ True ∧ True ∧ True ∧ True ∧ True ∧ True ∧ True ∧ True ∧ True) <|
 (fa P 77 r1.1 2 r121.2).bind fun r122 =>
 Aj (r122.2 = r121.2) <|
 (st P 75 r122.1 r121.1 r121.2).bind fun r123 =>
 Aj (True ∧ True ∧ True ∧ True ∧ True ∧ True ∧ True ∧ True ∧ True ∧ True ∧ True ∧ True ∧ True) <|
 DW (AJ (AL #[x0, x1]) [(2, r1.1), (3, r2.1), (4, r3.1), (5, r4.1), (9, r5.1), (10, r6.1), (11, r7.1), (76, r83.1), (77, r84.1), (78, r85.1), (79, r86.1), (80, r87.1), (81, r88.1), (82, r89.1), (83, r90.1), (85, r96.1), (86, r97.1), (87, r98.1), (88, r99.1), (89, r100.1), (90, r101.1), (6, r102.1), (91, r104.1), (92, r105.1), (93, r106.1), (95, r108.1), (96, r109.1), (97, r110.1), (98, r111.1), (99, r112.1), (101, r113.1), (102, r114.1), (103, r115.1), (104, r116.1), (105, r117.1), (106, r118.1), (94, r119.1), (100, r120.1), (107, r121.1), (108, r122.1)]) r123.2) (
 DW (AJ (AL #[x0, x1]) [(2, r1.1), (3, r2.1), (4, r3.1), (5, r4.1), (9, r5.1), (10, r6.1), (11, r7.1), (76, r83.1), (77, r84.1), (78, r85.1), (79, r86.1), (80, r87.1), (81, r88.1), (82, r89.1), (83, r90.1), (85, r96.1), (86, r97.1), (87, r98.1), (88, r99.1), (89, r100.1), (90, r101.1), (6, r102.1), (91, r104.1), (92, r105.1), (93, r106.1)]) r106.2))) := by kernel_rfl
theorem Kr (x0 : Value) (w : World) : Bl P (EV P) 117 #[x0] w =
 (vl (Go.Value.string { data := #[] }) w).bind fun r1 =>
 (vl x0 r1.2).bind fun r2 =>
 (bs P 140 8 #[(0, (Go.Value.string { data := #[] })), (1, (Go.Value.string { data := #[97] })), (2, (Go.Value.string { data := #[98] })), (3, (Go.Value.string { data := #[120, 35, 49] })), (4, (Go.Value.string { data := #[61] })), (5, (Go.Value.string { data := #[45] })), (6, (Go.Value.string { data := #[108, 111, 110, 103, 116, 101, 120, 116] })), (7, (Go.Value.string { data := #[122, 122] }))] r2.2).bind fun r3 =>
 (EV P 104 #[r2.1, r3.1] r3.2).bind fun r4 =>
 (vl r4.1 r4.2).bind fun r5 =>
 some (r5.1, r5.2) := by kernel_rfl
noncomputable def DD (e : Env) (w : World) : Option (Value × World) := Bu P (EV P) 118 19 (.loop (cA (cA (cB (cA (cB (Ai P 118))))))) e w (Ao 0 (AD P (EV P) 118 19 (cB (cB (Ai P 118))) (Be P (AA P 118))))
theorem Fq (e : Env) (w : World) : DD e w =
 (bo P .lss 3 (.tmp 6) (.tmp 5) (e 6) (e 5) w).bind fun r1 =>
 AP r1.1 (
 (vl (e 6) r1.2).bind fun r2 =>
 (vl r2.1 r2.2).bind fun r3 =>
 (vl (e 0) r3.2).bind fun r4 =>
 (vl r3.1 r4.2).bind fun r5 =>
 (ix P 9 r4.1 r5.1 r5.2).bind fun r6 =>
 (cv P 5 3 r6.1 r6.2).bind fun r7 =>
 (EV P 35 #[r7.1, (.int .i64 33), (.int .i64 126)] r7.2).bind fun r8 =>
 (uo P .not r8.1 r8.2).bind fun r9 =>
 AP r9.1 (
 (vl (.bool false) r9.2).bind fun r10 =>
 some (r10.1, r10.2)) (
 (bo P .add 3 (.tmp 6) (.const (.int .i64 1)) (e 6) (.int .i64 1) r9.2).bind fun r11 =>
 (vl r11.1 r11.2).bind fun r12 =>
 DD (AJ e [(7, r1.1), (8, r2.1), (3, r3.1), (9, r4.1), (10, r5.1), (11, r6.1), (12, r7.1), (13, r8.1), (14, r9.1), (15, r11.1), (6, r12.1)]) r12.2)) (
 (vl (e 0) r1.2).bind fun r13 =>
 (Au P #[9] 3 #[r13.1] r13.2).bind fun r14 =>
 (bo P .leq 3 (.tmp 17) (.const (.int .i64 8)) r14.1 (.int .i64 8) r14.2).bind fun r15 =>
 (vl r15.1 r15.2).bind fun r16 =>
 some (r16.1, r16.2)) := (Ay P (EV P) 118 19 (cA (cA (cB (cA (cB (Ai P 118)))))) e w (Ao 0 (AD P (EV P) 118 19 (cB (cB (Ai P 118))) (Be P (AA P 118))))).trans (by kernel_rfl)
theorem Le (x0 : Value) (w : World) : Bl P (EV P) 118 #[x0] w =
 (vl (.bool false) w).bind fun r1 =>
 (vl x0 r1.2).bind fun r2 =>
 (Au P #[9] 3 #[r2.1] r2.2).bind fun r3 =>
 (vl (.int .i64 0) r3.2).bind fun r4 =>
 DD (AJ (AL #[x0]) [(2, r1.1), (4, r2.1), (5, r3.1), (6, r4.1)]) r4.2 := by kernel_rfl
noncomputable def BN (e : Env) (w : World) : Option (Value × World) := Bu P (EV P) 119 25 (.loop (cA (cA (cB (cA (cB (cB (Ai P 119)))))))) e w (Ao 0 (AD P (EV P) 119 25 (cB (cB (cB (Ai P 119)))) (Be P (AA P 119))))
theorem DE (e : Env) (w : World) : BN e w =
 (vl (e 4) w).bind fun r1 =>
 (fa P 44 (e 1) 0 r1.2).bind fun r2 =>
 (ld P 42 r2.1 r2.2).bind fun r3 =>
 (Au P #[42] 3 #[r3.1] r3.2).bind fun r4 =>
 (bo P .lss 3 (.tmp 6) (.tmp 9) r1.1 r4.1 r4.2).bind fun r5 =>
 AP r5.1 (
 (fa P 44 (e 3) 0 (dw r5.2)).bind fun r7 =>
 Aj (r7.2 = (dw r5.2)) <|
 (ld P 42 r7.1 (dw r5.2)).bind fun r8 =>
 Aj (r8.2 = (dw r5.2)) <|
 (fa P 44 (e 1) 0 (dw r5.2)).bind fun r9 =>
 Aj (r9.2 = (dw r5.2)) <|
 (ld P 42 r9.1 (dw r5.2)).bind fun r10 =>
 Aj (r10.2 = (dw r5.2)) <|
 (vl (e 4) (dw r5.2)).bind fun r11 =>
 Aj (r11.2 = (dw r5.2)) <|
 (ia P 42 r10.1 r11.1 (dw r5.2)).bind fun r12 =>
 Aj (r12.2 = (dw r5.2)) <|
 (ld P 49 r12.1 (dw r5.2)).bind fun r13 =>
 Aj (r13.2 = (dw r5.2)) <|
 (EV P 98 #[r13.1] (dw r5.2)).bind fun r14 =>
 Aj (True ∧ True ∧ True ∧ True ∧ ld P 42 r7.1 r14.2 = some (r8.1, r14.2) ∧ fa P 44 (e 3) 0 r14.2 = some (r7.1, r14.2) ∧ True) <|
 (bs P 42 1 #[(0, r14.1)] r14.2).bind fun r15 =>
 Aj (True ∧ True ∧ True ∧ True ∧ ld P 42 r7.1 r15.2 = some (r8.1, r15.2) ∧ fa P 44 (e 3) 0 r15.2 = some (r7.1, r15.2) ∧ True) <|
 (Ar P #[42, 42] 42 #[r8.1, r15.1] r15.2).bind fun r16 =>
 Aj (True ∧ True ∧ True ∧ True ∧ True ∧ True ∧ True) <|
 (fa P 44 (e 3) 0 r16.2).bind fun r17 =>
 Aj (r17.2 = r16.2) <|
 (st P 42 r17.1 r16.1 r16.2).bind fun r18 =>
 Aj (True ∧ True ∧ True ∧ True ∧ True ∧ True ∧ True ∧ True) <|
 (vl (e 4) r18.2).bind fun r19 =>
 (bo P .add 3 (.tmp 11) (.const (.int .i64 1)) r19.1 (.int .i64 1) r19.2).bind fun r20 =>
 (vl r20.1 r20.2).bind fun r21 =>
 BN (AJ e [(6, r1.1), (7, r2.1), (8, r3.1), (9, r4.1), (10, r5.1), (13, r7.1), (14, r8.1), (15, r9.1), (16, r10.1), (17, r11.1), (18, r12.1), (19, r13.1), (20, r14.1), (21, r15.1), (22, r16.1), (23, r17.1), (11, r19.1), (12, r20.1), (4, r21.1)]) r21.2) (
 (ld P 44 (e 3) r5.2).bind fun r22 =>
 (st P 44 (e 2) r22.1 r22.2).bind fun r23 =>
 ((ld P 44 (e 2) r23.2).bind fun r24 => Aj (r24.2 = r23.2) (some r24.1)).bind fun v25 =>
 some (v25, r23.2)) := (Ay P (EV P) 119 25 (cA (cA (cB (cA (cB (cB (Ai P 119))))))) e w (Ao 0 (AD P (EV P) 119 25 (cB (cB (cB (Ai P 119)))) (Be P (AA P 119))))).trans (by kernel_rfl)
theorem HG (x0 : Value) (w : World) : Bl P (EV P) 119 #[x0] w =
 (bx P 44 x0 w).bind fun r1 =>
 (al P 44 r1.2).bind fun r2 =>
 (bd P 44 #[] r2.2).bind fun r3 =>
 (al P 44 r3.2).bind fun r4 =>
 (st P 44 r4.1 r3.1 r4.2).bind fun r5 =>
 (vl (.int .i64 0) r5.2).bind fun r6 =>
 BN (AJ (AL #[x0]) [(1, r1.1), (2, r2.1), (5, r3.1), (3, r4.1), (4, r6.1)]) r6.2 := by kernel_rfl
noncomputable def CB (e : Env) (w : World) : Option (Value × World) := Bu P (EV P) 120 23 (.loop (cA (cA (cB (cA (cB (cB (cB (Ai P 120))))))))) e w (Ao 0 (AD P (EV P) 120 23 (cB (cB (cB (cB (Ai P 120))))) (Be P (AA P 120))))
theorem Eu (e : Env) (w : World) : CB e w =
 (vl (e 4) w).bind fun r1 =>
 (vl (e 0) r1.2).bind fun r2 =>
 (bo P .lss 3 (.tmp 10) (.tmp 11) r1.1 r2.1 r2.2).bind fun r3 =>
 AP r3.1 (
 (fa P 81 (e 3) 0 (dw r3.2)).bind fun r5 =>
 Aj (r5.2 = (dw r3.2)) <|
 (ld P 79 r5.1 (dw r3.2)).bind fun r6 =>
 Aj (r6.2 = (dw r3.2)) <|
 (EV P 101 #[] (dw r3.2)).bind fun r7 =>
 Aj (ld P 79 r5.1 r7.2 = some (r6.1, r7.2) ∧ fa P 81 (e 3) 0 r7.2 = some (r5.1, r7.2) ∧ True) <|
 (bd P 86 #[(0, r7.1)] r7.2).bind fun r8 =>
 Aj (r8.2 = r7.2) <|
 (bs P 79 1 #[(0, r8.1)] r7.2).bind fun r9 =>
 Aj (True ∧ ld P 79 r5.1 r9.2 = some (r6.1, r9.2) ∧ fa P 81 (e 3) 0 r9.2 = some (r5.1, r9.2) ∧ True) <|
 (Ar P #[79, 79] 79 #[r6.1, r9.1] r9.2).bind fun r10 =>
 Aj (True ∧ True ∧ True ∧ True) <|
 (fa P 81 (e 3) 0 r10.2).bind fun r11 =>
 Aj (r11.2 = r10.2) <|
 (st P 79 r11.1 r10.1 r10.2).bind fun r12 =>
 Aj (True ∧ True ∧ True ∧ True ∧ True) <|
 (vl (e 4) r12.2).bind fun r13 =>
 (bo P .add 3 (.tmp 13) (.const (.int .i64 1)) r13.1 (.int .i64 1) r13.2).bind fun r14 =>
 (vl r14.1 r14.2).bind fun r15 =>
 CB (AJ e [(10, r1.1), (11, r2.1), (12, r3.1), (15, r5.1), (16, r6.1), (17, r7.1), (18, r8.1), (19, r9.1), (20, r10.1), (21, r11.1), (13, r13.1), (14, r14.1), (4, r15.1)]) r15.2) (
 (ld P 81 (e 3) r3.2).bind fun r16 =>
 (st P 81 (e 2) r16.1 r16.2).bind fun r17 =>
 ((ld P 81 (e 2) r17.2).bind fun r18 => Aj (r18.2 = r17.2) (some r18.1)).bind fun v19 =>
 some (v19, r17.2)) := (Ay P (EV P) 120 23 (cA (cA (cB (cA (cB (cB (cB (Ai P 120)))))))) e w (Ao 0 (AD P (EV P) 120 23 (cB (cB (cB (cB (Ai P 120))))) (Be P (AA P 120))))).trans (by kernel_rfl)
theorem JO (x0 : Value) (w : World) : Bl P (EV P) 120 #[x0] w =
 (al P 81 w).bind fun r1 =>
 (bd P 81 #[] r1.2).bind fun r2 =>
 (al P 81 r2.2).bind fun r3 =>
 (st P 81 r3.1 r2.1 r3.2).bind fun r4 =>
 (vl x0 r4.2).bind fun r5 =>
 (EV P 37 #[r5.1, (.int .i64 1), (.int .i64 4)] r5.2).bind fun r6 =>
 (uo P .not r6.1 r6.2).bind fun r7 =>
 AP r7.1 (
 (ld P 81 r3.1 r7.2).bind fun r8 =>
 (st P 81 r1.1 r8.1 r8.2).bind fun r9 =>
 ((ld P 81 r1.1 r9.2).bind fun r10 => Aj (r10.2 = r9.2) (some r10.1)).bind fun v11 =>
 some (v11, r9.2)) (
 (vl (.int .i64 0) r7.2).bind fun r12 =>
 CB (AJ (AL #[x0]) [(2, r1.1), (5, r2.1), (3, r3.1), (6, r5.1), (7, r6.1), (8, r7.1), (4, r12.1)]) r12.2) := by kernel_rfl
theorem Ks (x0 x1 : Value) (w : World) : Bl P (EV P) 121 #[x0, x1] w =
 (bx P 77 x0 w).bind fun r1 =>
 (bx P 137 x1 r1.2).bind fun r2 =>
 (al P 77 r2.2).bind fun r3 =>
 (vl (.bool false) r3.2).bind fun r4 =>
 (fa P 77 r1.1 1 r4.2).bind fun r5 =>
 (ld P 74 r5.1 r5.2).bind fun r6 =>
 (fa P 137 r2.1 1 r6.2).bind fun r7 =>
 (ld P 3 r7.1 r7.2).bind fun r8 =>
 (ia P 74 r6.1 r8.1 r8.2).bind fun r9 =>
 (ld P 129 r9.1 r9.2).bind fun r10 =>
 (al P 129 r10.2).bind fun r11 =>
 (st P 129 r11.1 r10.1 r11.2).bind fun r12 =>
 (fa P 77 r1.1 0 r12.2).bind fun r13 =>
 (ld P 73 r13.1 r13.2).bind fun r14 =>
 (fa P 129 r11.1 0 r14.2).bind fun r15 =>
 (ld P 3 r15.1 r15.2).bind fun r16 =>
 (ia P 73 r14.1 r16.1 r16.2).bind fun r17 =>
 (ld P 84 r17.1 r17.2).bind fun r18 =>
 (al P 84 r18.2).bind fun r19 =>
 (st P 84 r19.1 r18.1 r19.2).bind fun r20 =>
 (fa P 129 r11.1 2 r20.2).bind fun r21 =>
 (fa P 36 r21.1 0 r21.2).bind fun r22 =>
 (ld P 3 r22.1 r22.2).bind fun r23 =>
 (bo P .gtr 3 (.tmp 24) (.const (.int .i64 0)) r23.1 (.int .i64 0) r23.2).bind fun r24 =>
 (vl r24.1 r24.2).bind fun r25 =>
 (An r25.1 false (fa P 137 r2.1 3 r25.2) r25.2).bind fun r26 =>
 (An r25.1 false (ld P 3 r26.1 r26.2) r26.2).bind fun r27 =>
 (An r25.1 false (EV P 37 #[r27.1, (.int .i64 0), (.int .i64 3)] r27.2) r27.2).bind fun r28 =>
 (An r25.1 false (uo P .not r28.1 r28.2) r28.2).bind fun r29 =>
 (Av r25.1 (.bool true) r29.1 r29.2).bind fun r30 =>
 (vl r30.1 r30.2).bind fun r31 =>
 (An r31.1 false (fa P 137 r2.1 4 r31.2) r31.2).bind fun r32 =>
 (An r31.1 false (ld P 9 r32.1 r32.2) r32.2).bind fun r33 =>
 (An r31.1 false (EV P 107 #[r33.1] r33.2) r33.2).bind fun r34 =>
 (An r31.1 false (uo P .not r34.1 r34.2) r34.2).bind fun r35 =>
 (Av r31.1 (.bool true) r35.1 r35.2).bind fun r36 =>
 (vl r36.1 r36.2).bind fun r37 =>
 (An r37.1 false (fa P 137 r2.1 5 r37.2) r37.2).bind fun r38 =>
 (An r37.1 false (ld P 4 r38.1 r38.2) r38.2).bind fun r39 =>
 (An r37.1 false (vl r39.1 r39.2) r39.2).bind fun r40 =>
 (An r40.1 true (fa P 137 r2.1 4 r40.2) r40.2).bind fun r41 =>
 (An r40.1 true (ld P 9 r41.1 r41.2) r41.2).bind fun r42 =>
 (An r40.1 true (bo P .neq 9 (.tmp 43) (.const (Go.Value.string { data := #[] })) r42.1 (Go.Value.string { data := #[] }) r42.2) r42.2).bind fun r43 =>
 (An r37.1 false (Av r40.1 r43.1 (.bool false) r43.2) r43.2).bind fun r44 =>
 (Av r37.1 (.bool true) r44.1 r44.2).bind fun r45 =>
 (vl r45.1 r45.2).bind fun r46 =>
 (An r46.1 false (ld P 84 r19.1 r46.2) r46.2).bind fun r47 =>
 (An r46.1 false (fa P 129 r11.1 1 r47.2) r47.2).bind fun r48 =>
 (An r46.1 false (ld P 32 r48.1 r48.2) r48.2).bind fun r49 =>
 (An r46.1 false (EV P 134 #[r47.1, r49.1] r49.2) r49.2).bind fun r50 =>
 (An r46.1 false (uo P .not r50.1 r50.2) r50.2).bind fun r51 =>
 (Av r46.1 (.bool true) r51.1 r51.2).bind fun r52 =>
 (vl r52.1 r52.2).bind fun r53 =>
 (An r53.1 false (fa P 77 r1.1 3 r53.2) r53.2).bind fun r54 =>
 (An r53.1 false (ld P 23 r54.1 r54.2) r54.2).bind fun r55 =>
 (An r53.1 false (Au P #[23] 3 #[r55.1] r55.2) r55.2).bind fun r56 =>
 (An r53.1 false (bo P .geq 3 (.tmp 57) (.const (.int .i64 80)) r56.1 (.int .i64 80) r56.2) r56.2).bind fun r57 =>
 (Av r53.1 (.bool true) r57.1 r57.2).bind fun r58 =>
 AP r58.1 (
 (ld P 77 r1.1 r58.2).bind fun r59 =>
 (st P 77 r3.1 r59.1 r59.2).bind fun r60 =>
 (vl (.bool false) r60.2).bind fun r61 =>
 ((ld P 77 r3.1 r61.2).bind fun r62 => Aj (r62.2 = r61.2) (some r62.1)).bind fun v63 =>
 some (.tuple #[v63, r61.1], r61.2)) (
 (ld P 84 r19.1 r58.2).bind fun r64 =>
 (fa P 137 r2.1 3 r64.2).bind fun r65 =>
 (ld P 3 r65.1 r65.2).bind fun r66 =>
 (fa P 137 r2.1 4 r66.2).bind fun r67 =>
 (ld P 9 r67.1 r67.2).bind fun r68 =>
 (fa P 137 r2.1 5 r68.2).bind fun r69 =>
 (ld P 4 r69.1 r69.2).bind fun r70 =>
 (fa P 129 r11.1 1 r70.2).bind fun r71 =>
 (ld P 32 r71.1 r71.2).bind fun r72 =>
 (EV P 135 #[r64.1, r66.1, r68.1, r70.1, r72.1] r72.2).bind fun r73 =>
 (vl r73.1 r73.2).bind fun r74 =>
 (xt P r74.1 0 r74.2).bind fun r75 =>
 (xt P r74.1 1 r75.2).bind fun r76 =>
 (al P 84 r76.2).bind fun r77 =>
 (al P 36 r77.2).bind fun r78 =>
 (st P 84 r77.1 r75.1 r78.2).bind fun r79 =>
 (st P 36 r78.1 r76.1 r79.2).bind fun r80 =>
 (fa P 77 r1.1 0 r80.2).bind fun r81 =>
 (ld P 73 r81.1 r81.2).bind fun r82 =>
 (fa P 129 r11.1 0 r82.2).bind fun r83 =>
 (ld P 3 r83.1 r83.2).bind fun r84 =>
 (ld P 84 r77.1 r84.2).bind fun r85 =>
 (ia P 73 r82.1 r84.1 r85.2).bind fun r86 =>
 (st P 84 r86.1 r85.1 r86.2).bind fun r87 =>
 (fa P 77 r1.1 1 r87.2).bind fun r88 =>
 (ld P 74 r88.1 r88.2).bind fun r89 =>
 (fa P 137 r2.1 1 r89.2).bind fun r90 =>
 (ld P 3 r90.1 r90.2).bind fun r91 =>
 (ld P 36 r78.1 r91.2).bind fun r92 =>
 (ia P 74 r89.1 r91.1 r92.2).bind fun r93 =>
 (fa P 129 r93.1 2 r93.2).bind fun r94 =>
 (st P 36 r94.1 r92.1 r94.2).bind fun r95 =>
 (fa P 77 r1.1 1 r95.2).bind fun r96 =>
 (ld P 74 r96.1 r96.2).bind fun r97 =>
 (fa P 137 r2.1 1 r97.2).bind fun r98 =>
 (ld P 3 r98.1 r98.2).bind fun r99 =>
 (fa P 137 r2.1 3 r99.2).bind fun r100 =>
 (ld P 3 r100.1 r100.2).bind fun r101 =>
 (ia P 74 r97.1 r99.1 r101.2).bind fun r102 =>
 (fa P 129 r102.1 3 r102.2).bind fun r103 =>
 (st P 3 r103.1 r101.1 r103.2).bind fun r104 =>
 (ld P 77 r1.1 r104.2).bind fun r105 =>
 (fa P 137 r2.1 1 r105.2).bind fun r106 =>
 (ld P 3 r106.1 r106.2).bind fun r107 =>
 (fa P 137 r2.1 3 r107.2).bind fun r108 =>
 (ld P 3 r108.1 r108.2).bind fun r109 =>
 (ld P 36 r78.1 r109.2).bind fun r110 =>
 (EV P 136 #[r105.1, r107.1, (.int .i64 1), r109.1, r110.1] r110.2).bind fun r111 =>
 (st P 77 r3.1 r111.1 r111.2).bind fun r112 =>
 (vl (.bool true) r112.2).bind fun r113 =>
 ((ld P 77 r3.1 r113.2).bind fun r114 => Aj (r114.2 = r113.2) (some r114.1)).bind fun v115 =>
 some (.tuple #[v115, r113.1], r113.2)) := by kernel_rfl
end Go.Proofs.YtjhhommnkaemlaaGreat.X
