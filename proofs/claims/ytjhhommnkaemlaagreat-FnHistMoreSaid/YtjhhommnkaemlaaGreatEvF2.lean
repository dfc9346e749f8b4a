/- A part of the proof, without conditions. -/
import Derived.Test.YtjhhommnkaemlaaGreatEvT
set_option linter.unusedVariables false
set_option linter.unusedSimpArgs false
set_option linter.deprecated false
set_option maxRecDepth 100000
namespace Go.Proofs.YtjhhommnkaemlaaGreat.X
open Go Go.Ev
noncomputable def DQ (e : Env) (w : World) : Option (Value × World) := Bt P (EV P) 65 36 (.loop (cA (cA (cB (cA (cB (Af P 65))))))) e w (Al 0 (Ay P (EV P) 65 36 (cB (cB (Af P 65))) (Bf P (AB P 65))))
theorem FV (e : Env) (w : World) : DQ e w =
 (vl (e 5) w).bind fun r1 =>
 (vl (e 0) r1.2).bind fun r2 =>
 (Ax P #[23] 3 #[r2.1] r2.2).bind fun r3 =>
 (bo P .lss 3 (.tmp 6) (.tmp 8) r1.1 r3.1 r3.2).bind fun r4 =>
 AR r4.1 (
 (vl (e 0) (dw r4.2)).bind fun r6 =>
 Ah (r6.2 = (dw r4.2)) <|
 (vl (e 5) (dw r4.2)).bind fun r7 =>
 Ah (r7.2 = (dw r4.2)) <|
 (ia P 23 r6.1 r7.1 (dw r4.2)).bind fun r8 =>
 Ah (r8.2 = (dw r4.2)) <|
 (fa P 38 r8.1 1 (dw r4.2)).bind fun r9 =>
 Ah (r9.2 = (dw r4.2)) <|
 (ld P 3 r9.1 (dw r4.2)).bind fun r10 =>
 Ah (r10.2 = (dw r4.2)) <|
 (bo P .eql 3 (.tmp 16) (.const (.int .i64 1)) r10.1 (.int .i64 1) (dw r4.2)).bind fun r11 =>
 Ah (r11.2 = (dw r4.2)) <|
 (vl r11.1 (dw r4.2)).bind fun r12 =>
 Ah (r12.2 = (dw r4.2)) <|
 (Ao r12.1 true (vl (e 0) (dw r4.2)) (dw r4.2)).bind fun r13 =>
 Ah (r13.2 = (dw r4.2)) <|
 (Ao r12.1 true (vl (e 5) (dw r4.2)) (dw r4.2)).bind fun r14 =>
 Ah (r14.2 = (dw r4.2)) <|
 (Ao r12.1 true (ia P 23 r13.1 r14.1 (dw r4.2)) (dw r4.2)).bind fun r15 =>
 Ah (r15.2 = (dw r4.2)) <|
 (Ao r12.1 true (fa P 38 r15.1 3 (dw r4.2)) (dw r4.2)).bind fun r16 =>
 Ah (r16.2 = (dw r4.2)) <|
 (Ao r12.1 true (ld P 36 r16.1 (dw r4.2)) (dw r4.2)).bind fun r17 =>
 Ah (r17.2 = (dw r4.2)) <|
 (Ao r12.1 true (fa P 38 (e 3) 3 (dw r4.2)) (dw r4.2)).bind fun r18 =>
 Ah (r18.2 = (dw r4.2)) <|
 (Ao r12.1 true (ld P 36 r18.1 (dw r4.2)) (dw r4.2)).bind fun r19 =>
 Ah (r19.2 = (dw r4.2)) <|
 (Ao r12.1 true (bo P .eql 36 (.tmp 23) (.tmp 25) r17.1 r19.1 (dw r4.2)) (dw r4.2)).bind fun r20 =>
 Ah (r20.2 = (dw r4.2)) <|
 (Az r12.1 r20.1 (.bool false) (dw r4.2)).bind fun r21 =>
 Ah (r21.2 = (dw r4.2)) <|
 AR r21.1 (
 (vl (e 0) (dw (dw r4.2))).bind fun r23 =>
 Ah (r23.2 = (dw (dw r4.2))) <|
 (vl (e 5) (dw (dw r4.2))).bind fun r24 =>
 Ah (r24.2 = (dw (dw r4.2))) <|
 (ia P 23 r23.1 r24.1 (dw (dw r4.2))).bind fun r25 =>
 Ah (r25.2 = (dw (dw r4.2))) <|
 (fa P 38 r25.1 0 (dw (dw r4.2))).bind fun r26 =>
 Ah (r26.2 = (dw (dw r4.2))) <|
 (ld P 3 r26.1 (dw (dw r4.2))).bind fun r27 =>
 Ah (r27.2 = (dw (dw r4.2))) <|
 (fa P 38 (e 3) 0 (dw (dw r4.2))).bind fun r28 =>
 Ah (r28.2 = (dw (dw r4.2))) <|
 (ld P 3 r28.1 (dw (dw r4.2))).bind fun r29 =>
 Ah (r29.2 = (dw (dw r4.2))) <|
 (bo P .eql 3 (.tmp 32) (.tmp 34) r27.1 r29.1 (dw (dw r4.2))).bind fun r30 =>
 Ah (r30.2 = (dw (dw r4.2))) <|
 (vl r30.1 (dw (dw r4.2))).bind fun r31 =>
 Ah (r31.2 = (dw (dw r4.2))) <|
 some (r31.1, (dw (dw r4.2)))) (
 (vl (e 5) (dw r4.2)).bind fun r32 =>
 (bo P .add 3 (.tmp 10) (.const (.int .i64 1)) r32.1 (.int .i64 1) r32.2).bind fun r33 =>
 (vl r33.1 r33.2).bind fun r34 =>
 DQ (AK e [(6, r1.1), (7, r2.1), (8, r3.1), (9, r4.1), (12, r6.1), (13, r7.1), (14, r8.1), (15, r9.1), (16, r10.1), (17, r11.1), (18, r12.1), (19, r13.1), (20, r14.1), (21, r15.1), (22, r16.1), (23, r17.1), (24, r18.1), (25, r19.1), (26, r20.1), (27, r21.1), (10, r32.1), (11, r33.1), (5, r34.1)]) r34.2)) (
 (vl (.bool false) r4.2).bind fun r35 =>
 some (r35.1, r35.2)) := (AA P (EV P) 65 36 (cA (cA (cB (cA (cB (Af P 65)))))) e w (Al 0 (Ay P (EV P) 65 36 (cB (cB (Af P 65))) (Bf P (AB P 65))))).trans (by kernel_rfl)
theorem MJ (x0 x1 : Value) (w : World) : Br P (EV P) 65 #[x0, x1] w =
 (bx P 38 x1 w).bind fun r1 =>
 (vl (.bool false) r1.2).bind fun r2 =>
 (vl (.int .i64 0) r2.2).bind fun r3 =>
 DQ (AK (AN #[x0, x1]) [(3, r1.1), (4, r2.1), (5, r3.1)]) r3.2 := by kernel_rfl
theorem K7 (x0 x1 x2 : Value) (w : World) : Br P (EV P) 66 #[x0, x1, x2] w =
 (bx P 32 x0 w).bind fun r1 =>
 (bx P 36 x2 r1.2).bind fun r2 =>
 (al P 32 r2.2).bind fun r3 =>
 (bs P 30 0 #[] r3.2).bind fun r4 =>
 (fa P 32 r1.1 0 r4.2).bind fun r5 =>
 (ld P 30 r5.1 r5.2).bind fun r6 =>
 (Au P #[30, 30] 30 #[r4.1, r6.1] r6.2).bind fun r7 =>
 (bd P 32 #[(0, r7.1)] r7.2).bind fun r8 =>
 (al P 32 r8.2).bind fun r9 =>
 (st P 32 r9.1 r8.1 r9.2).bind fun r10 =>
 (fa P 32 r9.1 0 (dw r10.2)).bind fun r12 =>
 Ah (r12.2 = (dw r10.2)) <|
 (ld P 30 r12.1 (dw r10.2)).bind fun r13 =>
 Ah (r13.2 = (dw r10.2)) <|
 (vl x1 (dw r10.2)).bind fun r14 =>
 Ah (r14.2 = (dw r10.2)) <|
 (fa P 32 r9.1 0 (dw r10.2)).bind fun r15 =>
 Ah (r15.2 = (dw r10.2)) <|
 (ld P 30 r15.1 (dw r10.2)).bind fun r16 =>
 Ah (r16.2 = (dw r10.2)) <|
 (vl x1 (dw r10.2)).bind fun r17 =>
 Ah (r17.2 = (dw r10.2)) <|
 (ia P 30 r16.1 r17.1 (dw r10.2)).bind fun r18 =>
 Ah (r18.2 = (dw r10.2)) <|
 (ld P 36 r18.1 (dw r10.2)).bind fun r19 =>
 Ah (r19.2 = (dw r10.2)) <|
 (ld P 36 r2.1 (dw r10.2)).bind fun r20 =>
 Ah (r20.2 = (dw r10.2)) <|
 (EV P 93 #[r19.1, r20.1] (dw r10.2)).bind fun r21 =>
 Ah (True ∧ True ∧ True ∧ True ∧ True ∧ ld P 30 r12.1 r21.2 = some (r13.1, r21.2) ∧ fa P 32 r9.1 0 r21.2 = some (r12.1, r21.2) ∧ True) <|
 (ia P 30 r13.1 r14.1 r21.2).bind fun r22 =>
 Ah (r22.2 = r21.2) <|
 (st P 36 r22.1 r21.1 r21.2).bind fun r23 =>
 Ah (True ∧ True ∧ True ∧ True ∧ True ∧ True ∧ True ∧ True ∧ True) <|
 (ld P 32 r9.1 r23.2).bind fun r24 =>
 (st P 32 r3.1 r24.1 r24.2).bind fun r25 =>
 ((ld P 32 r3.1 r25.2).bind fun r26 => Ah (r26.2 = r25.2) (some r26.1)).bind fun v27 =>
 some (v27, r25.2) := by kernel_rfl
noncomputable def Da (e : Env) (w : World) : Option (Value × World) := Bt P (EV P) 67 29 (.loop (cA (cA (cB (cA (cB (cB (Af P 67)))))))) e w (Al 0 (Ay P (EV P) 67 29 (cB (cB (cB (Af P 67)))) (Bf P (AB P 67))))
theorem Fm (e : Env) (w : World) : Da e w =
 (vl (e 6) w).bind fun r1 =>
 (bo P .lss 3 (.tmp 8) (.const (.int .i64 4)) r1.1 (.int .i64 4) r1.2).bind fun r2 =>
 AR r2.1 (
 (fa P 32 (e 5) 0 (dw r2.2)).bind fun r4 =>
 Ah (r4.2 = (dw r2.2)) <|
 (ld P 30 r4.1 (dw r2.2)).bind fun r5 =>
 Ah (r5.2 = (dw r2.2)) <|
 (fa P 32 (e 2) 0 (dw r2.2)).bind fun r6 =>
 Ah (r6.2 = (dw r2.2)) <|
 (ld P 30 r6.1 (dw r2.2)).bind fun r7 =>
 Ah (r7.2 = (dw r2.2)) <|
 (vl (e 6) (dw r2.2)).bind fun r8 =>
 Ah (r8.2 = (dw r2.2)) <|
 (ia P 30 r7.1 r8.1 (dw r2.2)).bind fun r9 =>
 Ah (r9.2 = (dw r2.2)) <|
 (ld P 36 r9.1 (dw r2.2)).bind fun r10 =>
 Ah (r10.2 = (dw r2.2)) <|
 (fa P 32 (e 3) 0 (dw r2.2)).bind fun r11 =>
 Ah (r11.2 = (dw r2.2)) <|
 (ld P 30 r11.1 (dw r2.2)).bind fun r12 =>
 Ah (r12.2 = (dw r2.2)) <|
 (vl (e 6) (dw r2.2)).bind fun r13 =>
 Ah (r13.2 = (dw r2.2)) <|
 (ia P 30 r12.1 r13.1 (dw r2.2)).bind fun r14 =>
 Ah (r14.2 = (dw r2.2)) <|
 (ld P 36 r14.1 (dw r2.2)).bind fun r15 =>
 Ah (r15.2 = (dw r2.2)) <|
 (EV P 93 #[r10.1, r15.1] (dw r2.2)).bind fun r16 =>
 Ah (True ∧ True ∧ True ∧ True ∧ True ∧ True ∧ True ∧ True ∧ ld P 30 r4.1 r16.2 = some (r5.1, r16.2) ∧ fa P 32 (e 5) 0 r16.2 = some (r4.1, r16.2) ∧ True) <|
 (bs P 30 1 #[(0, r16.1)] r16.2).bind fun r17 =>
 Ah (True ∧ True ∧ True ∧ True ∧ True ∧ True ∧ True ∧ True ∧ ld P 30 r4.1 r17.2 = some (r5.1, r17.2) ∧ fa P 32 (e 5) 0 r17.2 = some (r4.1, r17.2) ∧ True) <|
 (Au P #[30, 30] 30 #[r5.1, r17.1] r17.2).bind fun r18 =>
 Ah (True ∧ True ∧ True ∧ True ∧ True ∧ True ∧ True ∧ True ∧ True ∧ True ∧ True) <|
 (fa P 32 (e 5) 0 r18.2).bind fun r19 =>
 Ah (r19.2 = r18.2) <|
 (st P 30 r19.1 r18.1 r18.2).bind fun r20 =>
 Ah (True ∧ True ∧ True ∧ True ∧ True ∧ True ∧ True ∧ True ∧ True ∧ True ∧ True ∧ True) <|
 (vl (e 6) r20.2).bind fun r21 =>
 (bo P .add 3 (.tmp 10) (.const (.int .i64 1)) r21.1 (.int .i64 1) r21.2).bind fun r22 =>
 (vl r22.1 r22.2).bind fun r23 =>
 Da (AK e [(8, r1.1), (9, r2.1), (12, r4.1), (13, r5.1), (14, r6.1), (15, r7.1), (16, r8.1), (17, r9.1), (18, r10.1), (19, r11.1), (20, r12.1), (21, r13.1), (22, r14.1), (23, r15.1), (24, r16.1), (25, r17.1), (26, r18.1), (27, r19.1), (10, r21.1), (11, r22.1), (6, r23.1)]) r23.2) (
 (ld P 32 (e 5) r2.2).bind fun r24 =>
 (st P 32 (e 4) r24.1 r24.2).bind fun r25 =>
 ((ld P 32 (e 4) r25.2).bind fun r26 => Ah (r26.2 = r25.2) (some r26.1)).bind fun v27 =>
 some (v27, r25.2)) := (AA P (EV P) 67 29 (cA (cA (cB (cA (cB (cB (Af P 67))))))) e w (Al 0 (Ay P (EV P) 67 29 (cB (cB (cB (Af P 67)))) (Bf P (AB P 67))))).trans (by kernel_rfl)
theorem K8 (x0 x1 : Value) (w : World) : Br P (EV P) 67 #[x0, x1] w =
 (bx P 32 x0 w).bind fun r1 =>
 (bx P 32 x1 r1.2).bind fun r2 =>
 (al P 32 r2.2).bind fun r3 =>
 (bd P 32 #[] r3.2).bind fun r4 =>
 (al P 32 r4.2).bind fun r5 =>
 (st P 32 r5.1 r4.1 r5.2).bind fun r6 =>
 (vl (.int .i64 0) r6.2).bind fun r7 =>
 Da (AK (AN #[x0, x1]) [(2, r1.1), (3, r2.1), (4, r3.1), (7, r4.1), (5, r5.1), (6, r7.1)]) r7.2 := by kernel_rfl
theorem HZ (x0 : Value) (w : World) : Br P (EV P) 68 #[x0] w =
 (vl (Go.Value.slice none 0 0) w).bind fun r1 =>
 (vl x0 r1.2).bind fun r2 =>
 (vl x0 r2.2).bind fun r3 =>
 (Ax P #[30] 3 #[r3.1] r3.2).bind fun r4 =>
 (vl x0 r4.2).bind fun r5 =>
 (Ax P #[30] 3 #[r5.1] r5.2).bind fun r6 =>
 (sl P 30 r2.1 none (some r4.1) (some r6.1) r6.2).bind fun r7 =>
 (vl r7.1 r7.2).bind fun r8 =>
 some (r8.1, r8.2) := by kernel_rfl
theorem Hz (x0 : Value) (w : World) : Br P (EV P) 69 #[x0] w =
 (vl (Go.Value.slice none 0 0) w).bind fun r1 =>
 (vl x0 r1.2).bind fun r2 =>
 (bo P .eql 30 (.tmp 3) (.const (Go.Value.slice none 0 0)) r2.1 (Go.Value.slice none 0 0) r2.2).bind fun r3 =>
 AR r3.1 (
 (vl (Go.Value.slice none 0 0) r3.2).bind fun r4 =>
 some (r4.1, r4.2)) (
 (bs P 30 0 #[] r3.2).bind fun r5 =>
 (vl x0 r5.2).bind fun r6 =>
 (Au P #[30, 30] 30 #[r5.1, r6.1] r6.2).bind fun r7 =>
 (vl r7.1 r7.2).bind fun r8 =>
 some (r8.1, r8.2)) := by kernel_rfl
noncomputable def CB (e : Env) (w : World) : Option (Value × World) := Bt P (EV P) 70 18 (.loop (cA (cA (cB (cA (cB (cB (Af P 70)))))))) e w (Al 0 (Ay P (EV P) 70 18 (cB (cB (cB (Af P 70)))) (Bf P (AB P 70))))
theorem DG (e : Env) (w : World) : CB e w =
 (bo P .lss 3 (.tmp 8) (.tmp 7) (e 8) (e 7) w).bind fun r1 =>
 AR r1.1 (
 (ia P 64 (e 6) (e 8) r1.2).bind fun r2 =>
 (ld P 3 r2.1 r2.2).bind fun r3 =>
 (vl r3.1 r3.2).bind fun r4 =>
 (vl r4.1 r4.2).bind fun r5 =>
 (vl (e 3) r5.2).bind fun r6 =>
 (bo P .neq 3 (.tmp 12) (.tmp 13) r5.1 r6.1 r6.2).bind fun r7 =>
 AR r7.1 (
 (vl r4.1 r7.2).bind fun r8 =>
 (vl r8.1 r8.2).bind fun r9 =>
 some (r9.1, r9.2)) (
 (bo P .add 3 (.tmp 8) (.const (.int .i64 1)) (e 8) (.int .i64 1) r7.2).bind fun r10 =>
 (vl r10.1 r10.2).bind fun r11 =>
 CB (AK e [(9, r1.1), (10, r2.1), (11, r3.1), (5, r4.1), (12, r5.1), (13, r6.1), (14, r7.1), (16, r10.1), (8, r11.1)]) r11.2)) (
 (vl (e 3) r1.2).bind fun r12 =>
 (vl r12.1 r12.2).bind fun r13 =>
 some (r13.1, r13.2)) := (AA P (EV P) 70 18 (cA (cA (cB (cA (cB (cB (Af P 70))))))) e w (Al 0 (Ay P (EV P) 70 18 (cB (cB (cB (Af P 70)))) (Bf P (AB P 70))))).trans (by kernel_rfl)
theorem MK (x0 : Value) (w : World) : Br P (EV P) 70 #[x0] w =
 (vl (.int .i64 0) w).bind fun r1 =>
 (vl (.int .i64 0) r1.2).bind fun r2 =>
 (vl x0 r2.2).bind fun r3 =>
 (Ax P #[64] 3 #[r3.1] r3.2).bind fun r4 =>
 (vl (.int .i64 0) r4.2).bind fun r5 =>
 CB (AK (AN #[x0]) [(2, r1.1), (3, r2.1), (6, r3.1), (7, r4.1), (8, r5.1)]) r5.2 := by kernel_rfl
theorem H0 (x0 x1 : Value) (w : World) : Br P (EV P) 71 #[x0, x1] w =
 (vl (.int .i64 0) w).bind fun r1 =>
 (vl x0 r1.2).bind fun r2 =>
 (EV P 94 #[r2.1] r2.2).bind fun r3 =>
 (vl r3.1 r3.2).bind fun r4 =>
 (vl x1 r4.2).bind fun r5 =>
 (EV P 94 #[r5.1] r5.2).bind fun r6 =>
 (vl r6.1 r6.2).bind fun r7 =>
 (vl r4.1 r7.2).bind fun r8 =>
 AR r8.1 (
 (vl r7.1 r8.2).bind fun r9 =>
 AR r9.1 (
 (vl (.int .i64 0) r9.2).bind fun r10 =>
 some (r10.1, r10.2)) (
 (vl (.int .i64 (-1)) r9.2).bind fun r11 =>
 some (r11.1, r11.2))) (
 (vl r7.1 r8.2).bind fun r12 =>
 AR r12.1 (
 (vl (.int .i64 1) r12.2).bind fun r13 =>
 some (r13.1, r13.2)) (
 (vl x0 r12.2).bind fun r14 =>
 (vl x1 r14.2).bind fun r15 =>
 (bo P .lss 3 (.tmp 14) (.tmp 15) r14.1 r15.1 r15.2).bind fun r16 =>
 AR r16.1 (
 (vl (.int .i64 (-1)) r16.2).bind fun r17 =>
 some (r17.1, r17.2)) (
 (vl x0 r16.2).bind fun r18 =>
 (vl x1 r18.2).bind fun r19 =>
 (bo P .gtr 3 (.tmp 17) (.tmp 18) r18.1 r19.1 r19.2).bind fun r20 =>
 AR r20.1 (
 (vl (.int .i64 1) r20.2).bind fun r21 =>
 some (r21.1, r21.2)) (
 (vl (.int .i64 0) r20.2).bind fun r22 =>
 some (r22.1, r22.2))))) := by kernel_rfl
theorem Kf (x0 : Value) (w : World) : Br P (EV P) 74 #[x0] w =
 (vl (.int .i64 0) w).bind fun r1 =>
 (vl (.int .i64 0) r1.2).bind fun r2 =>
 (vl (Go.Value.slice none 0 0) r2.2).bind fun r3 =>
 (vl x0 r3.2).bind fun r4 =>
 (EV P 42 #[r4.1, (.int .i64 4)] r4.2).bind fun r5 =>
 (bo P .add 3 (.const (.int .i64 1)) (.tmp 8) (.int .i64 1) r5.1 r5.2).bind fun r6 =>
 (vl r6.1 r6.2).bind fun r7 =>
 (vl x0 r7.2).bind fun r8 =>
 (EV P 42 #[r8.1, (.int .i64 4)] r8.2).bind fun r9 =>
 (bo P .add 3 (.const (.int .i64 1)) (.tmp 11) (.int .i64 1) r9.1 r9.2).bind fun r10 =>
 (vl r10.1 r10.2).bind fun r11 =>
 (vl r7.1 r11.2).bind fun r12 =>
 (vl r11.1 r12.2).bind fun r13 =>
 (vl x0 r13.2).bind fun r14 =>
 (vl r7.1 r14.2).bind fun r15 =>
 (vl r11.1 r15.2).bind fun r16 =>
 (vl x0 r16.2).bind fun r17 =>
 (bs P 64 4 #[(0, (.int .i64 0)), (1, (.int .i64 20)), (2, (.int .i64 60)), (3, (.int .i64 120))] r17.2).bind fun r18 =>
 (EV P 34 #[r17.1, r18.1] r18.2).bind fun r19 =>
 (EV P 96 #[r14.1, r15.1, r16.1, r19.1] r19.2).bind fun r20 =>
 (vl r12.1 r20.2).bind fun r21 =>
 (vl r13.1 r21.2).bind fun r22 =>
 (vl r20.1 r22.2).bind fun r23 =>
 some (.tuple #[r21.1, r22.1, r23.1], r23.2) := by kernel_rfl
noncomputable def Db (e : Env) (w : World) : Option (Value × World) := Bt P (EV P) 75 80 (.loop (cA (cA (cB (cA (cB (cB (Af P 75)))))))) e w (Al 0 (Ay P (EV P) 75 80 (cB (cB (cB (Af P 75)))) (Bf P (AB P 75))))
noncomputable def Dc (e : Env) (w : World) : Option (Value × World) := Bt P (EV P) 75 80 (.loop (cA (cA (cB (cA (cB (cB (cB (Af P 75))))))))) e w (Al 2 (Ay P (EV P) 75 80 (cB (cB (cB (cB (Af P 75))))) (Bf P (AB P 75))))
noncomputable def Dd (e : Env) (w : World) : Option (Value × World) := Bt P (EV P) 75 80 (.loop (cA (cA (cB (cA (cB (cB (cB (cB (Af P 75)))))))))) e w (Al 4 (Ay P (EV P) 75 80 (cB (cB (cB (cB (cB (Af P 75)))))) (Bf P (AB P 75))))
theorem Fo (e : Env) (w : World) : Db e w =
 (vl (e 4) w).bind fun r1 =>
 (fa P 77 (e 1) 0 r1.2).bind fun r2 =>
 (ld P 73 r2.1 r2.2).bind fun r3 =>
 (Ax P #[73] 3 #[r3.1] r3.2).bind fun r4 =>
 (bo P .lss 3 (.tmp 14) (.tmp 17) r1.1 r4.1 r4.2).bind fun r5 =>
 AR r5.1 (
 (fa P 77 (e 3) 0 (dw r5.2)).bind fun r7 =>
 Ah (r7.2 = (dw r5.2)) <|
 (ld P 73 r7.1 (dw r5.2)).bind fun r8 =>
 Ah (r8.2 = (dw r5.2)) <|
 (fa P 77 (e 1) 0 (dw r5.2)).bind fun r9 =>
 Ah (r9.2 = (dw r5.2)) <|
 (ld P 73 r9.1 (dw r5.2)).bind fun r10 =>
 Ah (r10.2 = (dw r5.2)) <|
 (vl (e 4) (dw r5.2)).bind fun r11 =>
 Ah (r11.2 = (dw r5.2)) <|
 (ia P 73 r10.1 r11.1 (dw r5.2)).bind fun r12 =>
 Ah (r12.2 = (dw r5.2)) <|
 (ld P 84 r12.1 (dw r5.2)).bind fun r13 =>
 Ah (r13.2 = (dw r5.2)) <|
 (EV P 97 #[r13.1] (dw r5.2)).bind fun r14 =>
 Ah (True ∧ True ∧ True ∧ True ∧ ld P 73 r7.1 r14.2 = some (r8.1, r14.2) ∧ fa P 77 (e 3) 0 r14.2 = some (r7.1, r14.2) ∧ True) <|
 (bs P 73 1 #[(0, r14.1)] r14.2).bind fun r15 =>
 Ah (True ∧ True ∧ True ∧ True ∧ ld P 73 r7.1 r15.2 = some (r8.1, r15.2) ∧ fa P 77 (e 3) 0 r15.2 = some (r7.1, r15.2) ∧ True) <|
 (Au P #[73, 73] 73 #[r8.1, r15.1] r15.2).bind fun r16 =>
 Ah (True ∧ True ∧ True ∧ True ∧ True ∧ True ∧ True) <|
 (fa P 77 (e 3) 0 r16.2).bind fun r17 =>
 Ah (r17.2 = r16.2) <|
 (st P 73 r17.1 r16.1 r16.2).bind fun r18 =>
 Ah (True ∧ True ∧ True ∧ True ∧ True ∧ True ∧ True ∧ True) <|
 (vl (e 4) r18.2).bind fun r19 =>
 (bo P .add 3 (.tmp 19) (.const (.int .i64 1)) r19.1 (.int .i64 1) r19.2).bind fun r20 =>
 (vl r20.1 r20.2).bind fun r21 =>
 Db (AK e [(14, r1.1), (15, r2.1), (16, r3.1), (17, r4.1), (18, r5.1), (21, r7.1), (22, r8.1), (23, r9.1), (24, r10.1), (25, r11.1), (26, r12.1), (27, r13.1), (28, r14.1), (29, r15.1), (30, r16.1), (31, r17.1), (19, r19.1), (20, r20.1), (4, r21.1)]) r21.2) (
 (vl (.int .i64 0) r5.2).bind fun r22 =>
 Dc (AK e [(14, r1.1), (15, r2.1), (16, r3.1), (17, r4.1), (18, r5.1), (5, r22.1)]) r22.2) := (AA P (EV P) 75 80 (cA (cA (cB (cA (cB (cB (Af P 75))))))) e w (Al 0 (Ay P (EV P) 75 80 (cB (cB (cB (Af P 75)))) (Bf P (AB P 75))))).trans (by kernel_rfl)
theorem Fp (e : Env) (w : World) : Dc e w =
 (vl (e 5) w).bind fun r1 =>
 (fa P 77 (e 1) 1 r1.2).bind fun r2 =>
 (ld P 74 r2.1 r2.2).bind fun r3 =>
 (Ax P #[74] 3 #[r3.1] r3.2).bind fun r4 =>
 (bo P .lss 3 (.tmp 32) (.tmp 35) r1.1 r4.1 r4.2).bind fun r5 =>
 AR r5.1 (
 (fa P 77 (e 1) 1 r5.2).bind fun r6 =>
 (ld P 74 r6.1 r6.2).bind fun r7 =>
 (vl (e 5) r7.2).bind fun r8 =>
 (ia P 74 r7.1 r8.1 r8.2).bind fun r9 =>
 (ld P 129 r9.1 r9.2).bind fun r10 =>
 (al P 129 r10.2).bind fun r11 =>
 (st P 129 r11.1 r10.1 r11.2).bind fun r12 =>
 (bs P 30 0 #[] r12.2).bind fun r13 =>
 (fa P 129 r11.1 1 r13.2).bind fun r14 =>
 (fa P 32 r14.1 0 r14.2).bind fun r15 =>
 (ld P 30 r15.1 r15.2).bind fun r16 =>
 (Au P #[30, 30] 30 #[r13.1, r16.1] r16.2).bind fun r17 =>
 (bd P 32 #[(0, r17.1)] r17.2).bind fun r18 =>
 (fa P 129 r11.1 1 r18.2).bind fun r19 =>
 (st P 32 r19.1 r18.1 r19.2).bind fun r20 =>
 (fa P 77 (e 3) 1 r20.2).bind fun r21 =>
 (ld P 74 r21.1 r21.2).bind fun r22 =>
 (ld P 129 r11.1 r22.2).bind fun r23 =>
 (bs P 74 1 #[(0, r23.1)] r23.2).bind fun r24 =>
 (Au P #[74, 74] 74 #[r22.1, r24.1] r24.2).bind fun r25 =>
 (fa P 77 (e 3) 1 r25.2).bind fun r26 =>
 (st P 74 r26.1 r25.1 r26.2).bind fun r27 =>
 (vl (e 5) r27.2).bind fun r28 =>
 (bo P .add 3 (.tmp 37) (.const (.int .i64 1)) r28.1 (.int .i64 1) r28.2).bind fun r29 =>
 (vl r29.1 r29.2).bind fun r30 =>
 Dc (AK e [(32, r1.1), (33, r2.1), (34, r3.1), (35, r4.1), (36, r5.1), (39, r6.1), (40, r7.1), (41, r8.1), (42, r9.1), (43, r10.1), (6, r11.1), (44, r13.1), (45, r14.1), (46, r15.1), (47, r16.1), (48, r17.1), (49, r18.1), (50, r19.1), (51, r21.1), (52, r22.1), (53, r23.1), (54, r24.1), (55, r25.1), (56, r26.1), (37, r28.1), (38, r29.1), (5, r30.1)]) r30.2) (
 (vl (.int .i64 0) r5.2).bind fun r31 =>
 Dd (AK e [(32, r1.1), (33, r2.1), (34, r3.1), (35, r4.1), (36, r5.1), (7, r31.1)]) r31.2) := (AA P (EV P) 75 80 (cA (cA (cB (cA (cB (cB (cB (Af P 75)))))))) e w (Al 2 (Ay P (EV P) 75 80 (cB (cB (cB (cB (Af P 75))))) (Bf P (AB P 75))))).trans (by kernel_rfl)
theorem Fq (e : Env) (w : World) : Dd e w =
 (vl (e 7) w).bind fun r1 =>
 (fa P 77 (e 1) 2 r1.2).bind fun r2 =>
 (ld P 75 r2.1 r2.2).bind fun r3 =>
 (Ax P #[75] 3 #[r3.1] r3.2).bind fun r4 =>
 (bo P .lss 3 (.tmp 57) (.tmp 60) r1.1 r4.1 r4.2).bind fun r5 =>
 AR r5.1 (
 (fa P 77 (e 1) 2 r5.2).bind fun r6 =>
 (ld P 75 r6.1 r6.2).bind fun r7 =>
 (vl (e 7) r7.2).bind fun r8 =>
 (ia P 75 r7.1 r8.1 r8.2).bind fun r9 =>
 (ld P 131 r9.1 r9.2).bind fun r10 =>
 (al P 131 r10.2).bind fun r11 =>
 (st P 131 r11.1 r10.1 r11.2).bind fun r12 =>
 (fa P 131 r11.1 3 r12.2).bind fun r13 =>
 (ld P 49 r13.1 r13.2).bind fun r14 =>
 (EV P 98 #[r14.1] r14.2).bind fun r15 =>
 (fa P 131 r11.1 3 r15.2).bind fun r16 =>
 (st P 49 r16.1 r15.1 r16.2).bind fun r17 =>
 (fa P 77 (e 3) 2 r17.2).bind fun r18 =>
 (ld P 75 r18.1 r18.2).bind fun r19 =>
 (ld P 131 r11.1 r19.2).bind fun r20 =>
 (bs P 75 1 #[(0, r20.1)] r20.2).bind fun r21 =>
 (Au P #[75, 75] 75 #[r19.1, r21.1] r21.2).bind fun r22 =>
 (fa P 77 (e 3) 2 r22.2).bind fun r23 =>
 (st P 75 r23.1 r22.1 r23.2).bind fun r24 =>
 (vl (e 7) r24.2).bind fun r25 =>
 (bo P .add 3 (.tmp 62) (.const (.int .i64 1)) r25.1 (.int .i64 1) r25.2).bind fun r26 =>
 (vl r26.1 r26.2).bind fun r27 =>
 Dd (AK e [(57, r1.1), (58, r2.1), (59, r3.1), (60, r4.1), (61, r5.1), (64, r6.1), (65, r7.1), (66, r8.1), (67, r9.1), (68, r10.1), (8, r11.1), (69, r13.1), (70, r14.1), (71, r15.1), (72, r16.1), (73, r18.1), (74, r19.1), (75, r20.1), (76, r21.1), (77, r22.1), (78, r23.1), (62, r25.1), (63, r26.1), (7, r27.1)]) r27.2) (
 (ld P 77 (e 3) r5.2).bind fun r28 =>
 (st P 77 (e 2) r28.1 r28.2).bind fun r29 =>
 ((ld P 77 (e 2) r29.2).bind fun r30 => Ah (r30.2 = r29.2) (some r30.1)).bind fun v31 =>
 some (v31, r29.2)) := (AA P (EV P) 75 80 (cA (cA (cB (cA (cB (cB (cB (cB (Af P 75))))))))) e w (Al 4 (Ay P (EV P) 75 80 (cB (cB (cB (cB (cB (Af P 75)))))) (Bf P (AB P 75))))).trans (by kernel_rfl)
theorem K9 (x0 : Value) (w : World) : Br P (EV P) 75 #[x0] w =
 (bx P 77 x0 w).bind fun r1 =>
 (al P 77 r1.2).bind fun r2 =>
 (bs P 23 0 #[] r2.2).bind fun r3 =>
 (fa P 77 r1.1 3 r3.2).bind fun r4 =>
 (ld P 23 r4.1 r4.2).bind fun r5 =>
 (Au P #[23, 23] 23 #[r3.1, r5.1] r5.2).bind fun r6 =>
 (bd P 77 #[(3, r6.1)] r6.2).bind fun r7 =>
 (al P 77 r7.2).bind fun r8 =>
 (st P 77 r8.1 r7.1 r8.2).bind fun r9 =>
 (vl (.int .i64 0) r9.2).bind fun r10 =>
 Db (AK (AN #[x0]) [(1, r1.1), (2, r2.1), (9, r3.1), (10, r4.1), (11, r5.1), (12, r6.1), (13, r7.1), (3, r8.1), (4, r10.1)]) r10.2 := by kernel_rfl
noncomputable def De (e : Env) (w : World) : Option (Value × World) := Bt P (EV P) 76 35 (.loop (cA (cA (cB (cA (cB (cB (Af P 76)))))))) e w (Al 0 (Ay P (EV P) 76 35 (cB (cB (cB (Af P 76)))) (Bf P (AB P 76))))
noncomputable def GS (e : Env) (w : World) : Option (Value × World) := Bt P (EV P) 76 35 (cA (cA (cA (cB (cA (cA (cB (cA (cB (cB (Af P 76))))))))))) e w (Ay P (EV P) 76 35 (cB (cA (cA (cB (cA (cA (cB (cA (cB (cB (Af P 76))))))))))) (Al 1 (Ay P (EV P) 76 35 (cB (cB (cA (cA (cB (cA (cB (cB (Af P 76))))))))) (CO P (EV P) 76 35 (cA (cA (cB (cA (cB (cB (Af P 76))))))) (Al 0 (Ay P (EV P) 76 35 (cB (cB (cB (Af P 76)))) (Bf P (AB P 76))))))))
noncomputable def Df (e : Env) (w : World) : Option (Value × World) := Bt P (EV P) 76 35 (cB (cA (cA (cB (cA (cA (cB (cA (cB (cB (Af P 76))))))))))) e w (Al 1 (Ay P (EV P) 76 35 (cB (cB (cA (cA (cB (cA (cB (cB (Af P 76))))))))) (CO P (EV P) 76 35 (cA (cA (cB (cA (cB (cB (Af P 76))))))) (Al 0 (Ay P (EV P) 76 35 (cB (cB (cB (Af P 76)))) (Bf P (AB P 76)))))))
theorem Fs (e : Env) (w : World) : De e w =
 (vl (e 8) w).bind fun r1 =>
 (vl (e 2) r1.2).bind fun r2 =>
 (Ax P #[109] 3 #[r2.1] r2.2).bind fun r3 =>
 (bo P .lss 3 (.tmp 14) (.tmp 16) r1.1 r3.1 r3.2).bind fun r4 =>
 (vl r4.1 r4.2).bind fun r5 =>
 (Ao r5.1 true (vl (e 8) r5.2) r5.2).bind fun r6 =>
 (Ao r5.1 true (bo P .lss 3 (.tmp 19) (.const (.int .i64 60)) r6.1 (.int .i64 60) r6.2) r6.2).bind fun r7 =>
 (Az r5.1 r7.1 (.bool false) r7.2).bind fun r8 =>
 AR r8.1 (
 GS (AK e [(14, r1.1), (15, r2.1), (16, r3.1), (17, r4.1), (18, r5.1), (19, r6.1), (20, r7.1), (21, r8.1)]) r8.2) (
 (ld P 77 (e 7) r8.2).bind fun r9 =>
 (st P 77 (e 6) r9.1 r9.2).bind fun r10 =>
 ((ld P 77 (e 6) r10.2).bind fun r11 => Ah (r11.2 = r10.2) (some r11.1)).bind fun v12 =>
 some (v12, r10.2)) := (AA P (EV P) 76 35 (cA (cA (cB (cA (cB (cB (Af P 76))))))) e w (Al 0 (Ay P (EV P) 76 35 (cB (cB (cB (Af P 76)))) (Bf P (AB P 76))))).trans (by kernel_rfl)
theorem H2 (e : Env) (w : World) {Q : Value × World → Prop} (h :
 (Ae (ld P 77 (e 7) (dw w)) fun r1 => r1.2 = (dw w) ∧
 (Ae (vl (e 2) (dw w)) fun r2 => r2.2 = (dw w) ∧
 (Ae (vl (e 8) (dw w)) fun r3 => r3.2 = (dw w) ∧
 (Ae (ia P 109 r2.1 r3.1 (dw w)) fun r4 => r4.2 = (dw w) ∧
 (Ae (ld P 137 r4.1 (dw w)) fun r5 => r5.2 = (dw w) ∧
 ((Ae (EV P 100 #[r1.1, r5.1] (dw w)) fun r6 => (True ∧ True ∧ True ∧ True) ∧
 (Ae (vl r6.1 r6.2) fun r7 => r7.2 = r6.2 ∧
 (Ae (xt P r7.1 0 r6.2) fun r8 => r8.2 = r6.2 ∧
 (Ae (xt P r7.1 1 r6.2) fun r9 => r9.2 = r6.2 ∧
 ((Ae (al P 77 r6.2) fun r10 => (xt P r7.1 1 r10.2 = some (r9.1, r10.2) ∧ xt P r7.1 0 r10.2 = some (r8.1, r10.2) ∧ ld P 137 r4.1 r10.2 = some (r5.1, r10.2) ∧ ia P 109 r2.1 r3.1 r10.2 = some (r4.1, r10.2) ∧ ld P 77 (e 7) r10.2 = some (r1.1, r10.2) ∧ True) ∧
 ((Ae (st P 77 r10.1 r8.1 r10.2) fun r11 => (xt P r7.1 1 r11.2 = some (r9.1, r11.2) ∧ True ∧ True ∧ True ∧ True ∧ True) ∧
 (Ae (vl r9.1 r11.2) fun r12 => r12.2 = r11.2 ∧
 Ae (Df (AK e [(25, r1.1), (26, r2.1), (27, r3.1), (28, r4.1), (29, r5.1), (30, r6.1), (24, r7.1), (31, r8.1), (32, r9.1), (9, r10.1), (10, r12.1)]) r11.2) Q))))))))) ∧
 (Ae (al P 77 (dw w)) fun r13 => (ld P 137 r4.1 r13.2 = some (r5.1, r13.2) ∧ ia P 109 r2.1 r3.1 r13.2 = some (r4.1, r13.2) ∧ ld P 77 (e 7) r13.2 = some (r1.1, r13.2) ∧ True) ∧
 ((Ae (EV P 100 #[r1.1, r5.1] r13.2) fun r14 => (True ∧ True ∧ True ∧ True) ∧
 (Ae (vl r14.1 r14.2) fun r15 => r15.2 = r14.2 ∧
 (Ae (xt P r15.1 0 r14.2) fun r16 => r16.2 = r14.2 ∧
 (Ae (xt P r15.1 1 r14.2) fun r17 => r17.2 = r14.2 ∧
 ((Ae (st P 77 r13.1 r16.1 r14.2) fun r18 => (xt P r15.1 1 r18.2 = some (r17.1, r18.2) ∧ True ∧ True ∧ True ∧ True ∧ True) ∧
 (Ae (vl r17.1 r18.2) fun r19 => r19.2 = r18.2 ∧
 Ae (Df (AK e [(25, r1.1), (26, r2.1), (27, r3.1), (28, r4.1), (29, r5.1), (9, r13.1), (30, r14.1), (24, r15.1), (31, r16.1), (32, r17.1), (10, r19.1)]) r18.2) Q)))))))))))))))) : Ae (GS e w) Q := Et (id := 5) (ops := opsOf (cA (cA (cA (cB (cA (cA (cB (cA (cB (cB (Af P 76)))))))))))) (by kernel_rfl) (by kernel_rfl) (Eq.mpr (by kernel_rfl) h)
theorem IG (e : Env) (w : World) : Df e w =
 (ld P 77 (e 9) w).bind fun r1 =>
 (st P 77 (e 7) r1.1 r1.2).bind fun r2 =>
 (vl (e 8) r2.2).bind fun r3 =>
 (bo P .add 3 (.tmp 22) (.const (.int .i64 1)) r3.1 (.int .i64 1) r3.2).bind fun r4 =>
 (vl r4.1 r4.2).bind fun r5 =>
 De (AK e [(33, r1.1), (22, r3.1), (23, r4.1), (8, r5.1)]) r5.2 := by kernel_rfl
theorem La (x0 x1 x2 : Value) (w : World) : Br P (EV P) 76 #[x0, x1, x2] w =
 (al P 77 w).bind fun r1 =>
 (vl x0 r1.2).bind fun r2 =>
 (vl x1 r2.2).bind fun r3 =>
 (EV P 99 #[r2.1, r3.1] r3.2).bind fun r4 =>
 (al P 77 r4.2).bind fun r5 =>
 (st P 77 r5.1 r4.1 r5.2).bind fun r6 =>
 (vl (.int .i64 0) r6.2).bind fun r7 =>
 De (AK (AN #[x0, x1, x2]) [(6, r1.1), (11, r2.1), (12, r3.1), (13, r4.1), (7, r5.1), (8, r7.1)]) r7.2 := by kernel_rfl
noncomputable def Dg (e : Env) (w : World) : Option (Value × World) := Bt P (EV P) 83 25 (.loop (cA (cA (cB (cA (cB (cB (Af P 83)))))))) e w (Al 0 (Ay P (EV P) 83 25 (cB (cB (cB (Af P 83)))) (Bf P (AB P 83))))
theorem Ft (e : Env) (w : World) : Dg e w =
 (vl (e 4) w).bind fun r1 =>
 (fa P 44 (e 1) 0 r1.2).bind fun r2 =>
 (ld P 42 r2.1 r2.2).bind fun r3 =>
 (Ax P #[42] 3 #[r3.1] r3.2).bind fun r4 =>
 (bo P .lss 3 (.tmp 6) (.tmp 9) r1.1 r4.1 r4.2).bind fun r5 =>
 AR r5.1 (
 (fa P 32 (e 3) 0 (dw r5.2)).bind fun r7 =>
 Ah (r7.2 = (dw r5.2)) <|
 (ld P 30 r7.1 (dw r5.2)).bind fun r8 =>
 Ah (r8.2 = (dw r5.2)) <|
 (fa P 44 (e 1) 0 (dw r5.2)).bind fun r9 =>
 Ah (r9.2 = (dw r5.2)) <|
 (ld P 42 r9.1 (dw r5.2)).bind fun r10 =>
 Ah (r10.2 = (dw r5.2)) <|
 (vl (e 4) (dw r5.2)).bind fun r11 =>
 Ah (r11.2 = (dw r5.2)) <|
 (ia P 42 r10.1 r11.1 (dw r5.2)).bind fun r12 =>
 Ah (r12.2 = (dw r5.2)) <|
 (fa P 49 r12.1 1 (dw r5.2)).bind fun r13 =>
 Ah (r13.2 = (dw r5.2)) <|
 (ld P 36 r13.1 (dw r5.2)).bind fun r14 =>
 Ah (r14.2 = (dw r5.2)) <|
 (bs P 30 1 #[(0, r14.1)] (dw r5.2)).bind fun r15 =>
 Ah (True ∧ True ∧ True ∧ True ∧ True ∧ ld P 30 r7.1 r15.2 = some (r8.1, r15.2) ∧ fa P 32 (e 3) 0 r15.2 = some (r7.1, r15.2) ∧ True) <|
 (Au P #[30, 30] 30 #[r8.1, r15.1] r15.2).bind fun r16 =>
 Ah (True ∧ True ∧ True ∧ True ∧ True ∧ True ∧ True ∧ True) <|
 (fa P 32 (e 3) 0 r16.2).bind fun r17 =>
 Ah (r17.2 = r16.2) <|
 (st P 30 r17.1 r16.1 r16.2).bind fun r18 =>
 Ah (True ∧ True ∧ True ∧ True ∧ True ∧ True ∧ True ∧ True ∧ True) <|
 (vl (e 4) r18.2).bind fun r19 =>
 (bo P .add 3 (.tmp 11) (.const (.int .i64 1)) r19.1 (.int .i64 1) r19.2).bind fun r20 =>
 (vl r20.1 r20.2).bind fun r21 =>
 Dg (AK e [(6, r1.1), (7, r2.1), (8, r3.1), (9, r4.1), (10, r5.1), (13, r7.1), (14, r8.1), (15, r9.1), (16, r10.1), (17, r11.1), (18, r12.1), (19, r13.1), (20, r14.1), (21, r15.1), (22, r16.1), (23, r17.1), (11, r19.1), (12, r20.1), (4, r21.1)]) r21.2) (
 (ld P 32 (e 3) r5.2).bind fun r22 =>
 (st P 32 (e 2) r22.1 r22.2).bind fun r23 =>
 ((ld P 32 (e 2) r23.2).bind fun r24 => Ah (r24.2 = r23.2) (some r24.1)).bind fun v25 =>
 some (v25, r23.2)) := (AA P (EV P) 83 25 (cA (cA (cB (cA (cB (cB (Af P 83))))))) e w (Al 0 (Ay P (EV P) 83 25 (cB (cB (cB (Af P 83)))) (Bf P (AB P 83))))).trans (by kernel_rfl)
theorem Lb (x0 : Value) (w : World) : Br P (EV P) 83 #[x0] w =
 (bx P 44 x0 w).bind fun r1 =>
 (al P 32 r1.2).bind fun r2 =>
 (bd P 32 #[] r2.2).bind fun r3 =>
 (al P 32 r3.2).bind fun r4 =>
 (st P 32 r4.1 r3.1 r4.2).bind fun r5 =>
 (vl (.int .i64 0) r5.2).bind fun r6 =>
 Dg (AK (AN #[x0]) [(1, r1.1), (2, r2.1), (5, r3.1), (3, r4.1), (4, r6.1)]) r6.2 := by kernel_rfl
noncomputable def Cu (e : Env) (w : World) : Option (Value × World) := Bt P (EV P) 84 21 (.loop (cA (cA (cB (cA (cB (Af P 84))))))) e w (Al 0 (Ay P (EV P) 84 21 (cB (cB (Af P 84))) (Bf P (AB P 84))))
theorem El (e : Env) (w : World) : Cu e w =
 (vl (e 5) w).bind fun r1 =>
 (bo P .lss 3 (.tmp 6) (.const (.int .i64 4)) r1.1 (.int .i64 4) r1.2).bind fun r2 =>
 AR r2.1 (
 (fa P 32 (e 3) 0 (dw r2.2)).bind fun r4 =>
 Ah (r4.2 = (dw r2.2)) <|
 (ld P 30 r4.1 (dw r2.2)).bind fun r5 =>
 Ah (r5.2 = (dw r2.2)) <|
 (vl (e 5) (dw r2.2)).bind fun r6 =>
 Ah (r6.2 = (dw r2.2)) <|
 (ia P 30 r5.1 r6.1 (dw r2.2)).bind fun r7 =>
 Ah (r7.2 = (dw r2.2)) <|
 (ld P 36 r7.1 (dw r2.2)).bind fun r8 =>
 Ah (r8.2 = (dw r2.2)) <|
 (fa P 32 (e 2) 0 (dw r2.2)).bind fun r9 =>
 Ah (r9.2 = (dw r2.2)) <|
 (ld P 30 r9.1 (dw r2.2)).bind fun r10 =>
 Ah (r10.2 = (dw r2.2)) <|
 (vl (e 5) (dw r2.2)).bind fun r11 =>
 Ah (r11.2 = (dw r2.2)) <|
 (ia P 30 r10.1 r11.1 (dw r2.2)).bind fun r12 =>
 Ah (r12.2 = (dw r2.2)) <|
 (ld P 36 r12.1 (dw r2.2)).bind fun r13 =>
 Ah (r13.2 = (dw r2.2)) <|
 (EV P 63 #[r8.1, r13.1] (dw r2.2)).bind fun r14 =>
 Ah (True ∧ True ∧ True ∧ True ∧ True ∧ True ∧ True ∧ True ∧ True) <|
 AR r14.1 (
 (vl (.bool false) r14.2).bind fun r15 =>
 some (r15.1, r15.2)) (
 (vl (e 5) r14.2).bind fun r16 =>
 (bo P .add 3 (.tmp 8) (.const (.int .i64 1)) r16.1 (.int .i64 1) r16.2).bind fun r17 =>
 (vl r17.1 r17.2).bind fun r18 =>
 Cu (AK e [(6, r1.1), (7, r2.1), (10, r4.1), (11, r5.1), (12, r6.1), (13, r7.1), (14, r8.1), (15, r9.1), (16, r10.1), (17, r11.1), (18, r12.1), (19, r13.1), (20, r14.1), (8, r16.1), (9, r17.1), (5, r18.1)]) r18.2)) (
 (vl (.bool true) r2.2).bind fun r19 =>
 some (r19.1, r19.2)) := (AA P (EV P) 84 21 (cA (cA (cB (cA (cB (Af P 84)))))) e w (Al 0 (Ay P (EV P) 84 21 (cB (cB (Af P 84))) (Bf P (AB P 84))))).trans (by kernel_rfl)
theorem JE (x0 x1 : Value) (w : World) : Br P (EV P) 84 #[x0, x1] w =
 (bx P 32 x0 w).bind fun r1 =>
 (bx P 32 x1 r1.2).bind fun r2 =>
 (vl (.bool false) r2.2).bind fun r3 =>
 (vl (.int .i64 0) r3.2).bind fun r4 =>
 Cu (AK (AN #[x0, x1]) [(2, r1.1), (3, r2.1), (4, r3.1), (5, r4.1)]) r4.2 := by kernel_rfl
theorem Lc (x0 : Value) (w : World) : Br P (EV P) 86 #[x0] w =
 (al P 36 w).bind fun r1 =>
 (vl x0 r1.2).bind fun r2 =>
 (EV P 42 #[r2.1, (.int .i64 3)] r2.2).bind fun r3 =>
 (bo P .eql 3 (.tmp 4) (.const (.int .i64 0)) r3.1 (.int .i64 0) r3.2).bind fun r4 =>
 AR r4.1 (
 (bd P 36 #[] r4.2).bind fun r5 =>
 (st P 36 r1.1 r5.1 r5.2).bind fun r6 =>
 ((ld P 36 r1.1 r6.2).bind fun r7 => Ah (r7.2 = r6.2) (some r7.1)).bind fun v8 =>
 some (v8, r6.2)) (
 (vl x0 r4.2).bind fun r9 =>
 (EV P 42 #[r9.1, (.int .i64 9)] r9.2).bind fun r10 =>
 (bo P .add 3 (.const (.int .i64 1)) (.tmp 8) (.int .i64 1) r10.1 r10.2).bind fun r11 =>
 (vl x0 r11.2).bind fun r12 =>
 (EV P 42 #[r12.1, (.int .i64 3)] r12.2).bind fun r13 =>
 (bd P 36 #[(0, r11.1), (1, r13.1)] r13.2).bind fun r14 =>
 (st P 36 r1.1 r14.1 r14.2).bind fun r15 =>
 ((ld P 36 r1.1 r15.2).bind fun r16 => Ah (r16.2 = r15.2) (some r16.1)).bind fun v17 =>
 some (v17, r15.2)) := by kernel_rfl
noncomputable def Bo (e : Env) (w : World) : Option (Value × World) := Bt P (EV P) 87 19 (.loop (cA (cA (cB (cA (cB (Af P 87))))))) e w (Al 0 (Ay P (EV P) 87 19 (cB (cB (Af P 87))) (Bf P (AB P 87))))
theorem Cc (e : Env) (w : World) : Bo e w =
 (bo P .lss 3 (.tmp 8) (.tmp 7) (e 8) (e 7) w).bind fun r1 =>
 AR r1.1 (
 (vl (e 8) r1.2).bind fun r2 =>
 (vl r2.1 r2.2).bind fun r3 =>
 (vl (e 1) r3.2).bind fun r4 =>
 (vl (e 0) r4.2).bind fun r5 =>
 (vl r3.1 r5.2).bind fun r6 =>
 (ia P 23 r5.1 r6.1 r6.2).bind fun r7 =>
 (ld P 38 r7.1 r7.2).bind fun r8 =>
 (SM P r4.1 #[r8.1] r8.2).bind fun r9 =>
 AR r9.1 (
 (vl r3.1 r9.2).bind fun r10 =>
 (vl r10.1 r10.2).bind fun r11 =>
 some (r11.1, r11.2)) (
 (bo P .add 3 (.tmp 8) (.const (.int .i64 1)) (e 8) (.int .i64 1) r9.2).bind fun r12 =>
 (vl r12.1 r12.2).bind fun r13 =>
 Bo (AK e [(9, r1.1), (10, r2.1), (5, r3.1), (11, r4.1), (12, r5.1), (13, r6.1), (14, r7.1), (15, r8.1), (16, r9.1), (18, r12.1), (8, r13.1)]) r13.2)) (
 (vl (.int .i64 (-1)) r1.2).bind fun r14 =>
 some (r14.1, r14.2)) := (AA P (EV P) 87 19 (cA (cA (cB (cA (cB (Af P 87)))))) e w (Al 0 (Ay P (EV P) 87 19 (cB (cB (Af P 87))) (Bf P (AB P 87))))).trans (by kernel_rfl)
theorem FM (x0 x1 : Value) (w : World) : Br P (EV P) 87 #[x0, x1] w =
 (vl (.int .i64 0) w).bind fun r1 =>
 (vl x0 r1.2).bind fun r2 =>
 (Ax P #[23] 3 #[r2.1] r2.2).bind fun r3 =>
 (vl (.int .i64 0) r3.2).bind fun r4 =>
 Bo (AK (AN #[x0, x1]) [(4, r1.1), (6, r2.1), (7, r3.1), (8, r4.1)]) r4.2 := by kernel_rfl
theorem Kg (x0 : Value) (w : World) : Br P (EV P) 88 #[x0] w =
 (vl (.bool false) w).bind fun r1 =>
 (vl x0 r1.2).bind fun r2 =>
 (EV P 35 #[r2.1, (.int .i64 0), (.int .i64 2)] r2.2).bind fun r3 =>
 (vl r3.1 r3.2).bind fun r4 =>
 some (r4.1, r4.2) := by kernel_rfl
noncomputable def BL (e : Env) (w : World) : Option (Value × World) := Bt P (EV P) 89 19 (.loop (cA (cA (cB (cA (cB (cB (Af P 89)))))))) e w (Al 0 (Ay P (EV P) 89 19 (cB (cB (cB (Af P 89)))) (Bf P (AB P 89))))
theorem Dh (e : Env) (w : World) : BL e w =
 (bo P .lss 3 (.tmp 9) (.tmp 8) (e 9) (e 8) w).bind fun r1 =>
 AR r1.1 (
 (ia P 30 (e 7) (e 9) r1.2).bind fun r2 =>
 (ld P 36 r2.1 r2.2).bind fun r3 =>
 (al P 36 r3.2).bind fun r4 =>
 (st P 36 r4.1 r3.1 r4.2).bind fun r5 =>
 (vl (e 3) r5.2).bind fun r6 =>
 (fa P 36 r4.1 0 r6.2).bind fun r7 =>
 (ld P 3 r7.1 r7.2).bind fun r8 =>
 (RY P #[3, 3] 3 #[r6.1, r8.1] r8.2).bind fun r9 =>
 (vl r9.1 r9.2).bind fun r10 =>
 (bo P .add 3 (.tmp 9) (.const (.int .i64 1)) (e 9) (.int .i64 1) r10.2).bind fun r11 =>
 (vl r11.1 r11.2).bind fun r12 =>
 BL (AK e [(10, r1.1), (11, r2.1), (12, r3.1), (5, r4.1), (13, r6.1), (14, r7.1), (15, r8.1), (16, r9.1), (3, r10.1), (17, r11.1), (9, r12.1)]) r12.2) (
 (vl (e 3) r1.2).bind fun r13 =>
 (vl r13.1 r13.2).bind fun r14 =>
 some (r14.1, r14.2)) := (AA P (EV P) 89 19 (cA (cA (cB (cA (cB (cB (Af P 89))))))) e w (Al 0 (Ay P (EV P) 89 19 (cB (cB (cB (Af P 89)))) (Bf P (AB P 89))))).trans (by kernel_rfl)
theorem HA (x0 : Value) (w : World) : Br P (EV P) 89 #[x0] w =
 (bx P 32 x0 w).bind fun r1 =>
 (vl (.int .i64 0) r1.2).bind fun r2 =>
 (vl (.int .i64 0) r2.2).bind fun r3 =>
 (fa P 32 r1.1 0 r3.2).bind fun r4 =>
 (ld P 30 r4.1 r4.2).bind fun r5 =>
 (Ax P #[30] 3 #[r5.1] r5.2).bind fun r6 =>
 (vl (.int .i64 0) r6.2).bind fun r7 =>
 BL (AK (AN #[x0]) [(1, r1.1), (2, r2.1), (3, r3.1), (6, r4.1), (7, r5.1), (8, r6.1), (9, r7.1)]) r7.2 := by kernel_rfl
noncomputable def Cd (e : Env) (w : World) : Option (Value × World) := Bt P (EV P) 90 31 (.loop (cA (cA (cB (cA (cB (cB (Af P 90)))))))) e w (Al 0 (Ay P (EV P) 90 31 (cB (cB (cB (Af P 90)))) (Bf P (AB P 90))))
theorem DW (e : Env) (w : World) : Cd e w =
 (bo P .lss 3 (.tmp 13) (.tmp 12) (e 13) (e 12) w).bind fun r1 =>
 AR r1.1 (
 (vl (e 13) r1.2).bind fun r2 =>
 (ia P 30 (e 11) (e 13) r2.2).bind fun r3 =>
 (ld P 36 r3.1 r3.2).bind fun r4 =>
 (al P 36 r4.2).bind fun r5 =>
 (vl r2.1 r5.2).bind fun r6 =>
 (st P 36 r5.1 r4.1 r6.2).bind fun r7 =>
 (fa P 32 (e 5) 0 (dw r7.2)).bind fun r9 =>
 Ah (r9.2 = (dw r7.2)) <|
 (ld P 30 r9.1 (dw r7.2)).bind fun r10 =>
 Ah (r10.2 = (dw r7.2)) <|
 (vl r6.1 (dw r7.2)).bind fun r11 =>
 Ah (r11.2 = (dw r7.2)) <|
 (fa P 32 (e 5) 0 (dw r7.2)).bind fun r12 =>
 Ah (r12.2 = (dw r7.2)) <|
 (ld P 30 r12.1 (dw r7.2)).bind fun r13 =>
 Ah (r13.2 = (dw r7.2)) <|
 (vl r6.1 (dw r7.2)).bind fun r14 =>
 Ah (r14.2 = (dw r7.2)) <|
 (ia P 30 r13.1 r14.1 (dw r7.2)).bind fun r15 =>
 Ah (r15.2 = (dw r7.2)) <|
 (ld P 36 r15.1 (dw r7.2)).bind fun r16 =>
 Ah (r16.2 = (dw r7.2)) <|
 (ld P 36 r5.1 (dw r7.2)).bind fun r17 =>
 Ah (r17.2 = (dw r7.2)) <|
 (EV P 109 #[r16.1, r17.1] (dw r7.2)).bind fun r18 =>
 Ah (True ∧ True ∧ True ∧ True ∧ True ∧ ld P 30 r9.1 r18.2 = some (r10.1, r18.2) ∧ fa P 32 (e 5) 0 r18.2 = some (r9.1, r18.2) ∧ True) <|
 (ia P 30 r10.1 r11.1 r18.2).bind fun r19 =>
 Ah (r19.2 = r18.2) <|
 (st P 36 r19.1 r18.1 r18.2).bind fun r20 =>
 Ah (True ∧ True ∧ True ∧ True ∧ True ∧ True ∧ True ∧ True ∧ True) <|
 (bo P .add 3 (.tmp 13) (.const (.int .i64 1)) (e 13) (.int .i64 1) r20.2).bind fun r21 =>
 (vl r21.1 r21.2).bind fun r22 =>
 Cd (AK e [(14, r1.1), (15, r2.1), (16, r3.1), (17, r4.1), (7, r5.1), (6, r6.1), (18, r9.1), (19, r10.1), (20, r11.1), (21, r12.1), (22, r13.1), (23, r14.1), (24, r15.1), (25, r16.1), (26, r17.1), (27, r18.1), (28, r19.1), (29, r21.1), (13, r22.1)]) r22.2) (
 (ld P 32 (e 5) r1.2).bind fun r23 =>
 (st P 32 (e 4) r23.1 r23.2).bind fun r24 =>
 ((ld P 32 (e 4) r24.2).bind fun r25 => Ah (r25.2 = r24.2) (some r25.1)).bind fun v26 =>
 some (v26, r24.2)) := (AA P (EV P) 90 31 (cA (cA (cB (cA (cB (cB (Af P 90))))))) e w (Al 0 (Ay P (EV P) 90 31 (cB (cB (cB (Af P 90)))) (Bf P (AB P 90))))).trans (by kernel_rfl)
theorem II (x0 x1 : Value) (w : World) : Br P (EV P) 90 #[x0, x1] w =
 (bx P 32 x0 w).bind fun r1 =>
 (bx P 32 x1 r1.2).bind fun r2 =>
 (al P 32 r2.2).bind fun r3 =>
 (ld P 32 r1.1 r3.2).bind fun r4 =>
 (EV P 36 #[r4.1] r4.2).bind fun r5 =>
 (al P 32 r5.2).bind fun r6 =>
 (st P 32 r6.1 r5.1 r6.2).bind fun r7 =>
 (fa P 32 r2.1 0 r7.2).bind fun r8 =>
 (ld P 30 r8.1 r8.2).bind fun r9 =>
 (Ax P #[30] 3 #[r9.1] r9.2).bind fun r10 =>
 (vl (.int .i64 0) r10.2).bind fun r11 =>
 Cd (AK (AN #[x0, x1]) [(2, r1.1), (3, r2.1), (4, r3.1), (8, r4.1), (9, r5.1), (5, r6.1), (10, r8.1), (11, r9.1), (12, r10.1), (13, r11.1)]) r11.2 := by kernel_rfl
theorem IJ (x0 x1 x2 : Value) (w : World) : Br P (EV P) 91 #[x0, x1, x2] w =
 (bx P 32 x0 w).bind fun r1 =>
 (bx P 36 x2 r1.2).bind fun r2 =>
 (al P 32 r2.2).bind fun r3 =>
 (ld P 32 r1.1 r3.2).bind fun r4 =>
 (EV P 36 #[r4.1] r4.2).bind fun r5 =>
 (al P 32 r5.2).bind fun r6 =>
 (st P 32 r6.1 r5.1 r6.2).bind fun r7 =>
 (fa P 32 r6.1 0 (dw r7.2)).bind fun r9 =>
 Ah (r9.2 = (dw r7.2)) <|
 (ld P 30 r9.1 (dw r7.2)).bind fun r10 =>
 Ah (r10.2 = (dw r7.2)) <|
 (vl x1 (dw r7.2)).bind fun r11 =>
 Ah (r11.2 = (dw r7.2)) <|
 (fa P 32 r6.1 0 (dw r7.2)).bind fun r12 =>
 Ah (r12.2 = (dw r7.2)) <|
 (ld P 30 r12.1 (dw r7.2)).bind fun r13 =>
 Ah (r13.2 = (dw r7.2)) <|
 (vl x1 (dw r7.2)).bind fun r14 =>
 Ah (r14.2 = (dw r7.2)) <|
 (ia P 30 r13.1 r14.1 (dw r7.2)).bind fun r15 =>
 Ah (r15.2 = (dw r7.2)) <|
 (ld P 36 r15.1 (dw r7.2)).bind fun r16 =>
 Ah (r16.2 = (dw r7.2)) <|
 (ld P 36 r2.1 (dw r7.2)).bind fun r17 =>
 Ah (r17.2 = (dw r7.2)) <|
 (EV P 109 #[r16.1, r17.1] (dw r7.2)).bind fun r18 =>
 Ah (True ∧ True ∧ True ∧ True ∧ True ∧ ld P 30 r9.1 r18.2 = some (r10.1, r18.2) ∧ fa P 32 r6.1 0 r18.2 = some (r9.1, r18.2) ∧ True) <|
 (ia P 30 r10.1 r11.1 r18.2).bind fun r19 =>
 Ah (r19.2 = r18.2) <|
 (st P 36 r19.1 r18.1 r18.2).bind fun r20 =>
 Ah (True ∧ True ∧ True ∧ True ∧ True ∧ True ∧ True ∧ True ∧ True) <|
 (ld P 32 r6.1 r20.2).bind fun r21 =>
 (st P 32 r3.1 r21.1 r21.2).bind fun r22 =>
 ((ld P 32 r3.1 r22.2).bind fun r23 => Ah (r23.2 = r22.2) (some r23.1)).bind fun v24 =>
 some (v24, r22.2) := by kernel_rfl
theorem Kh (x0 : Value) (w : World) : Br P (EV P) 92 #[x0] w =
 (bx P 36 x0 w).bind fun r1 =>
 (vl (.bool false) r1.2).bind fun r2 =>
 (ld P 36 r1.1 r2.2).bind fun r3 =>
 (bd P 36 #[] r3.2).bind fun r4 =>
 (bo P .eql 36 (.tmp 3) (.tmp 4) r3.1 r4.1 r4.2).bind fun r5 =>
 (vl r5.1 r5.2).bind fun r6 =>
 (Ao r6.1 false (fa P 36 r1.1 0 r6.2) r6.2).bind fun r7 =>
 (Ao r6.1 false (ld P 3 r7.1 r7.2) r7.2).bind fun r8 =>
 (Ao r6.1 false (EV P 37 #[r8.1, (.int .i64 1), (.int .i64 999)] r8.2) r8.2).bind fun r9 =>
 (Ao r6.1 false (vl r9.1 r9.2) r9.2).bind fun r10 =>
 (Ao r10.1 true (fa P 36 r1.1 1 r10.2) r10.2).bind fun r11 =>
 (Ao r10.1 true (ld P 3 r11.1 r11.2) r11.2).bind fun r12 =>
 (Ao r10.1 true (EV P 37 #[r12.1, (.int .i64 0), (.int .i64 2)] r12.2) r12.2).bind fun r13 =>
 (Ao r6.1 false (Az r10.1 r13.1 (.bool false) r13.2) r13.2).bind fun r14 =>
 (Az r6.1 (.bool true) r14.1 r14.2).bind fun r15 =>
 (vl r15.1 r15.2).bind fun r16 =>
 some (r16.1, r16.2) := by kernel_rfl
theorem ML (x0 x1 : Value) (w : World) : Br P (EV P) 93 #[x0, x1] w =
 (bx P 36 x0 w).bind fun r1 =>
 (bx P 36 x1 r1.2).bind fun r2 =>
 (al P 36 r2.2).bind fun r3 =>
 (ld P 36 r1.1 r3.2).bind fun r4 =>
 (ld P 36 r2.1 r4.2).bind fun r5 =>
 (EV P 63 #[r4.1, r5.1] r5.2).bind fun r6 =>
 AR r6.1 (
 (ld P 36 r2.1 r6.2).bind fun r7 =>
 (st P 36 r3.1 r7.1 r7.2).bind fun r8 =>
 ((ld P 36 r3.1 r8.2).bind fun r9 => Ah (r9.2 = r8.2) (some r9.1)).bind fun v10 =>
 some (v10, r8.2)) (
 (ld P 36 r1.1 r6.2).bind fun r11 =>
 (st P 36 r3.1 r11.1 r11.2).bind fun r12 =>
 ((ld P 36 r3.1 r12.2).bind fun r13 => Ah (r13.2 = r12.2) (some r13.1)).bind fun v14 =>
 some (v14, r12.2)) := by kernel_rfl
theorem JF (x0 : Value) (w : World) : Br P (EV P) 94 #[x0] w =
 (vl (.bool false) w).bind fun r1 =>
 (vl x0 r1.2).bind fun r2 =>
 (vl x0 r2.2).bind fun r3 =>
 (bo P .neq 3 (.tmp 3) (.tmp 4) r2.1 r3.1 r3.2).bind fun r4 =>
 (vl r4.1 r4.2).bind fun r5 =>
 some (r5.1, r5.2) := by kernel_rfl
noncomputable def Ce (e : Env) (w : World) : Option (Value × World) := Bt P (EV P) 96 46 (.loop (cA (cA (cB (cA (cB (cB (cB (Af P 96))))))))) e w (Al 0 (Ay P (EV P) 96 46 (cB (cB (cB (cB (Af P 96))))) (Bf P (AB P 96))))
noncomputable def Cf (e : Env) (w : World) : Option (Value × World) := Bt P (EV P) 96 46 (cB (cB (cA (cA (cB (cA (cB (cB (cB (Af P 96)))))))))) e w (CO P (EV P) 96 46 (cA (cA (cB (cA (cB (cB (cB (Af P 96)))))))) (Al 0 (Ay P (EV P) 96 46 (cB (cB (cB (cB (Af P 96))))) (Bf P (AB P 96)))))
theorem DX (e : Env) (w : World) : Ce e w =
 (vl (e 11) w).bind fun r1 =>
 (vl (e 3) r1.2).bind fun r2 =>
 (bo P .lss 3 (.tmp 19) (.tmp 20) r1.1 r2.1 r2.2).bind fun r3 =>
 AR r3.1 (
 (vl (e 0) r3.2).bind fun r4 =>
 (ld P 77 (e 9) r4.2).bind fun r5 =>
 (EV P 110 #[r4.1, r5.1] r5.2).bind fun r6 =>
 (al P 137 r6.2).bind fun r7 =>
 (st P 137 r7.1 r6.1 r7.2).bind fun r8 =>
 (ld P 77 (e 9) r8.2).bind fun r9 =>
 (ld P 137 r7.1 r9.2).bind fun r10 =>
 (EV P 100 #[r9.1, r10.1] r10.2).bind fun r11 =>
 (vl r11.1 r11.2).bind fun r12 =>
 (xt P r12.1 0 r12.2).bind fun r13 =>
 (xt P r12.1 1 r13.2).bind fun r14 =>
 (al P 77 r14.2).bind fun r15 =>
 (st P 77 r15.1 r13.1 r15.2).bind fun r16 =>
 (vl r14.1 r16.2).bind fun r17 =>
 (vl r17.1 r17.2).bind fun r18 =>
 (uo P .not r18.1 r18.2).bind fun r19 =>
 (vl r19.1 r19.2).bind fun r20 =>
 (Ao r20.1 true (vl (e 0) r20.2) r20.2).bind fun r21 =>
 (Ao r20.1 true (EV P 42 #[r21.1, (.int .i64 6)] r21.2) r21.2).bind fun r22 =>
 (Ao r20.1 true (bo P .gtr 3 (.tmp 37) (.const (.int .i64 0)) r22.1 (.int .i64 0) r22.2) r22.2).bind fun r23 =>
 (Az r20.1 r23.1 (.bool false) r23.2).bind fun r24 =>
 AR r24.1 (
 Cf (AK e [(19, r1.1), (20, r2.1), (21, r3.1), (24, r4.1), (25, r5.1), (26, r6.1), (12, r7.1), (28, r9.1), (29, r10.1), (30, r11.1), (27, r12.1), (31, r13.1), (32, r14.1), (13, r15.1), (14, r17.1), (33, r18.1), (34, r19.1), (35, r20.1), (36, r21.1), (37, r22.1), (38, r23.1), (39, r24.1)]) r24.2) (
 (ld P 77 r15.1 r24.2).bind fun r25 =>
 (st P 77 (e 9) r25.1 r25.2).bind fun r26 =>
 (vl (e 10) r26.2).bind fun r27 =>
 (ld P 137 r7.1 r27.2).bind fun r28 =>
 (bs P 109 1 #[(0, r28.1)] r28.2).bind fun r29 =>
 (Au P #[109, 109] 109 #[r27.1, r29.1] r29.2).bind fun r30 =>
 (vl r30.1 r30.2).bind fun r31 =>
 Cf (AK e [(19, r1.1), (20, r2.1), (21, r3.1), (24, r4.1), (25, r5.1), (26, r6.1), (12, r7.1), (28, r9.1), (29, r10.1), (30, r11.1), (27, r12.1), (31, r13.1), (32, r14.1), (13, r15.1), (14, r17.1), (33, r18.1), (34, r19.1), (35, r20.1), (36, r21.1), (37, r22.1), (38, r23.1), (39, r24.1), (40, r25.1), (41, r27.1), (42, r28.1), (43, r29.1), (44, r30.1), (10, r31.1)]) r31.2)) (
 (vl (e 10) r3.2).bind fun r32 =>
 (vl r32.1 r32.2).bind fun r33 =>
 some (r33.1, r33.2)) := (AA P (EV P) 96 46 (cA (cA (cB (cA (cB (cB (cB (Af P 96)))))))) e w (Al 0 (Ay P (EV P) 96 46 (cB (cB (cB (cB (Af P 96))))) (Bf P (AB P 96))))).trans (by kernel_rfl)
theorem GU (e : Env) (w : World) : Cf e w =
 (vl (e 11) w).bind fun r1 =>
 (bo P .add 3 (.tmp 22) (.const (.int .i64 1)) r1.1 (.int .i64 1) r1.2).bind fun r2 =>
 (vl r2.1 r2.2).bind fun r3 =>
 Ce (AK e [(22, r1.1), (23, r2.1), (11, r3.1)]) r3.2 := by kernel_rfl
theorem IK (x0 x1 x2 x3 : Value) (w : World) : Br P (EV P) 96 #[x0, x1, x2, x3] w =
 (vl (Go.Value.slice none 0 0) w).bind fun r1 =>
 (vl x1 r1.2).bind fun r2 =>
 (vl x2 r2.2).bind fun r3 =>
 (EV P 99 #[r2.1, r3.1] r3.2).bind fun r4 =>
 (al P 77 r4.2).bind fun r5 =>
 (st P 77 r5.1 r4.1 r5.2).bind fun r6 =>
 (bs P 109 0 #[] r6.2).bind fun r7 =>
 (vl r7.1 r7.2).bind fun r8 =>
 (vl (.int .i64 0) r8.2).bind fun r9 =>
 Ce (AK (AN #[x0, x1, x2, x3]) [(8, r1.1), (15, r2.1), (16, r3.1), (17, r4.1), (9, r5.1), (18, r7.1), (10, r8.1), (11, r9.1)]) r9.2 := by kernel_rfl
noncomputable def GV (e : Env) (w : World) : Option (Value × World) := Bt P (EV P) 97 37 (cA (cB (Af P 97))) e w (Ay P (EV P) 97 37 (cB (cB (Af P 97))) (Bf P (AB P 97)))
noncomputable def Cm (e : Env) (w : World) : Option (Value × World) := Bt P (EV P) 97 37 (cB (cB (Af P 97))) e w (Bf P (AB P 97))
noncomputable def Di (e : Env) (w : World) : Option (Value × World) := Bt P (EV P) 97 37 (.loop (cA (cA (cB (cA (cB (cB (Af P 97)))))))) e w (Al 0 (Ay P (EV P) 97 37 (cB (cB (cB (Af P 97)))) (Bf P (AB P 97))))
theorem H4 (e : Env) (w : World) {Q : Value × World → Prop} (h :
 (Ae (fa P 84 (e 1) 0 (dw w)) fun r1 => r1.2 = (dw w) ∧
 (Ae (ld P 3 r1.1 (dw w)) fun r2 => r2.2 = (dw w) ∧
 (Ae (fa P 84 (e 1) 1 (dw w)) fun r3 => r3.2 = (dw w) ∧
 (Ae (ld P 3 r3.1 (dw w)) fun r4 => r4.2 = (dw w) ∧
 (Ae (fa P 84 (e 1) 5 (dw w)) fun r5 => r5.2 = (dw w) ∧
 (Ae (ld P 4 r5.1 (dw w)) fun r6 => r6.2 = (dw w) ∧
 (Ae (fa P 84 (e 1) 2 (dw w)) fun r7 => r7.2 = (dw w) ∧
 (Ae (ld P 81 r7.1 (dw w)) fun r8 => r8.2 = (dw w) ∧
 (Ae (fa P 84 (e 1) 3 (dw w)) fun r9 => r9.2 = (dw w) ∧
 (Ae (ld P 42 r9.1 (dw w)) fun r10 => r10.2 = (dw w) ∧
 ((Ae (EV P 111 #[r8.1] (dw w)) fun r11 => (ld P 42 r9.1 r11.2 = some (r10.1, r11.2) ∧ fa P 84 (e 1) 3 r11.2 = some (r9.1, r11.2) ∧ True ∧ True ∧ ld P 4 r5.1 r11.2 = some (r6.1, r11.2) ∧ fa P 84 (e 1) 5 r11.2 = some (r5.1, r11.2) ∧ ld P 3 r3.1 r11.2 = some (r4.1, r11.2) ∧ fa P 84 (e 1) 1 r11.2 = some (r3.1, r11.2) ∧ ld P 3 r1.1 r11.2 = some (r2.1, r11.2) ∧ fa P 84 (e 1) 0 r11.2 = some (r1.1, r11.2) ∧ True) ∧
 ((Ae (EV P 112 #[r10.1] r11.2) fun r12 => (True ∧ True ∧ True ∧ True ∧ ld P 4 r5.1 r12.2 = some (r6.1, r12.2) ∧ fa P 84 (e 1) 5 r12.2 = some (r5.1, r12.2) ∧ ld P 3 r3.1 r12.2 = some (r4.1, r12.2) ∧ fa P 84 (e 1) 1 r12.2 = some (r3.1, r12.2) ∧ ld P 3 r1.1 r12.2 = some (r2.1, r12.2) ∧ fa P 84 (e 1) 0 r12.2 = some (r1.1, r12.2) ∧ True) ∧
 (Ae (bd P 84 #[(0, r2.1), (1, r4.1), (5, r6.1), (2, r11.1), (3, r12.1)] r12.2) fun r13 => r13.2 = r12.2 ∧
 ((Ae (al P 84 r12.2) fun r14 => (bd P 84 #[(0, r2.1), (1, r4.1), (5, r6.1), (2, r11.1), (3, r12.1)] r14.2 = some (r13.1, r14.2) ∧ ld P 42 r9.1 r14.2 = some (r10.1, r14.2) ∧ fa P 84 (e 1) 3 r14.2 = some (r9.1, r14.2) ∧ ld P 81 r7.1 r14.2 = some (r8.1, r14.2) ∧ fa P 84 (e 1) 2 r14.2 = some (r7.1, r14.2) ∧ ld P 4 r5.1 r14.2 = some (r6.1, r14.2) ∧ fa P 84 (e 1) 5 r14.2 = some (r5.1, r14.2) ∧ ld P 3 r3.1 r14.2 = some (r4.1, r14.2) ∧ fa P 84 (e 1) 1 r14.2 = some (r3.1, r14.2) ∧ ld P 3 r1.1 r14.2 = some (r2.1, r14.2) ∧ fa P 84 (e 1) 0 r14.2 = some (r1.1, r14.2) ∧ True) ∧
 ((Ae (st P 84 r14.1 r13.1 r14.2) fun r15 => (True ∧ True ∧ True ∧ True ∧ True ∧ True ∧ True ∧ True ∧ True ∧ True ∧ True ∧ True) ∧
 Ae (Cm (AK e [(5, r1.1), (6, r2.1), (7, r3.1), (8, r4.1), (9, r5.1), (10, r6.1), (11, r7.1), (12, r8.1), (14, r9.1), (15, r10.1), (13, r11.1), (16, r12.1), (17, r13.1), (3, r14.1)]) r15.2) Q)))))) ∧
 (Ae (al P 84 r11.2) fun r16 => (ld P 42 r9.1 r16.2 = some (r10.1, r16.2) ∧ fa P 84 (e 1) 3 r16.2 = some (r9.1, r16.2) ∧ ld P 81 r7.1 r16.2 = some (r8.1, r16.2) ∧ fa P 84 (e 1) 2 r16.2 = some (r7.1, r16.2) ∧ ld P 4 r5.1 r16.2 = some (r6.1, r16.2) ∧ fa P 84 (e 1) 5 r16.2 = some (r5.1, r16.2) ∧ ld P 3 r3.1 r16.2 = some (r4.1, r16.2) ∧ fa P 84 (e 1) 1 r16.2 = some (r3.1, r16.2) ∧ ld P 3 r1.1 r16.2 = some (r2.1, r16.2) ∧ fa P 84 (e 1) 0 r16.2 = some (r1.1, r16.2) ∧ True) ∧
 ((Ae (EV P 112 #[r10.1] r16.2) fun r17 => (True ∧ True ∧ True ∧ True ∧ ld P 4 r5.1 r17.2 = some (r6.1, r17.2) ∧ fa P 84 (e 1) 5 r17.2 = some (r5.1, r17.2) ∧ ld P 3 r3.1 r17.2 = some (r4.1, r17.2) ∧ fa P 84 (e 1) 1 r17.2 = some (r3.1, r17.2) ∧ ld P 3 r1.1 r17.2 = some (r2.1, r17.2) ∧ fa P 84 (e 1) 0 r17.2 = some (r1.1, r17.2) ∧ True) ∧
 (Ae (bd P 84 #[(0, r2.1), (1, r4.1), (5, r6.1), (2, r11.1), (3, r17.1)] r17.2) fun r18 => r18.2 = r17.2 ∧
 ((Ae (st P 84 r16.1 r18.1 r17.2) fun r19 => (True ∧ True ∧ True ∧ True ∧ True ∧ True ∧ True ∧ True ∧ True ∧ True ∧ True ∧ True) ∧
 Ae (Cm (AK e [(5, r1.1), (6, r2.1), (7, r3.1), (8, r4.1), (9, r5.1), (10, r6.1), (11, r7.1), (12, r8.1), (14, r9.1), (15, r10.1), (13, r11.1), (3, r16.1), (16, r17.1), (17, r18.1)]) r19.2) Q)))))))) ∧
 (Ae (al P 84 (dw w)) fun r20 => (ld P 42 r9.1 r20.2 = some (r10.1, r20.2) ∧ fa P 84 (e 1) 3 r20.2 = some (r9.1, r20.2) ∧ ld P 81 r7.1 r20.2 = some (r8.1, r20.2) ∧ fa P 84 (e 1) 2 r20.2 = some (r7.1, r20.2) ∧ ld P 4 r5.1 r20.2 = some (r6.1, r20.2) ∧ fa P 84 (e 1) 5 r20.2 = some (r5.1, r20.2) ∧ ld P 3 r3.1 r20.2 = some (r4.1, r20.2) ∧ fa P 84 (e 1) 1 r20.2 = some (r3.1, r20.2) ∧ ld P 3 r1.1 r20.2 = some (r2.1, r20.2) ∧ fa P 84 (e 1) 0 r20.2 = some (r1.1, r20.2) ∧ True) ∧
 ((Ae (EV P 111 #[r8.1] r20.2) fun r21 => (ld P 42 r9.1 r21.2 = some (r10.1, r21.2) ∧ fa P 84 (e 1) 3 r21.2 = some (r9.1, r21.2) ∧ True ∧ True ∧ ld P 4 r5.1 r21.2 = some (r6.1, r21.2) ∧ fa P 84 (e 1) 5 r21.2 = some (r5.1, r21.2) ∧ ld P 3 r3.1 r21.2 = some (r4.1, r21.2) ∧ fa P 84 (e 1) 1 r21.2 = some (r3.1, r21.2) ∧ ld P 3 r1.1 r21.2 = some (r2.1, r21.2) ∧ fa P 84 (e 1) 0 r21.2 = some (r1.1, r21.2) ∧ True) ∧
 ((Ae (EV P 112 #[r10.1] r21.2) fun r22 => (True ∧ True ∧ True ∧ True ∧ ld P 4 r5.1 r22.2 = some (r6.1, r22.2) ∧ fa P 84 (e 1) 5 r22.2 = some (r5.1, r22.2) ∧ ld P 3 r3.1 r22.2 = some (r4.1, r22.2) ∧ fa P 84 (e 1) 1 r22.2 = some (r3.1, r22.2) ∧ ld P 3 r1.1 r22.2 = some (r2.1, r22.2) ∧ fa P 84 (e 1) 0 r22.2 = some (r1.1, r22.2) ∧ True) ∧
 (Ae (bd P 84 #[(0, r2.1), (1, r4.1), (5, r6.1), (2, r21.1), (3, r22.1)] r22.2) fun r23 => r23.2 = r22.2 ∧
 ((Ae (st P 84 r20.1 r23.1 r22.2) fun r24 => (True ∧ True ∧ True ∧ True ∧ True ∧ True ∧ True ∧ True ∧ True ∧ True ∧ True ∧ True) ∧
 Ae (Cm (AK e [(5, r1.1), (6, r2.1), (7, r3.1), (8, r4.1), (9, r5.1), (10, r6.1), (11, r7.1), (12, r8.1), (14, r9.1), (15, r10.1), (3, r20.1), (13, r21.1), (16, r22.1), (17, r23.1)]) r24.2) Q)))))))))))))))))))) : Ae (GV e w) Q := Et (id := 1) (ops := opsOf (cA (cB (Af P 97)))) (by kernel_rfl) (by kernel_rfl) (Eq.mpr (by kernel_rfl) h)
theorem IL (e : Env) (w : World) : Cm e w =
 (vl (.int .i64 0) w).bind fun r1 =>
 Di (AK e [(4, r1.1)]) r1.2 := by kernel_rfl
theorem Fu (e : Env) (w : World) : Di e w =
 (vl (e 4) w).bind fun r1 =>
 (fa P 84 (e 1) 4 r1.2).bind fun r2 =>
 (ld P 82 r2.1 r2.2).bind fun r3 =>
 (Ax P #[82] 3 #[r3.1] r3.2).bind fun r4 =>
 (bo P .lss 3 (.tmp 18) (.tmp 21) r1.1 r4.1 r4.2).bind fun r5 =>
 AR r5.1 (
 (fa P 84 (e 3) 4 (dw r5.2)).bind fun r7 =>
 Ah (r7.2 = (dw r5.2)) <|
 (ld P 82 r7.1 (dw r5.2)).bind fun r8 =>
 Ah (r8.2 = (dw r5.2)) <|
 (fa P 84 (e 1) 4 (dw r5.2)).bind fun r9 =>
 Ah (r9.2 = (dw r5.2)) <|
 (ld P 82 r9.1 (dw r5.2)).bind fun r10 =>
 Ah (r10.2 = (dw r5.2)) <|
 (vl (e 4) (dw r5.2)).bind fun r11 =>
 Ah (r11.2 = (dw r5.2)) <|
 (ia P 82 r10.1 r11.1 (dw r5.2)).bind fun r12 =>
 Ah (r12.2 = (dw r5.2)) <|
 (ld P 42 r12.1 (dw r5.2)).bind fun r13 =>
 Ah (r13.2 = (dw r5.2)) <|
 (EV P 112 #[r13.1] (dw r5.2)).bind fun r14 =>
 Ah (True ∧ True ∧ True ∧ True ∧ ld P 82 r7.1 r14.2 = some (r8.1, r14.2) ∧ fa P 84 (e 3) 4 r14.2 = some (r7.1, r14.2) ∧ True) <|
 (bs P 82 1 #[(0, r14.1)] r14.2).bind fun r15 =>
 Ah (True ∧ True ∧ True ∧ True ∧ ld P 82 r7.1 r15.2 = some (r8.1, r15.2) ∧ fa P 84 (e 3) 4 r15.2 = some (r7.1, r15.2) ∧ True) <|
 (Au P #[82, 82] 82 #[r8.1, r15.1] r15.2).bind fun r16 =>
 Ah (True ∧ True ∧ True ∧ True ∧ True ∧ True ∧ True) <|
 (fa P 84 (e 3) 4 r16.2).bind fun r17 =>
 Ah (r17.2 = r16.2) <|
 (st P 82 r17.1 r16.1 r16.2).bind fun r18 =>
 Ah (True ∧ True ∧ True ∧ True ∧ True ∧ True ∧ True ∧ True) <|
 (vl (e 4) r18.2).bind fun r19 =>
 (bo P .add 3 (.tmp 23) (.const (.int .i64 1)) r19.1 (.int .i64 1) r19.2).bind fun r20 =>
 (vl r20.1 r20.2).bind fun r21 =>
 Di (AK e [(18, r1.1), (19, r2.1), (20, r3.1), (21, r4.1), (22, r5.1), (25, r7.1), (26, r8.1), (27, r9.1), (28, r10.1), (29, r11.1), (30, r12.1), (31, r13.1), (32, r14.1), (33, r15.1), (34, r16.1), (35, r17.1), (23, r19.1), (24, r20.1), (4, r21.1)]) r21.2) (
 (ld P 84 (e 3) r5.2).bind fun r22 =>
 (st P 84 (e 2) r22.1 r22.2).bind fun r23 =>
 ((ld P 84 (e 2) r23.2).bind fun r24 => Ah (r24.2 = r23.2) (some r24.1)).bind fun v25 =>
 some (v25, r23.2)) := (AA P (EV P) 97 37 (cA (cA (cB (cA (cB (cB (Af P 97))))))) e w (Al 0 (Ay P (EV P) 97 37 (cB (cB (cB (Af P 97)))) (Bf P (AB P 97))))).trans (by kernel_rfl)
theorem Ld (x0 : Value) (w : World) : Br P (EV P) 97 #[x0] w =
 (bx P 84 x0 w).bind fun r1 =>
 (al P 84 r1.2).bind fun r2 =>
 GV (AK (AN #[x0]) [(1, r1.1), (2, r2.1)]) r2.2 := by kernel_rfl
theorem Le (x0 : Value) (w : World) : Br P (EV P) 98 #[x0] w =
 (bx P 49 x0 w).bind fun r1 =>
 (al P 49 r1.2).bind fun r2 =>
 (bs P 30 0 #[] r2.2).bind fun r3 =>
 (fa P 49 r1.1 2 r3.2).bind fun r4 =>
 (fa P 32 r4.1 0 r4.2).bind fun r5 =>
 (ld P 30 r5.1 r5.2).bind fun r6 =>
 (Au P #[30, 30] 30 #[r3.1, r6.1] r6.2).bind fun r7 =>
 (bd P 32 #[(0, r7.1)] r7.2).bind fun r8 =>
 (fa P 49 r1.1 2 r8.2).bind fun r9 =>
 (st P 32 r9.1 r8.1 r9.2).bind fun r10 =>
 (ld P 49 r1.1 r10.2).bind fun r11 =>
 (st P 49 r2.1 r11.1 r11.2).bind fun r12 =>
 ((ld P 49 r2.1 r12.2).bind fun r13 => Ah (r13.2 = r12.2) (some r13.1)).bind fun v14 =>
 some (v14, r12.2) := by kernel_rfl
noncomputable def DR (e : Env) (w : World) : Option (Value × World) := Bt P (EV P) 99 36 (.loop (cA (cA (cB (cA (cB (cB (Af P 99)))))))) e w (Al 0 (Ay P (EV P) 99 36 (cB (cB (cB (Af P 99)))) (Bf P (AB P 99))))
noncomputable def DS (e : Env) (w : World) : Option (Value × World) := Bt P (EV P) 99 36 (.loop (cA (cA (cB (cA (cB (cB (cB (Af P 99))))))))) e w (Al 2 (Ay P (EV P) 99 36 (cB (cB (cB (cB (Af P 99))))) (Bf P (AB P 99))))
theorem FX (e : Env) (w : World) : DR e w =
 (vl (e 6) w).bind fun r1 =>
 (bo P .lss 3 (.tmp 9) (.const (.int .i64 3)) r1.1 (.int .i64 3) r1.2).bind fun r2 =>
 AR r2.1 (
 (fa P 77 (e 5) 0 (dw r2.2)).bind fun r4 =>
 Ah (r4.2 = (dw r2.2)) <|
 (ld P 73 r4.1 (dw r2.2)).bind fun r5 =>
 Ah (r5.2 = (dw r2.2)) <|
 (vl (e 6) (dw r2.2)).bind fun r6 =>
 Ah (r6.2 = (dw r2.2)) <|
 (vl (e 0) (dw r2.2)).bind fun r7 =>
 Ah (r7.2 = (dw r2.2)) <|
 (EV P 113 #[r6.1, r7.1] (dw r2.2)).bind fun r8 =>
 Ah (ld P 73 r4.1 r8.2 = some (r5.1, r8.2) ∧ fa P 77 (e 5) 0 r8.2 = some (r4.1, r8.2) ∧ True) <|
 (bs P 73 1 #[(0, r8.1)] r8.2).bind fun r9 =>
 Ah (ld P 73 r4.1 r9.2 = some (r5.1, r9.2) ∧ fa P 77 (e 5) 0 r9.2 = some (r4.1, r9.2) ∧ True) <|
 (Au P #[73, 73] 73 #[r5.1, r9.1] r9.2).bind fun r10 =>
 Ah (True ∧ True ∧ True) <|
 (fa P 77 (e 5) 0 r10.2).bind fun r11 =>
 Ah (r11.2 = r10.2) <|
 (st P 73 r11.1 r10.1 r10.2).bind fun r12 =>
 Ah (True ∧ True ∧ True ∧ True) <|
 (vl (e 6) r12.2).bind fun r13 =>
 (bo P .add 3 (.tmp 11) (.const (.int .i64 1)) r13.1 (.int .i64 1) r13.2).bind fun r14 =>
 (vl r14.1 r14.2).bind fun r15 =>
 DR (AK e [(9, r1.1), (10, r2.1), (13, r4.1), (14, r5.1), (15, r6.1), (16, r7.1), (17, r8.1), (18, r9.1), (19, r10.1), (20, r11.1), (11, r13.1), (12, r14.1), (6, r15.1)]) r15.2) (
 (vl (.int .i64 0) r2.2).bind fun r16 =>
 DS (AK e [(9, r1.1), (10, r2.1), (7, r16.1)]) r16.2) := (AA P (EV P) 99 36 (cA (cA (cB (cA (cB (cB (Af P 99))))))) e w (Al 0 (Ay P (EV P) 99 36 (cB (cB (cB (Af P 99)))) (Bf P (AB P 99))))).trans (by kernel_rfl)
theorem FY (e : Env) (w : World) : DS e w =
 (vl (e 7) w).bind fun r1 =>
 (vl (e 1) r1.2).bind fun r2 =>
 (bo P .lss 3 (.tmp 21) (.tmp 22) r1.1 r2.1 r2.2).bind fun r3 =>
 AR r3.1 (
 (fa P 77 (e 5) 1 (dw r3.2)).bind fun r5 =>
 Ah (r5.2 = (dw r3.2)) <|
 (ld P 74 r5.1 (dw r3.2)).bind fun r6 =>
 Ah (r6.2 = (dw r3.2)) <|
 (vl (e 7) (dw r3.2)).bind fun r7 =>
 Ah (r7.2 = (dw r3.2)) <|
 (bo P .rem 3 (.tmp 28) (.const (.int .i64 3)) r7.1 (.int .i64 3) (dw r3.2)).bind fun r8 =>
 Ah (r8.2 = (dw r3.2)) <|
 (EV P 38 #[] (dw r3.2)).bind fun r9 =>
 Ah (bo P .rem 3 (.tmp 28) (.const (.int .i64 3)) r7.1 (.int .i64 3) r9.2 = some (r8.1, r9.2) ∧ ld P 74 r5.1 r9.2 = some (r6.1, r9.2) ∧ fa P 77 (e 5) 1 r9.2 = some (r5.1, r9.2) ∧ True) <|
 (bd P 129 #[(0, r8.1), (1, r9.1)] r9.2).bind fun r10 =>
 Ah (r10.2 = r9.2) <|
 (bs P 74 1 #[(0, r10.1)] r9.2).bind fun r11 =>
 Ah (True ∧ True ∧ ld P 74 r5.1 r11.2 = some (r6.1, r11.2) ∧ fa P 77 (e 5) 1 r11.2 = some (r5.1, r11.2) ∧ True) <|
 (Au P #[74, 74] 74 #[r6.1, r11.1] r11.2).bind fun r12 =>
 Ah (True ∧ True ∧ True ∧ True ∧ True) <|
 (fa P 77 (e 5) 1 r12.2).bind fun r13 =>
 Ah (r13.2 = r12.2) <|
 (st P 74 r13.1 r12.1 r12.2).bind fun r14 =>
 Ah (True ∧ True ∧ True ∧ True ∧ True ∧ True) <|
 (vl (e 7) r14.2).bind fun r15 =>
 (bo P .add 3 (.tmp 24) (.const (.int .i64 1)) r15.1 (.int .i64 1) r15.2).bind fun r16 =>
 (vl r16.1 r16.2).bind fun r17 =>
 DS (AK e [(21, r1.1), (22, r2.1), (23, r3.1), (26, r5.1), (27, r6.1), (28, r7.1), (29, r8.1), (30, r9.1), (31, r10.1), (32, r11.1), (33, r12.1), (34, r13.1), (24, r15.1), (25, r16.1), (7, r17.1)]) r17.2) (
 (ld P 77 (e 5) r3.2).bind fun r18 =>
 (st P 77 (e 4) r18.1 r18.2).bind fun r19 =>
 ((ld P 77 (e 4) r19.2).bind fun r20 => Ah (r20.2 = r19.2) (some r20.1)).bind fun v21 =>
 some (v21, r19.2)) := (AA P (EV P) 99 36 (cA (cA (cB (cA (cB (cB (cB (Af P 99)))))))) e w (Al 2 (Ay P (EV P) 99 36 (cB (cB (cB (cB (Af P 99))))) (Bf P (AB P 99))))).trans (by kernel_rfl)
theorem MN (x0 x1 : Value) (w : World) : Br P (EV P) 99 #[x0, x1] w =
 (al P 77 w).bind fun r1 =>
 (bd P 77 #[] r1.2).bind fun r2 =>
 (al P 77 r2.2).bind fun r3 =>
 (st P 77 r3.1 r2.1 r3.2).bind fun r4 =>
 (vl (.int .i64 0) r4.2).bind fun r5 =>
 DR (AK (AN #[x0, x1]) [(4, r1.1), (8, r2.1), (5, r3.1), (6, r5.1)]) r5.2 := by kernel_rfl
theorem Of (x0 x1 : Value) (w : World) : Br P (EV P) 100 #[x0, x1] w =
 (bx P 77 x0 w).bind fun r1 =>
 (bx P 137 x1 r1.2).bind fun r2 =>
 (al P 77 r2.2).bind fun r3 =>
 (vl (.bool false) r3.2).bind fun r4 =>
 (fa P 137 r2.1 0 r4.2).bind fun r5 =>
 (ld P 3 r5.1 r5.2).bind fun r6 =>
 (EV P 37 #[r6.1, (.int .i64 1), (.int .i64 5)] r6.2).bind fun r7 =>
 (vl r7.1 r7.2).bind fun r8 =>
 AR r8.1 (
 (ld P 77 r1.1 r8.2).bind fun r9 =>
 (ld P 137 r2.1 r9.2).bind fun r10 =>
 (EV P 114 #[r9.1, r10.1] r10.2).bind fun r11 =>
 (xt P r11.1 0 r11.2).bind fun r12 =>
 (xt P r11.1 1 r12.2).bind fun r13 =>
 (st P 77 r3.1 r12.1 r13.2).bind fun r14 =>
 (vl r13.1 r14.2).bind fun r15 =>
 ((ld P 77 r3.1 r15.2).bind fun r16 => Ah (r16.2 = r15.2) (some r16.1)).bind fun v17 =>
 some (.tuple #[v17, r15.1], r15.2)) (
 (fa P 137 r2.1 0 r8.2).bind fun r18 =>
 (ld P 3 r18.1 r18.2).bind fun r19 =>
 (EV P 37 #[r19.1, (.int .i64 6), (.int .i64 9)] r19.2).bind fun r20 =>
 (vl r20.1 r20.2).bind fun r21 =>
 AR r21.1 (
 (ld P 77 r1.1 r21.2).bind fun r22 =>
 (ld P 137 r2.1 r22.2).bind fun r23 =>
 (EV P 115 #[r22.1, r23.1] r23.2).bind fun r24 =>
 (xt P r24.1 0 r24.2).bind fun r25 =>
 (xt P r24.1 1 r25.2).bind fun r26 =>
 (st P 77 r3.1 r25.1 r26.2).bind fun r27 =>
 (vl r26.1 r27.2).bind fun r28 =>
 ((ld P 77 r3.1 r28.2).bind fun r29 => Ah (r29.2 = r28.2) (some r29.1)).bind fun v30 =>
 some (.tuple #[v30, r28.1], r28.2)) (
 (fa P 137 r2.1 0 r21.2).bind fun r31 =>
 (ld P 3 r31.1 r31.2).bind fun r32 =>
 (EV P 37 #[r32.1, (.int .i64 10), (.int .i64 13)] r32.2).bind fun r33 =>
 (vl r33.1 r33.2).bind fun r34 =>
 AR r34.1 (
 (ld P 77 r1.1 r34.2).bind fun r35 =>
 (ld P 137 r2.1 r35.2).bind fun r36 =>
 (EV P 116 #[r35.1, r36.1] r36.2).bind fun r37 =>
 (xt P r37.1 0 r37.2).bind fun r38 =>
 (xt P r37.1 1 r38.2).bind fun r39 =>
 (st P 77 r3.1 r38.1 r39.2).bind fun r40 =>
 (vl r39.1 r40.2).bind fun r41 =>
 ((ld P 77 r3.1 r41.2).bind fun r42 => Ah (r42.2 = r41.2) (some r42.1)).bind fun v43 =>
 some (.tuple #[v43, r41.1], r41.2)) (
 (ld P 77 r1.1 r34.2).bind fun r44 =>
 (st P 77 r3.1 r44.1 r44.2).bind fun r45 =>
 (vl (.bool false) r45.2).bind fun r46 =>
 ((ld P 77 r3.1 r46.2).bind fun r47 => Ah (r47.2 = r46.2) (some r47.1)).bind fun v48 =>
 some (.tuple #[v48, r46.1], r46.2)))) := by kernel_rfl
theorem MO (w : World) : Br P (EV P) 101 #[] w =
 (al P 44 w).bind fun r1 =>
 (ms P 42 (.int .i64 4) (.int .i64 4) r1.2).bind fun r2 =>
 (bd P 44 #[(0, r2.1)] r2.2).bind fun r3 =>
 (st P 44 r1.1 r3.1 r3.2).bind fun r4 =>
 ((ld P 44 r1.1 r4.2).bind fun r5 => Ah (r5.2 = r4.2) (some r5.1)).bind fun v6 =>
 some (v6, r4.2) := by kernel_rfl
noncomputable def FN (e : Env) (w : World) : Option (Value × World) := Bt P (EV P) 102 23 (cB (cB (Af P 102))) e w (Bf P (AB P 102))
theorem FZ (e : Env) (w : World) : FN e w =
 (ld P 44 (e 2) w).bind fun r1 =>
 (st P 44 (e 4) r1.1 r1.2).bind fun r2 =>
 ((ld P 44 (e 4) r2.2).bind fun r3 => Ah (r3.2 = r2.2) (some r3.1)).bind fun v4 =>
 some (v4, r2.2) := by kernel_rfl
theorem MP (x0 x1 : Value) (w : World) : Br P (EV P) 102 #[x0, x1] w =
 (bx P 44 x0 w).bind fun r1 =>
 (bx P 49 x1 r1.2).bind fun r2 =>
 (al P 44 r2.2).bind fun r3 =>
 (fa P 44 r1.1 0 (dw r3.2)).bind fun r5 =>
 Ah (r5.2 = (dw r3.2)) <|
 (ld P 42 r5.1 (dw r3.2)).bind fun r6 =>
 Ah (r6.2 = (dw r3.2)) <|
 (fa P 49 r2.1 0 (dw r3.2)).bind fun r7 =>
 Ah (r7.2 = (dw r3.2)) <|
 (ld P 3 r7.1 (dw r3.2)).bind fun r8 =>
 Ah (r8.2 = (dw r3.2)) <|
 (ia P 42 r6.1 r8.1 (dw r3.2)).bind fun r9 =>
 Ah (r9.2 = (dw r3.2)) <|
 (fa P 49 r9.1 1 (dw r3.2)).bind fun r10 =>
 Ah (r10.2 = (dw r3.2)) <|
 (ld P 36 r10.1 (dw r3.2)).bind fun r11 =>
 Ah (r11.2 = (dw r3.2)) <|
 (fa P 49 r2.1 1 (dw r3.2)).bind fun r12 =>
 Ah (r12.2 = (dw r3.2)) <|
 (ld P 36 r12.1 (dw r3.2)).bind fun r13 =>
 Ah (r13.2 = (dw r3.2)) <|
 (EV P 63 #[r11.1, r13.1] (dw r3.2)).bind fun r14 =>
 Ah (True ∧ True ∧ True ∧ True ∧ True ∧ True ∧ True ∧ True ∧ True ∧ True) <|
 AR r14.1 (
 (fa P 44 r1.1 0 (dw r14.2)).bind fun r16 =>
 Ah (r16.2 = (dw r14.2)) <|
 (ld P 42 r16.1 (dw r14.2)).bind fun r17 =>
 Ah (r17.2 = (dw r14.2)) <|
 (fa P 49 r2.1 0 (dw r14.2)).bind fun r18 =>
 Ah (r18.2 = (dw r14.2)) <|
 (ld P 3 r18.1 (dw r14.2)).bind fun r19 =>
 Ah (r19.2 = (dw r14.2)) <|
 (ld P 49 r2.1 (dw r14.2)).bind fun r20 =>
 Ah (r20.2 = (dw r14.2)) <|
 (EV P 98 #[r20.1] (dw r14.2)).bind fun r21 =>
 Ah (True ∧ ld P 3 r18.1 r21.2 = some (r19.1, r21.2) ∧ fa P 49 r2.1 0 r21.2 = some (r18.1, r21.2) ∧ ld P 42 r16.1 r21.2 = some (r17.1, r21.2) ∧ fa P 44 r1.1 0 r21.2 = some (r16.1, r21.2) ∧ True) <|
 (ia P 42 r17.1 r19.1 r21.2).bind fun r22 =>
 Ah (r22.2 = r21.2) <|
 (st P 49 r22.1 r21.1 r21.2).bind fun r23 =>
 Ah (True ∧ True ∧ True ∧ True ∧ True ∧ True ∧ True) <|
 FN (AK (AN #[x0, x1]) [(2, r1.1), (3, r2.1), (4, r3.1), (5, r5.1), (6, r6.1), (7, r7.1), (8, r8.1), (9, r9.1), (10, r10.1), (11, r11.1), (12, r12.1), (13, r13.1), (14, r14.1), (15, r16.1), (16, r17.1), (17, r18.1), (18, r19.1), (19, r20.1), (20, r21.1), (21, r22.1)]) r23.2) (
 FN (AK (AN #[x0, x1]) [(2, r1.1), (3, r2.1), (4, r3.1), (5, r5.1), (6, r6.1), (7, r7.1), (8, r8.1), (9, r9.1), (10, r10.1), (11, r11.1), (12, r12.1), (13, r13.1), (14, r14.1)]) r14.2) := by kernel_rfl
end Go.Proofs.YtjhhommnkaemlaaGreat.X
