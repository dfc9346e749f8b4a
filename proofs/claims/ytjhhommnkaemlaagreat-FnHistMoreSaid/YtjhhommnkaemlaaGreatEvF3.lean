/- A part of the proof, without conditions. -/
import Derived.Test.YtjhhommnkaemlaaGreatEvT
set_option linter.unusedVariables false
set_option linter.unusedSimpArgs false
set_option linter.deprecated false
set_option maxRecDepth 100000
namespace Go.Proofs.YtjhhommnkaemlaaGreat.X
open Go Go.Ev
theorem Jn (x0 x1 : Value) (w : World) : Br P (EV P) 104 #[x0, x1] w =
 (vl (Go.Value.string { data := #[] }) w).bind fun r1 =>
 (vl x1 r1.2).bind fun r2 =>
 (vl x0 r2.2).bind fun r3 =>
 (vl x1 r3.2).bind fun r4 =>
 (Ax P #[140] 3 #[r4.1] r4.2).bind fun r5 =>
 (EV P 42 #[r3.1, r5.1] r5.2).bind fun r6 =>
 (ia P 140 r2.1 r6.1 r6.2).bind fun r7 =>
 (ld P 9 r7.1 r7.2).bind fun r8 =>
 (vl r8.1 r8.2).bind fun r9 =>
 some (r9.1, r9.2) := by kernel_rfl
noncomputable def Cq (e : Env) (w : World) : Option (Value × World) := Bt P (EV P) 107 23 (.loop (cA (cA (cB (cA (cB (Af P 107))))))) e w (Al 0 (Ay P (EV P) 107 23 (cB (cB (Af P 107))) (Bf P (AB P 107))))
theorem Ej (e : Env) (w : World) : Cq e w =
 (vl (e 3) w).bind fun r1 =>
 (vl (e 0) r1.2).bind fun r2 =>
 (Ax P #[9] 3 #[r2.1] r2.2).bind fun r3 =>
 (bo P .lss 3 (.tmp 4) (.tmp 6) r1.1 r3.1 r3.2).bind fun r4 =>
 AR r4.1 (
 (vl (e 0) r4.2).bind fun r5 =>
 (vl (e 3) r5.2).bind fun r6 =>
 (ix P 9 r5.1 r6.1 r6.2).bind fun r7 =>
 (bo P .lss 5 (.tmp 12) (.const (.int .u8 33)) r7.1 (.int .u8 33) r7.2).bind fun r8 =>
 (vl r8.1 r8.2).bind fun r9 =>
 (Ao r9.1 false (vl (e 0) r9.2) r9.2).bind fun r10 =>
 (Ao r9.1 false (vl (e 3) r10.2) r10.2).bind fun r11 =>
 (Ao r9.1 false (ix P 9 r10.1 r11.1 r11.2) r11.2).bind fun r12 =>
 (Ao r9.1 false (bo P .gtr 5 (.tmp 17) (.const (.int .u8 126)) r12.1 (.int .u8 126) r12.2) r12.2).bind fun r13 =>
 (Az r9.1 (.bool true) r13.1 r13.2).bind fun r14 =>
 AR r14.1 (
 (vl (.bool false) r14.2).bind fun r15 =>
 some (r15.1, r15.2)) (
 (vl (e 3) r14.2).bind fun r16 =>
 (bo P .add 3 (.tmp 8) (.const (.int .i64 1)) r16.1 (.int .i64 1) r16.2).bind fun r17 =>
 (vl r17.1 r17.2).bind fun r18 =>
 Cq (AK e [(4, r1.1), (5, r2.1), (6, r3.1), (7, r4.1), (10, r5.1), (11, r6.1), (12, r7.1), (13, r8.1), (14, r9.1), (15, r10.1), (16, r11.1), (17, r12.1), (18, r13.1), (19, r14.1), (8, r16.1), (9, r17.1), (3, r18.1)]) r18.2)) (
 (vl (e 0) r4.2).bind fun r19 =>
 (Ax P #[9] 3 #[r19.1] r19.2).bind fun r20 =>
 (bo P .leq 3 (.tmp 21) (.const (.int .i64 8)) r20.1 (.int .i64 8) r20.2).bind fun r21 =>
 (vl r21.1 r21.2).bind fun r22 =>
 some (r22.1, r22.2)) := (AA P (EV P) 107 23 (cA (cA (cB (cA (cB (Af P 107)))))) e w (Al 0 (Ay P (EV P) 107 23 (cB (cB (Af P 107))) (Bf P (AB P 107))))).trans (by kernel_rfl)
theorem Jo (x0 : Value) (w : World) : Br P (EV P) 107 #[x0] w =
 (vl (.bool false) w).bind fun r1 =>
 (vl (.int .i64 0) r1.2).bind fun r2 =>
 Cq (AK (AN #[x0]) [(2, r1.1), (3, r2.1)]) r2.2 := by kernel_rfl
theorem KM (x0 x1 : Value) (w : World) : Br P (EV P) 109 #[x0, x1] w =
 (bx P 36 x0 w).bind fun r1 =>
 (bx P 36 x1 r1.2).bind fun r2 =>
 (al P 36 r2.2).bind fun r3 =>
 (ld P 36 r1.1 r3.2).bind fun r4 =>
 (ld P 36 r2.1 r4.2).bind fun r5 =>
 (EV P 18 #[r4.1, r5.1] r5.2).bind fun r6 =>
 AR r6.1 (
 (ld P 36 r2.1 r6.2).bind fun r7 =>
 (st P 36 r3.1 r7.1 r7.2).bind fun r8 =>
 ((ld P 36 r3.1 r8.2).bind fun r9 => Ah (r9.2 = r8.2) (some r9.1)).bind fun v10 =>
 some (v10, r8.2)) (
 (ld P 36 r1.1 r6.2).bind fun r11 =>
 (st P 36 r3.1 r11.1 r11.2).bind fun r12 =>
 ((ld P 36 r3.1 r12.2).bind fun r13 => Ah (r13.2 = r12.2) (some r13.1)).bind fun v14 =>
 some (v14, r12.2)) := by kernel_rfl
noncomputable def Bz (e : Env) (w : World) : Option (Value × World) := Bt P (EV P) 110 106 (cB (cA (cB (cA (cB (cB (Af P 110))))))) e w (Al 0 (Ay P (EV P) 110 106 (cB (cB (cB (Af P 110)))) (Bf P (AB P 110))))
noncomputable def BM (e : Env) (w : World) : Option (Value × World) := Bt P (EV P) 110 106 (cB (cB (cB (cB (cB (cA (cB (cA (cB (cB (Af P 110))))))))))) e w (Al 0 (Ay P (EV P) 110 106 (cB (cB (cB (Af P 110)))) (Bf P (AB P 110))))
noncomputable def BN (e : Env) (w : World) : Option (Value × World) := Bt P (EV P) 110 106 (cB (cB (cB (cB (cB (cB (cB (cA (cB (cA (cB (cB (Af P 110))))))))))))) e w (Al 0 (Ay P (EV P) 110 106 (cB (cB (cB (Af P 110)))) (Bf P (AB P 110))))
noncomputable def BO (e : Env) (w : World) : Option (Value × World) := Bt P (EV P) 110 106 (cB (cB (cB (cB (cB (cB (cB (cB (cB (cB (cB (cA (cB (cA (cB (cB (Af P 110))))))))))))))))) e w (Al 0 (Ay P (EV P) 110 106 (cB (cB (cB (Af P 110)))) (Bf P (AB P 110))))
noncomputable def Cr (e : Env) (w : World) : Option (Value × World) := Bt P (EV P) 110 106 (cB (cB (cB (cB (cB (cB (cB (cB (cB (cB (cB (cB (cB (cB (cB (cA (cB (cA (cB (cB (Af P 110))))))))))))))))))))) e w (Al 0 (Ay P (EV P) 110 106 (cB (cB (cB (Af P 110)))) (Bf P (AB P 110))))
noncomputable def Cs (e : Env) (w : World) : Option (Value × World) := Bt P (EV P) 110 106 (cB (cB (cB (cB (cB (cB (cB (cB (cB (cB (cB (cB (cB (cB (cB (cB (cB (cA (cB (cA (cB (cB (Af P 110))))))))))))))))))))))) e w (Al 0 (Ay P (EV P) 110 106 (cB (cB (cB (Af P 110)))) (Bf P (AB P 110))))
theorem Hq (e : Env) (w : World) : Bz e w =
 AR (e 11) (
 (vl (e 0) w).bind fun r1 =>
 (EV P 42 #[r1.1, (.int .i64 4)] r1.2).bind fun r2 =>
 (vl (e 0) r2.2).bind fun r3 =>
 (EV P 42 #[r3.1, (.int .i64 4)] r3.2).bind fun r4 =>
 (vl (e 0) r4.2).bind fun r5 =>
 (EV P 117 #[r5.1] r5.2).bind fun r6 =>
 (bd P 137 #[(0, (.int .i64 1)), (1, r2.1), (3, r4.1), (4, r6.1)] r6.2).bind fun r7 =>
 (st P 137 (e 4) r7.1 r7.2).bind fun r8 =>
 ((ld P 137 (e 4) r8.2).bind fun r9 => Ah (r9.2 = r8.2) (some r9.1)).bind fun v10 =>
 some (v10, r8.2)) (
 (bo P .eql 3 (.tmp 10) (.const (.int .i64 3)) (e 10) (.int .i64 3) w).bind fun r11 =>
 (vl r11.1 r11.2).bind fun r12 =>
 AR r12.1 (
 (vl (e 0) r12.2).bind fun r13 =>
 (EV P 42 #[r13.1, (.int .i64 4)] r13.2).bind fun r14 =>
 (vl (e 0) r14.2).bind fun r15 =>
 (EV P 42 #[r15.1, (.int .i64 4)] r15.2).bind fun r16 =>
 (bd P 137 #[(0, (.int .i64 1)), (1, r14.1), (3, r16.1), (5, (.bool true))] r16.2).bind fun r17 =>
 (st P 137 (e 4) r17.1 r17.2).bind fun r18 =>
 ((ld P 137 (e 4) r18.2).bind fun r19 => Ah (r19.2 = r18.2) (some r19.1)).bind fun v20 =>
 some (v20, r18.2)) (
 (bo P .eql 3 (.tmp 10) (.const (.int .i64 4)) (e 10) (.int .i64 4) r12.2).bind fun r21 =>
 (vl r21.1 r21.2).bind fun r22 =>
 AR r22.1 (
 BM (AK e [(23, r11.1), (22, r12.1), (30, r21.1), (29, r22.1)]) r22.2) (
 (bo P .eql 3 (.tmp 10) (.const (.int .i64 5)) (e 10) (.int .i64 5) r22.2).bind fun r23 =>
 (vl r23.1 r23.2).bind fun r24 =>
 AR r24.1 (
 BM (AK e [(23, r11.1), (22, r12.1), (30, r21.1), (29, r22.1), (31, r23.1), (29, r24.1)]) r24.2) (
 (bo P .eql 3 (.tmp 10) (.const (.int .i64 6)) (e 10) (.int .i64 6) r24.2).bind fun r25 =>
 (vl r25.1 r25.2).bind fun r26 =>
 BM (AK e [(23, r11.1), (22, r12.1), (30, r21.1), (29, r22.1), (31, r23.1), (29, r24.1), (32, r25.1), (29, r26.1)]) r26.2)))) := by kernel_rfl
theorem Hr (e : Env) (w : World) : BM e w =
 AR (e 29) (
 (vl (e 0) w).bind fun r1 =>
 (EV P 42 #[r1.1, (.int .i64 4)] r1.2).bind fun r2 =>
 (bd P 137 #[(0, (.int .i64 2)), (1, r2.1)] r2.2).bind fun r3 =>
 (st P 137 (e 4) r3.1 r3.2).bind fun r4 =>
 ((ld P 137 (e 4) r4.2).bind fun r5 => Ah (r5.2 = r4.2) (some r5.1)).bind fun v6 =>
 some (v6, r4.2)) (
 (bo P .eql 3 (.tmp 10) (.const (.int .i64 7)) (e 10) (.int .i64 7) w).bind fun r7 =>
 (vl r7.1 r7.2).bind fun r8 =>
 AR r8.1 (
 BN (AK e [(37, r7.1), (36, r8.1)]) r8.2) (
 (bo P .eql 3 (.tmp 10) (.const (.int .i64 8)) (e 10) (.int .i64 8) r8.2).bind fun r9 =>
 (vl r9.1 r9.2).bind fun r10 =>
 AR r10.1 (
 BN (AK e [(37, r7.1), (36, r8.1), (38, r9.1), (36, r10.1)]) r10.2) (
 (bo P .eql 3 (.tmp 10) (.const (.int .i64 9)) (e 10) (.int .i64 9) r10.2).bind fun r11 =>
 (vl r11.1 r11.2).bind fun r12 =>
 BN (AK e [(37, r7.1), (36, r8.1), (38, r9.1), (36, r10.1), (39, r11.1), (36, r12.1)]) r12.2))) := by kernel_rfl
theorem Hs (e : Env) (w : World) : BN e w =
 AR (e 36) (
 (vl (e 0) w).bind fun r1 =>
 (EV P 42 #[r1.1, (.int .i64 4)] r1.2).bind fun r2 =>
 (vl (e 0) r2.2).bind fun r3 =>
 (EV P 42 #[r3.1, (.int .i64 4)] r3.2).bind fun r4 =>
 (vl (e 0) r4.2).bind fun r5 =>
 (EV P 42 #[r5.1, (.int .i64 4)] r5.2).bind fun r6 =>
 (bd P 137 #[(0, (.int .i64 3)), (1, r2.1), (2, r4.1), (3, r6.1)] r6.2).bind fun r7 =>
 (st P 137 (e 4) r7.1 r7.2).bind fun r8 =>
 ((ld P 137 (e 4) r8.2).bind fun r9 => Ah (r9.2 = r8.2) (some r9.1)).bind fun v10 =>
 some (v10, r8.2)) (
 (bo P .eql 3 (.tmp 10) (.const (.int .i64 10)) (e 10) (.int .i64 10) w).bind fun r11 =>
 (vl r11.1 r11.2).bind fun r12 =>
 AR r12.1 (
 (vl (e 0) r12.2).bind fun r13 =>
 (bs P 64 2 #[(0, (.int .i64 4)), (1, (.int .i64 5))] r13.2).bind fun r14 =>
 (EV P 34 #[r13.1, r14.1] r14.2).bind fun r15 =>
 (vl (e 0) r15.2).bind fun r16 =>
 (EV P 42 #[r16.1, (.int .i64 4)] r16.2).bind fun r17 =>
 (vl (e 0) r17.2).bind fun r18 =>
 (EV P 42 #[r18.1, (.int .i64 3)] r18.2).bind fun r19 =>
 (bd P 137 #[(0, r15.1), (1, r17.1), (2, r19.1)] r19.2).bind fun r20 =>
 (st P 137 (e 4) r20.1 r20.2).bind fun r21 =>
 ((ld P 137 (e 4) r21.2).bind fun r22 => Ah (r22.2 = r21.2) (some r22.1)).bind fun v23 =>
 some (v23, r21.2)) (
 (bo P .eql 3 (.tmp 10) (.const (.int .i64 11)) (e 10) (.int .i64 11) r12.2).bind fun r24 =>
 (vl r24.1 r24.2).bind fun r25 =>
 AR r25.1 (
 BO (AK e [(48, r11.1), (47, r12.1), (58, r24.1), (57, r25.1)]) r25.2) (
 (bo P .eql 3 (.tmp 10) (.const (.int .i64 12)) (e 10) (.int .i64 12) r25.2).bind fun r26 =>
 (vl r26.1 r26.2).bind fun r27 =>
 AR r27.1 (
 BO (AK e [(48, r11.1), (47, r12.1), (58, r24.1), (57, r25.1), (59, r26.1), (57, r27.1)]) r27.2) (
 (bo P .eql 3 (.tmp 10) (.const (.int .i64 13)) (e 10) (.int .i64 13) r27.2).bind fun r28 =>
 (vl r28.1 r28.2).bind fun r29 =>
 BO (AK e [(48, r11.1), (47, r12.1), (58, r24.1), (57, r25.1), (59, r26.1), (57, r27.1), (60, r28.1), (57, r29.1)]) r29.2)))) := by kernel_rfl
theorem Ht (e : Env) (w : World) : BO e w =
 AR (e 57) (
 (vl (e 5) w).bind fun r1 =>
 (vl (e 0) r1.2).bind fun r2 =>
 (bs P 64 4 #[(0, (.int .i64 0)), (1, (.int .i64 0)), (2, (.int .i64 1)), (3, (.int .i64 2))] r2.2).bind fun r3 =>
 (EV P 34 #[r2.1, r3.1] r3.2).bind fun r4 =>
 (bd P 137 #[(0, (.int .i64 6)), (1, r1.1), (2, r4.1)] r4.2).bind fun r5 =>
 (st P 137 (e 4) r5.1 r5.2).bind fun r6 =>
 ((ld P 137 (e 4) r6.2).bind fun r7 => Ah (r7.2 = r6.2) (some r7.1)).bind fun v8 =>
 some (v8, r6.2)) (
 (bo P .eql 3 (.tmp 10) (.const (.int .i64 14)) (e 10) (.int .i64 14) w).bind fun r9 =>
 (vl r9.1 r9.2).bind fun r10 =>
 AR r10.1 (
 (vl (e 0) r10.2).bind fun r11 =>
 (bs P 64 2 #[(0, (.int .i64 7)), (1, (.int .i64 8))] r11.2).bind fun r12 =>
 (EV P 34 #[r11.1, r12.1] r12.2).bind fun r13 =>
 (vl (e 5) r13.2).bind fun r14 =>
 (vl (e 0) r14.2).bind fun r15 =>
 (EV P 42 #[r15.1, (.int .i64 4)] r15.2).bind fun r16 =>
 (bd P 137 #[(0, r13.1), (1, r14.1), (2, r16.1)] r16.2).bind fun r17 =>
 (st P 137 (e 4) r17.1 r17.2).bind fun r18 =>
 ((ld P 137 (e 4) r18.2).bind fun r19 => Ah (r19.2 = r18.2) (some r19.1)).bind fun v20 =>
 some (v20, r18.2)) (
 (bo P .eql 3 (.tmp 10) (.const (.int .i64 15)) (e 10) (.int .i64 15) r10.2).bind fun r21 =>
 (vl r21.1 r21.2).bind fun r22 =>
 AR r22.1 (
 Cr (AK e [(67, r9.1), (66, r10.1), (76, r21.1), (75, r22.1)]) r22.2) (
 (bo P .eql 3 (.tmp 10) (.const (.int .i64 16)) (e 10) (.int .i64 16) r22.2).bind fun r23 =>
 (vl r23.1 r23.2).bind fun r24 =>
 Cr (AK e [(67, r9.1), (66, r10.1), (76, r21.1), (75, r22.1), (77, r23.1), (75, r24.1)]) r24.2))) := by kernel_rfl
theorem Hu (e : Env) (w : World) : Cr e w =
 AR (e 75) (
 (vl (e 5) w).bind fun r1 =>
 (vl (e 0) r1.2).bind fun r2 =>
 (EV P 42 #[r2.1, (.int .i64 3)] r2.2).bind fun r3 =>
 (bd P 137 #[(0, (.int .i64 9)), (1, r1.1), (2, r3.1)] r3.2).bind fun r4 =>
 (st P 137 (e 4) r4.1 r4.2).bind fun r5 =>
 ((ld P 137 (e 4) r5.2).bind fun r6 => Ah (r6.2 = r5.2) (some r6.1)).bind fun v7 =>
 some (v7, r5.2)) (
 (bo P .eql 3 (.tmp 10) (.const (.int .i64 17)) (e 10) (.int .i64 17) w).bind fun r8 =>
 (vl r8.1 r8.2).bind fun r9 =>
 AR r9.1 (
 Cs (AK e [(83, r8.1), (82, r9.1)]) r9.2) (
 (bo P .eql 3 (.tmp 10) (.const (.int .i64 18)) (e 10) (.int .i64 18) r9.2).bind fun r10 =>
 (vl r10.1 r10.2).bind fun r11 =>
 Cs (AK e [(83, r8.1), (82, r9.1), (84, r10.1), (82, r11.1)]) r11.2)) := by kernel_rfl
theorem Hv (e : Env) (w : World) : Cs e w =
 AR (e 82) (
 (vl (e 0) w).bind fun r1 =>
 (EV P 42 #[r1.1, (.int .i64 3)] r1.2).bind fun r2 =>
 (vl r2.1 r2.2).bind fun r3 =>
 (vl (e 5) r3.2).bind fun r4 =>
 (vl r3.1 r4.2).bind fun r5 =>
 (fa P 77 (e 3) 0 r5.2).bind fun r6 =>
 (ld P 73 r6.1 r6.2).bind fun r7 =>
 (vl r3.1 r7.2).bind fun r8 =>
 (ia P 73 r7.1 r8.1 r8.2).bind fun r9 =>
 (fa P 84 r9.1 4 r9.2).bind fun r10 =>
 (ld P 82 r10.1 r10.2).bind fun r11 =>
 (vl (e 5) r11.2).bind fun r12 =>
 (ia P 82 r11.1 r12.1 r12.2).bind fun r13 =>
 (ld P 42 r13.1 r13.2).bind fun r14 =>
 (Ax P #[42] 3 #[r14.1] r14.2).bind fun r15 =>
 (bd P 137 #[(0, (.int .i64 10)), (1, r4.1), (2, r5.1), (3, r15.1)] r15.2).bind fun r16 =>
 (st P 137 (e 4) r16.1 r16.2).bind fun r17 =>
 ((ld P 137 (e 4) r17.2).bind fun r18 => Ah (r18.2 = r17.2) (some r18.1)).bind fun v19 =>
 some (v19, r17.2)) (
 (vl (e 0) w).bind fun r20 =>
 (bs P 64 7 #[(0, (.int .i64 11)), (1, (.int .i64 11)), (2, (.int .i64 11)), (3, (.int .i64 12)), (4, (.int .i64 13)), (5, (.int .i64 0)), (6, (.int .i64 14))] r20.2).bind fun r21 =>
 (EV P 34 #[r20.1, r21.1] r21.2).bind fun r22 =>
 (vl (e 0) r22.2).bind fun r23 =>
 (EV P 42 #[r23.1, (.int .i64 3)] r23.2).bind fun r24 =>
 (bd P 137 #[(0, r22.1), (1, r24.1)] r24.2).bind fun r25 =>
 (st P 137 (e 4) r25.1 r25.2).bind fun r26 =>
 ((ld P 137 (e 4) r26.2).bind fun r27 => Ah (r27.2 = r26.2) (some r27.1)).bind fun v28 =>
 some (v28, r26.2)) := by kernel_rfl
theorem Jp (x0 x1 : Value) (w : World) : Br P (EV P) 110 #[x0, x1] w =
 (bx P 77 x1 w).bind fun r1 =>
 (al P 137 r1.2).bind fun r2 =>
 (vl x0 r2.2).bind fun r3 =>
 (EV P 42 #[r3.1, (.int .i64 3)] r3.2).bind fun r4 =>
 (vl r4.1 r4.2).bind fun r5 =>
 (vl x0 r5.2).bind fun r6 =>
 (EV P 42 #[r6.1, (.int .i64 20)] r6.2).bind fun r7 =>
 (bo P .eql 3 (.tmp 10) (.const (.int .i64 0)) r7.1 (.int .i64 0) r7.2).bind fun r8 =>
 (vl r8.1 r8.2).bind fun r9 =>
 AR r9.1 (
 Bz (AK (AN #[x0, x1]) [(3, r1.1), (4, r2.1), (7, r3.1), (8, r4.1), (5, r5.1), (9, r6.1), (10, r7.1), (12, r8.1), (11, r9.1)]) r9.2) (
 (bo P .eql 3 (.tmp 10) (.const (.int .i64 1)) r7.1 (.int .i64 1) r9.2).bind fun r10 =>
 (vl r10.1 r10.2).bind fun r11 =>
 AR r11.1 (
 Bz (AK (AN #[x0, x1]) [(3, r1.1), (4, r2.1), (7, r3.1), (8, r4.1), (5, r5.1), (9, r6.1), (10, r7.1), (12, r8.1), (11, r9.1), (13, r10.1), (11, r11.1)]) r11.2) (
 (bo P .eql 3 (.tmp 10) (.const (.int .i64 2)) r7.1 (.int .i64 2) r11.2).bind fun r12 =>
 (vl r12.1 r12.2).bind fun r13 =>
 Bz (AK (AN #[x0, x1]) [(3, r1.1), (4, r2.1), (7, r3.1), (8, r4.1), (5, r5.1), (9, r6.1), (10, r7.1), (12, r8.1), (11, r9.1), (13, r10.1), (11, r11.1), (14, r12.1), (11, r13.1)]) r13.2)) := by kernel_rfl
noncomputable def Ck (e : Env) (w : World) : Option (Value × World) := Bt P (EV P) 111 56 (.loop (cA (cA (cB (cA (cB (cB (Af P 111)))))))) e w (Al 0 (Ay P (EV P) 111 56 (cB (cB (cB (Af P 111)))) (Bf P (AB P 111))))
noncomputable def C5 (e : Env) (w : World) : Option (Value × World) := Bt P (EV P) 111 56 (.loop (cA (cA (cB (cA (cB (cA (cA (cB (cA (cA (cB (cA (cB (cB (Af P 111)))))))))))))))) e w (Al 2 (Ay P (EV P) 111 56 (cB (cB (cA (cA (cB (cA (cA (cB (cA (cB (cB (Af P 111)))))))))))) (Al 1 (Ay P (EV P) 111 56 (cB (cB (cA (cA (cB (cA (cB (cB (Af P 111))))))))) (CO P (EV P) 111 56 (cA (cA (cB (cA (cB (cB (Af P 111))))))) (Al 0 (Ay P (EV P) 111 56 (cB (cB (cB (Af P 111)))) (Bf P (AB P 111)))))))))
theorem Ff (e : Env) (w : World) : Ck e w =
 (vl (e 4) w).bind fun r1 =>
 (fa P 81 (e 1) 0 r1.2).bind fun r2 =>
 (ld P 79 r2.1 r2.2).bind fun r3 =>
 (Ax P #[79] 3 #[r3.1] r3.2).bind fun r4 =>
 (bo P .lss 3 (.tmp 8) (.tmp 11) r1.1 r4.1 r4.2).bind fun r5 =>
 AR r5.1 (
 (fa P 81 (e 1) 0 r5.2).bind fun r6 =>
 (ld P 79 r6.1 r6.2).bind fun r7 =>
 (vl (e 4) r7.2).bind fun r8 =>
 (ia P 79 r7.1 r8.1 r8.2).bind fun r9 =>
 (fa P 86 r9.1 0 r9.2).bind fun r10 =>
 (ld P 44 r10.1 r10.2).bind fun r11 =>
 (EV P 119 #[r11.1] r11.2).bind fun r12 =>
 (bd P 86 #[(0, r12.1)] r12.2).bind fun r13 =>
 (al P 86 r13.2).bind fun r14 =>
 (st P 86 r14.1 r13.1 r14.2).bind fun r15 =>
 (vl (.int .i64 0) r15.2).bind fun r16 =>
 C5 (AK e [(8, r1.1), (9, r2.1), (10, r3.1), (11, r4.1), (12, r5.1), (15, r6.1), (16, r7.1), (17, r8.1), (18, r9.1), (19, r10.1), (20, r11.1), (21, r12.1), (22, r13.1), (5, r14.1), (6, r16.1)]) r16.2) (
 (ld P 81 (e 3) r5.2).bind fun r17 =>
 (st P 81 (e 2) r17.1 r17.2).bind fun r18 =>
 ((ld P 81 (e 2) r18.2).bind fun r19 => Ah (r19.2 = r18.2) (some r19.1)).bind fun v20 =>
 some (v20, r18.2)) := (AA P (EV P) 111 56 (cA (cA (cB (cA (cB (cB (Af P 111))))))) e w (Al 0 (Ay P (EV P) 111 56 (cB (cB (cB (Af P 111)))) (Bf P (AB P 111))))).trans (by kernel_rfl)
theorem Fg (e : Env) (w : World) : C5 e w =
 (vl (e 6) w).bind fun r1 =>
 (fa P 81 (e 1) 0 r1.2).bind fun r2 =>
 (ld P 79 r2.1 r2.2).bind fun r3 =>
 (vl (e 4) r3.2).bind fun r4 =>
 (ia P 79 r3.1 r4.1 r4.2).bind fun r5 =>
 (fa P 86 r5.1 1 r5.2).bind fun r6 =>
 (ld P 42 r6.1 r6.2).bind fun r7 =>
 (Ax P #[42] 3 #[r7.1] r7.2).bind fun r8 =>
 (bo P .lss 3 (.tmp 23) (.tmp 30) r1.1 r8.1 r8.2).bind fun r9 =>
 AR r9.1 (
 (fa P 86 (e 5) 1 (dw r9.2)).bind fun r11 =>
 Ah (r11.2 = (dw r9.2)) <|
 (ld P 42 r11.1 (dw r9.2)).bind fun r12 =>
 Ah (r12.2 = (dw r9.2)) <|
 (fa P 81 (e 1) 0 (dw r9.2)).bind fun r13 =>
 Ah (r13.2 = (dw r9.2)) <|
 (ld P 79 r13.1 (dw r9.2)).bind fun r14 =>
 Ah (r14.2 = (dw r9.2)) <|
 (vl (e 4) (dw r9.2)).bind fun r15 =>
 Ah (r15.2 = (dw r9.2)) <|
 (ia P 79 r14.1 r15.1 (dw r9.2)).bind fun r16 =>
 Ah (r16.2 = (dw r9.2)) <|
 (fa P 86 r16.1 1 (dw r9.2)).bind fun r17 =>
 Ah (r17.2 = (dw r9.2)) <|
 (ld P 42 r17.1 (dw r9.2)).bind fun r18 =>
 Ah (r18.2 = (dw r9.2)) <|
 (vl (e 6) (dw r9.2)).bind fun r19 =>
 Ah (r19.2 = (dw r9.2)) <|
 (ia P 42 r18.1 r19.1 (dw r9.2)).bind fun r20 =>
 Ah (r20.2 = (dw r9.2)) <|
 (ld P 49 r20.1 (dw r9.2)).bind fun r21 =>
 Ah (r21.2 = (dw r9.2)) <|
 (EV P 98 #[r21.1] (dw r9.2)).bind fun r22 =>
 Ah (True ∧ True ∧ True ∧ True ∧ True ∧ True ∧ True ∧ ld P 42 r11.1 r22.2 = some (r12.1, r22.2) ∧ fa P 86 (e 5) 1 r22.2 = some (r11.1, r22.2) ∧ True) <|
 (bs P 42 1 #[(0, r22.1)] r22.2).bind fun r23 =>
 Ah (True ∧ True ∧ True ∧ True ∧ True ∧ True ∧ True ∧ ld P 42 r11.1 r23.2 = some (r12.1, r23.2) ∧ fa P 86 (e 5) 1 r23.2 = some (r11.1, r23.2) ∧ True) <|
 (Au P #[42, 42] 42 #[r12.1, r23.1] r23.2).bind fun r24 =>
 Ah (True ∧ True ∧ True ∧ True ∧ True ∧ True ∧ True ∧ True ∧ True ∧ True) <|
 (fa P 86 (e 5) 1 r24.2).bind fun r25 =>
 Ah (r25.2 = r24.2) <|
 (st P 42 r25.1 r24.1 r24.2).bind fun r26 =>
 Ah (True ∧ True ∧ True ∧ True ∧ True ∧ True ∧ True ∧ True ∧ True ∧ True ∧ True) <|
 (vl (e 6) r26.2).bind fun r27 =>
 (bo P .add 3 (.tmp 32) (.const (.int .i64 1)) r27.1 (.int .i64 1) r27.2).bind fun r28 =>
 (vl r28.1 r28.2).bind fun r29 =>
 C5 (AK e [(23, r1.1), (24, r2.1), (25, r3.1), (26, r4.1), (27, r5.1), (28, r6.1), (29, r7.1), (30, r8.1), (31, r9.1), (34, r11.1), (35, r12.1), (36, r13.1), (37, r14.1), (38, r15.1), (39, r16.1), (40, r17.1), (41, r18.1), (42, r19.1), (43, r20.1), (44, r21.1), (45, r22.1), (46, r23.1), (47, r24.1), (48, r25.1), (32, r27.1), (33, r28.1), (6, r29.1)]) r29.2) (
 (fa P 81 (e 3) 0 r9.2).bind fun r30 =>
 (ld P 79 r30.1 r30.2).bind fun r31 =>
 (ld P 86 (e 5) r31.2).bind fun r32 =>
 (bs P 79 1 #[(0, r32.1)] r32.2).bind fun r33 =>
 (Au P #[79, 79] 79 #[r31.1, r33.1] r33.2).bind fun r34 =>
 (fa P 81 (e 3) 0 r34.2).bind fun r35 =>
 (st P 79 r35.1 r34.1 r35.2).bind fun r36 =>
 (vl (e 4) r36.2).bind fun r37 =>
 (bo P .add 3 (.tmp 13) (.const (.int .i64 1)) r37.1 (.int .i64 1) r37.2).bind fun r38 =>
 (vl r38.1 r38.2).bind fun r39 =>
 Ck (AK e [(23, r1.1), (24, r2.1), (25, r3.1), (26, r4.1), (27, r5.1), (28, r6.1), (29, r7.1), (30, r8.1), (31, r9.1), (49, r30.1), (50, r31.1), (51, r32.1), (52, r33.1), (53, r34.1), (54, r35.1), (13, r37.1), (14, r38.1), (4, r39.1)]) r39.2) := (AA P (EV P) 111 56 (cA (cA (cB (cA (cB (cA (cA (cB (cA (cA (cB (cA (cB (cB (Af P 111))))))))))))))) e w (Al 2 (Ay P (EV P) 111 56 (cB (cB (cA (cA (cB (cA (cA (cB (cA (cB (cB (Af P 111)))))))))))) (Al 1 (Ay P (EV P) 111 56 (cB (cB (cA (cA (cB (cA (cB (cB (Af P 111))))))))) (CO P (EV P) 111 56 (cA (cA (cB (cA (cB (cB (Af P 111))))))) (Al 0 (Ay P (EV P) 111 56 (cB (cB (cB (Af P 111)))) (Bf P (AB P 111)))))))))).trans (by kernel_rfl)
theorem KN (x0 : Value) (w : World) : Br P (EV P) 111 #[x0] w =
 (bx P 81 x0 w).bind fun r1 =>
 (al P 81 r1.2).bind fun r2 =>
 (bd P 81 #[] r2.2).bind fun r3 =>
 (al P 81 r3.2).bind fun r4 =>
 (st P 81 r4.1 r3.1 r4.2).bind fun r5 =>
 (vl (.int .i64 0) r5.2).bind fun r6 =>
 Ck (AK (AN #[x0]) [(1, r1.1), (2, r2.1), (7, r3.1), (3, r4.1), (4, r6.1)]) r6.2 := by kernel_rfl
noncomputable def C6 (e : Env) (w : World) : Option (Value × World) := Bt P (EV P) 112 21 (.loop (cA (cA (cB (cA (cB (cB (Af P 112)))))))) e w (Al 0 (Ay P (EV P) 112 21 (cB (cB (cB (Af P 112)))) (Bf P (AB P 112))))
theorem Fh (e : Env) (w : World) : C6 e w =
 (vl (e 4) w).bind fun r1 =>
 (vl (e 0) r1.2).bind fun r2 =>
 (Ax P #[42] 3 #[r2.1] r2.2).bind fun r3 =>
 (bo P .lss 3 (.tmp 6) (.tmp 8) r1.1 r3.1 r3.2).bind fun r4 =>
 AR r4.1 (
 (vl (e 3) r4.2).bind fun r5 =>
 (vl (e 0) r5.2).bind fun r6 =>
 (vl (e 4) r6.2).bind fun r7 =>
 (ia P 42 r6.1 r7.1 r7.2).bind fun r8 =>
 (ld P 49 r8.1 r8.2).bind fun r9 =>
 (EV P 98 #[r9.1] r9.2).bind fun r10 =>
 (bs P 42 1 #[(0, r10.1)] r10.2).bind fun r11 =>
 (Au P #[42, 42] 42 #[r5.1, r11.1] r11.2).bind fun r12 =>
 (vl r12.1 r12.2).bind fun r13 =>
 (vl (e 4) r13.2).bind fun r14 =>
 (bo P .add 3 (.tmp 10) (.const (.int .i64 1)) r14.1 (.int .i64 1) r14.2).bind fun r15 =>
 (vl r15.1 r15.2).bind fun r16 =>
 C6 (AK e [(6, r1.1), (7, r2.1), (8, r3.1), (9, r4.1), (12, r5.1), (13, r6.1), (14, r7.1), (15, r8.1), (16, r9.1), (17, r10.1), (18, r11.1), (19, r12.1), (3, r13.1), (10, r14.1), (11, r15.1), (4, r16.1)]) r16.2) (
 (vl (e 3) r4.2).bind fun r17 =>
 (vl r17.1 r17.2).bind fun r18 =>
 some (r18.1, r18.2)) := (AA P (EV P) 112 21 (cA (cA (cB (cA (cB (cB (Af P 112))))))) e w (Al 0 (Ay P (EV P) 112 21 (cB (cB (cB (Af P 112)))) (Bf P (AB P 112))))).trans (by kernel_rfl)
theorem KO (x0 : Value) (w : World) : Br P (EV P) 112 #[x0] w =
 (vl (Go.Value.slice none 0 0) w).bind fun r1 =>
 (bs P 42 0 #[] r1.2).bind fun r2 =>
 (vl r2.1 r2.2).bind fun r3 =>
 (vl (.int .i64 0) r3.2).bind fun r4 =>
 C6 (AK (AN #[x0]) [(2, r1.1), (5, r2.1), (3, r3.1), (4, r4.1)]) r4.2 := by kernel_rfl
noncomputable def FI (e : Env) (w : World) : Option (Value × World) := Bt P (EV P) 113 10 (cA (cB (Af P 113))) e w (Ay P (EV P) 113 10 (cB (cB (Af P 113))) (Bf P (AB P 113)))
noncomputable def FJ (e : Env) (w : World) : Option (Value × World) := Bt P (EV P) 113 10 (cB (cB (Af P 113))) e w (Bf P (AB P 113))
theorem Iv (e : Env) (w : World) {Q : Value × World → Prop} (h :
 (Ae (vl (e 0) (dw w)) fun r1 => r1.2 = (dw w) ∧
 (Ae (vl (e 1) (dw w)) fun r2 => r2.2 = (dw w) ∧
 ((Ae (EV P 120 #[r2.1] (dw w)) fun r3 => (True) ∧
 ((Ae (ms P 82 (.int .i64 3) (.int .i64 3) r3.2) fun r4 => (True) ∧
 (Ae (bd P 84 #[(0, r1.1), (2, r3.1), (4, r4.1)] r4.2) fun r5 => r5.2 = r4.2 ∧
 ((Ae (st P 84 (e 4) r5.1 r4.2) fun r6 => (True ∧ True) ∧
 Ae (FJ (AK e [(5, r1.1), (6, r2.1), (7, r3.1), (8, r4.1), (9, r5.1)]) r6.2) Q)))))) ∧
 (Ae (ms P 82 (.int .i64 3) (.int .i64 3) (dw w)) fun r7 => (True) ∧
 ((Ae (EV P 120 #[r2.1] r7.2) fun r8 => (True) ∧
 (Ae (bd P 84 #[(0, r1.1), (2, r8.1), (4, r7.1)] r8.2) fun r9 => r9.2 = r8.2 ∧
 ((Ae (st P 84 (e 4) r9.1 r8.2) fun r10 => (True ∧ True) ∧
 Ae (FJ (AK e [(5, r1.1), (6, r2.1), (8, r7.1), (7, r8.1), (9, r9.1)]) r10.2) Q)))))))))) : Ae (FI e w) Q := Et (id := 1) (ops := opsOf (cA (cB (Af P 113)))) (by kernel_rfl) (by kernel_rfl) (Eq.mpr (by kernel_rfl) h)
theorem FR (e : Env) (w : World) : FJ e w =
 ((ld P 84 (e 4) w).bind fun r1 => Ah (r1.2 = w) (some r1.1)).bind fun v2 =>
 some (v2, w) := by kernel_rfl
theorem Mq (x0 x1 : Value) (w : World) : Br P (EV P) 113 #[x0, x1] w =
 (al P 84 w).bind fun r1 =>
 FI (AK (AN #[x0, x1]) [(4, r1.1)]) r1.2 := by kernel_rfl
theorem Jq (x0 x1 : Value) (w : World) : Br P (EV P) 114 #[x0, x1] w =
 (bx P 77 x0 w).bind fun r1 =>
 (bx P 137 x1 r1.2).bind fun r2 =>
 (al P 77 r2.2).bind fun r3 =>
 (vl (.bool false) r3.2).bind fun r4 =>
 (fa P 137 r2.1 1 r4.2).bind fun r5 =>
 (ld P 3 r5.1 r5.2).bind fun r6 =>
 (fa P 77 r1.1 1 r6.2).bind fun r7 =>
 (ld P 74 r7.1 r7.2).bind fun r8 =>
 (Ax P #[74] 3 #[r8.1] r8.2).bind fun r9 =>
 (bo P .sub 3 (.tmp 10) (.const (.int .i64 1)) r9.1 (.int .i64 1) r9.2).bind fun r10 =>
 (EV P 37 #[r6.1, (.int .i64 0), r10.1] r10.2).bind fun r11 =>
 (uo P .not r11.1 r11.2).bind fun r12 =>
 AR r12.1 (
 (ld P 77 r1.1 r12.2).bind fun r13 =>
 (st P 77 r3.1 r13.1 r13.2).bind fun r14 =>
 (vl (.bool false) r14.2).bind fun r15 =>
 ((ld P 77 r3.1 r15.2).bind fun r16 => Ah (r16.2 = r15.2) (some r16.1)).bind fun v17 =>
 some (.tuple #[v17, r15.1], r15.2)) (
 (fa P 137 r2.1 0 r12.2).bind fun r18 =>
 (ld P 3 r18.1 r18.2).bind fun r19 =>
 (bo P .eql 3 (.tmp 16) (.const (.int .i64 1)) r19.1 (.int .i64 1) r19.2).bind fun r20 =>
 (vl r20.1 r20.2).bind fun r21 =>
 AR r21.1 (
 (ld P 77 r1.1 r21.2).bind fun r22 =>
 (ld P 137 r2.1 r22.2).bind fun r23 =>
 (EV P 121 #[r22.1, r23.1] r23.2).bind fun r24 =>
 (xt P r24.1 0 r24.2).bind fun r25 =>
 (xt P r24.1 1 r25.2).bind fun r26 =>
 (st P 77 r3.1 r25.1 r26.2).bind fun r27 =>
 (vl r26.1 r27.2).bind fun r28 =>
 ((ld P 77 r3.1 r28.2).bind fun r29 => Ah (r29.2 = r28.2) (some r29.1)).bind fun v30 =>
 some (.tuple #[v30, r28.1], r28.2)) (
 (bo P .eql 3 (.tmp 16) (.const (.int .i64 2)) r19.1 (.int .i64 2) r21.2).bind fun r31 =>
 (vl r31.1 r31.2).bind fun r32 =>
 AR r32.1 (
 (ld P 77 r1.1 r32.2).bind fun r33 =>
 (ld P 137 r2.1 r33.2).bind fun r34 =>
 (EV P 122 #[r33.1, r34.1] r34.2).bind fun r35 =>
 (xt P r35.1 0 r35.2).bind fun r36 =>
 (xt P r35.1 1 r36.2).bind fun r37 =>
 (st P 77 r3.1 r36.1 r37.2).bind fun r38 =>
 (vl r37.1 r38.2).bind fun r39 =>
 ((ld P 77 r3.1 r39.2).bind fun r40 => Ah (r40.2 = r39.2) (some r40.1)).bind fun v41 =>
 some (.tuple #[v41, r39.1], r39.2)) (
 (bo P .eql 3 (.tmp 16) (.const (.int .i64 3)) r19.1 (.int .i64 3) r32.2).bind fun r42 =>
 (vl r42.1 r42.2).bind fun r43 =>
 AR r43.1 (
 (ld P 77 r1.1 r43.2).bind fun r44 =>
 (ld P 137 r2.1 r44.2).bind fun r45 =>
 (EV P 123 #[r44.1, r45.1] r45.2).bind fun r46 =>
 (xt P r46.1 0 r46.2).bind fun r47 =>
 (xt P r46.1 1 r47.2).bind fun r48 =>
 (st P 77 r3.1 r47.1 r48.2).bind fun r49 =>
 (vl r48.1 r49.2).bind fun r50 =>
 ((ld P 77 r3.1 r50.2).bind fun r51 => Ah (r51.2 = r50.2) (some r51.1)).bind fun v52 =>
 some (.tuple #[v52, r50.1], r50.2)) (
 (bo P .eql 3 (.tmp 16) (.const (.int .i64 4)) r19.1 (.int .i64 4) r43.2).bind fun r53 =>
 (vl r53.1 r53.2).bind fun r54 =>
 AR r54.1 (
 (ld P 77 r1.1 r54.2).bind fun r55 =>
 (ld P 137 r2.1 r55.2).bind fun r56 =>
 (EV P 124 #[r55.1, r56.1] r56.2).bind fun r57 =>
 (xt P r57.1 0 r57.2).bind fun r58 =>
 (xt P r57.1 1 r58.2).bind fun r59 =>
 (st P 77 r3.1 r58.1 r59.2).bind fun r60 =>
 (vl r59.1 r60.2).bind fun r61 =>
 ((ld P 77 r3.1 r61.2).bind fun r62 => Ah (r62.2 = r61.2) (some r62.1)).bind fun v63 =>
 some (.tuple #[v63, r61.1], r61.2)) (
 (fa P 77 r1.1 1 r54.2).bind fun r64 =>
 (ld P 74 r64.1 r64.2).bind fun r65 =>
 (fa P 137 r2.1 1 r65.2).bind fun r66 =>
 (ld P 3 r66.1 r66.2).bind fun r67 =>
 (ia P 74 r65.1 r67.1 r67.2).bind fun r68 =>
 (fa P 129 r68.1 2 r68.2).bind fun r69 =>
 (fa P 36 r69.1 0 r69.2).bind fun r70 =>
 (ld P 3 r70.1 r70.2).bind fun r71 =>
 (bo P .gtr 3 (.tmp 52) (.const (.int .i64 0)) r71.1 (.int .i64 0) r71.2).bind fun r72 =>
 (vl r72.1 r72.2).bind fun r73 =>
 (Ao r73.1 false (fa P 137 r2.1 2 r73.2) r73.2).bind fun r74 =>
 (Ao r73.1 false (ld P 3 r74.1 r74.2) r74.2).bind fun r75 =>
 (Ao r73.1 false (EV P 37 #[r75.1, (.int .i64 0), (.int .i64 2)] r75.2) r75.2).bind fun r76 =>
 (Ao r73.1 false (uo P .not r76.1 r76.2) r76.2).bind fun r77 =>
 (Az r73.1 (.bool true) r77.1 r77.2).bind fun r78 =>
 AR r78.1 (
 (ld P 77 r1.1 r78.2).bind fun r79 =>
 (st P 77 r3.1 r79.1 r79.2).bind fun r80 =>
 (vl (.bool false) r80.2).bind fun r81 =>
 ((ld P 77 r3.1 r81.2).bind fun r82 => Ah (r82.2 = r81.2) (some r82.1)).bind fun v83 =>
 some (.tuple #[v83, r81.1], r81.2)) (
 (fa P 77 r1.1 1 r78.2).bind fun r84 =>
 (ld P 74 r84.1 r84.2).bind fun r85 =>
 (fa P 137 r2.1 1 r85.2).bind fun r86 =>
 (ld P 3 r86.1 r86.2).bind fun r87 =>
 (fa P 137 r2.1 2 r87.2).bind fun r88 =>
 (ld P 3 r88.1 r88.2).bind fun r89 =>
 (ia P 74 r85.1 r87.1 r89.2).bind fun r90 =>
 (fa P 129 r90.1 0 r90.2).bind fun r91 =>
 (st P 3 r91.1 r89.1 r91.2).bind fun r92 =>
 (ld P 77 r1.1 r92.2).bind fun r93 =>
 (st P 77 r3.1 r93.1 r93.2).bind fun r94 =>
 (vl (.bool true) r94.2).bind fun r95 =>
 ((ld P 77 r3.1 r95.2).bind fun r96 => Ah (r96.2 = r95.2) (some r96.1)).bind fun v97 =>
 some (.tuple #[v97, r95.1], r95.2))))))) := by kernel_rfl
noncomputable def AS (e : Env) (w : World) : Option (Value × World) := Bt P (EV P) 115 87 (cB (cB (cB (cB (cB (Af P 115)))))) e w (Bf P (AB P 115))
theorem HS (e : Env) (w : World) : AS e w =
 (fa P 77 (e 2) 0 w).bind fun r1 =>
 (ld P 73 r1.1 r1.2).bind fun r2 =>
 (fa P 137 (e 3) 1 r2.2).bind fun r3 =>
 (ld P 3 r3.1 r3.2).bind fun r4 =>
 (ld P 84 (e 6) r4.2).bind fun r5 =>
 (ia P 73 r2.1 r4.1 r5.2).bind fun r6 =>
 (st P 84 r6.1 r5.1 r6.2).bind fun r7 =>
 (ld P 77 (e 2) r7.2).bind fun r8 =>
 (vl (e 7) r8.2).bind fun r9 =>
 (st P 77 (e 4) r8.1 r9.2).bind fun r10 =>
 (vl r9.1 r10.2).bind fun r11 =>
 ((ld P 77 (e 4) r11.2).bind fun r12 => Ah (r12.2 = r11.2) (some r12.1)).bind fun v13 =>
 some (.tuple #[v13, r11.1], r11.2) := by kernel_rfl
theorem J6 (x0 x1 : Value) (w : World) : Br P (EV P) 115 #[x0, x1] w =
 (bx P 77 x0 w).bind fun r1 =>
 (bx P 137 x1 r1.2).bind fun r2 =>
 (al P 77 r2.2).bind fun r3 =>
 (vl (.bool false) r3.2).bind fun r4 =>
 (fa P 137 r2.1 1 r4.2).bind fun r5 =>
 (ld P 3 r5.1 r5.2).bind fun r6 =>
 (EV P 37 #[r6.1, (.int .i64 0), (.int .i64 2)] r6.2).bind fun r7 =>
 (uo P .not r7.1 r7.2).bind fun r8 =>
 AR r8.1 (
 (ld P 77 r1.1 r8.2).bind fun r9 =>
 (st P 77 r3.1 r9.1 r9.2).bind fun r10 =>
 (vl (.bool false) r10.2).bind fun r11 =>
 ((ld P 77 r3.1 r11.2).bind fun r12 => Ah (r12.2 = r11.2) (some r12.1)).bind fun v13 =>
 some (.tuple #[v13, r11.1], r11.2)) (
 (fa P 77 r1.1 0 r8.2).bind fun r14 =>
 (ld P 73 r14.1 r14.2).bind fun r15 =>
 (fa P 137 r2.1 1 r15.2).bind fun r16 =>
 (ld P 3 r16.1 r16.2).bind fun r17 =>
 (ia P 73 r15.1 r17.1 r17.2).bind fun r18 =>
 (ld P 84 r18.1 r18.2).bind fun r19 =>
 (al P 84 r19.2).bind fun r20 =>
 (st P 84 r20.1 r19.1 r20.2).bind fun r21 =>
 (vl (.bool false) r21.2).bind fun r22 =>
 (fa P 137 r2.1 0 r22.2).bind fun r23 =>
 (ld P 3 r23.1 r23.2).bind fun r24 =>
 (bo P .eql 3 (.tmp 20) (.const (.int .i64 6)) r24.1 (.int .i64 6) r24.2).bind fun r25 =>
 (vl r25.1 r25.2).bind fun r26 =>
 AR r26.1 (
 (fa P 84 r20.1 2 r26.2).bind fun r27 =>
 (ld P 81 r27.1 r27.2).bind fun r28 =>
 (fa P 137 r2.1 2 r28.2).bind fun r29 =>
 (ld P 3 r29.1 r29.2).bind fun r30 =>
 (EV P 125 #[r28.1, r30.1] r30.2).bind fun r31 =>
 (vl r31.1 r31.2).bind fun r32 =>
 (vl r32.1 r32.2).bind fun r33 =>
 AR r33.1 (
 (fa P 84 r20.1 2 r33.2).bind fun r34 =>
 (ld P 81 r34.1 r34.2).bind fun r35 =>
 (fa P 137 r2.1 2 r35.2).bind fun r36 =>
 (ld P 3 r36.1 r36.2).bind fun r37 =>
 (EV P 126 #[r35.1, r37.1] r37.2).bind fun r38 =>
 (fa P 84 r20.1 2 r38.2).bind fun r39 =>
 (st P 81 r39.1 r38.1 r39.2).bind fun r40 =>
 (ld P 84 r20.1 r40.2).bind fun r41 =>
 (EV P 127 #[r41.1] r41.2).bind fun r42 =>
 (st P 84 r20.1 r42.1 r42.2).bind fun r43 =>
 AS (AK (AN #[x0, x1]) [(2, r1.1), (3, r2.1), (4, r3.1), (5, r4.1), (8, r5.1), (9, r6.1), (10, r7.1), (11, r8.1), (13, r14.1), (14, r15.1), (15, r16.1), (16, r17.1), (17, r18.1), (18, r19.1), (6, r20.1), (7, r22.1), (19, r23.1), (20, r24.1), (36, r25.1), (35, r26.1), (37, r27.1), (38, r28.1), (39, r29.1), (40, r30.1), (41, r31.1), (7, r32.1), (42, r33.1), (43, r34.1), (44, r35.1), (45, r36.1), (46, r37.1), (47, r38.1), (48, r39.1), (49, r41.1), (50, r42.1)]) r43.2) (
 AS (AK (AN #[x0, x1]) [(2, r1.1), (3, r2.1), (4, r3.1), (5, r4.1), (8, r5.1), (9, r6.1), (10, r7.1), (11, r8.1), (13, r14.1), (14, r15.1), (15, r16.1), (16, r17.1), (17, r18.1), (18, r19.1), (6, r20.1), (7, r22.1), (19, r23.1), (20, r24.1), (36, r25.1), (35, r26.1), (37, r27.1), (38, r28.1), (39, r29.1), (40, r30.1), (41, r31.1), (7, r32.1), (42, r33.1)]) r33.2)) (
 (bo P .eql 3 (.tmp 20) (.const (.int .i64 7)) r24.1 (.int .i64 7) r26.2).bind fun r44 =>
 (vl r44.1 r44.2).bind fun r45 =>
 AR r45.1 (
 (ld P 84 r20.1 r45.2).bind fun r46 =>
 (fa P 137 r2.1 2 r46.2).bind fun r47 =>
 (ld P 3 r47.1 r47.2).bind fun r48 =>
 (EV P 128 #[r46.1, r48.1] r48.2).bind fun r49 =>
 (vl r49.1 r49.2).bind fun r50 =>
 (vl r50.1 r50.2).bind fun r51 =>
 AR r51.1 (
 (fa P 84 r20.1 2 r51.2).bind fun r52 =>
 (ld P 81 r52.1 r52.2).bind fun r53 =>
 (fa P 137 r2.1 2 r53.2).bind fun r54 =>
 (ld P 3 r54.1 r54.2).bind fun r55 =>
 (EV P 129 #[r53.1, r55.1] r55.2).bind fun r56 =>
 (fa P 84 r20.1 2 r56.2).bind fun r57 =>
 (st P 81 r57.1 r56.1 r57.2).bind fun r58 =>
 (fa P 84 r20.1 5 r58.2).bind fun r59 =>
 (st P 4 r59.1 (.bool true) r59.2).bind fun r60 =>
 (ld P 84 r20.1 r60.2).bind fun r61 =>
 (EV P 127 #[r61.1] r61.2).bind fun r62 =>
 (st P 84 r20.1 r62.1 r62.2).bind fun r63 =>
 AS (AK (AN #[x0, x1]) [(2, r1.1), (3, r2.1), (4, r3.1), (5, r4.1), (8, r5.1), (9, r6.1), (10, r7.1), (11, r8.1), (13, r14.1), (14, r15.1), (15, r16.1), (16, r17.1), (17, r18.1), (18, r19.1), (6, r20.1), (7, r22.1), (19, r23.1), (20, r24.1), (36, r25.1), (35, r26.1), (52, r44.1), (51, r45.1), (53, r46.1), (54, r47.1), (55, r48.1), (56, r49.1), (7, r50.1), (57, r51.1), (58, r52.1), (59, r53.1), (60, r54.1), (61, r55.1), (62, r56.1), (63, r57.1), (64, r59.1), (65, r61.1), (66, r62.1)]) r63.2) (
 AS (AK (AN #[x0, x1]) [(2, r1.1), (3, r2.1), (4, r3.1), (5, r4.1), (8, r5.1), (9, r6.1), (10, r7.1), (11, r8.1), (13, r14.1), (14, r15.1), (15, r16.1), (16, r17.1), (17, r18.1), (18, r19.1), (6, r20.1), (7, r22.1), (19, r23.1), (20, r24.1), (36, r25.1), (35, r26.1), (52, r44.1), (51, r45.1), (53, r46.1), (54, r47.1), (55, r48.1), (56, r49.1), (7, r50.1), (57, r51.1)]) r51.2)) (
 (bo P .eql 3 (.tmp 20) (.const (.int .i64 8)) r24.1 (.int .i64 8) r45.2).bind fun r64 =>
 (vl r64.1 r64.2).bind fun r65 =>
 AR r65.1 (
 (fa P 84 r20.1 2 r65.2).bind fun r66 =>
 (fa P 81 r66.1 0 r66.2).bind fun r67 =>
 (ld P 79 r67.1 r67.2).bind fun r68 =>
 (Ax P #[79] 3 #[r68.1] r68.2).bind fun r69 =>
 (bo P .lss 3 (.tmp 72) (.const (.int .i64 4)) r69.1 (.int .i64 4) r69.2).bind fun r70 =>
 (vl r70.1 r70.2).bind fun r71 =>
 (vl r71.1 r71.2).bind fun r72 =>
 AR r72.1 (
 (fa P 84 r20.1 2 r72.2).bind fun r73 =>
 (ld P 81 r73.1 r73.2).bind fun r74 =>
 (EV P 130 #[r74.1] r74.2).bind fun r75 =>
 (fa P 84 r20.1 2 r75.2).bind fun r76 =>
 (st P 81 r76.1 r75.1 r76.2).bind fun r77 =>
 AS (AK (AN #[x0, x1]) [(2, r1.1), (3, r2.1), (4, r3.1), (5, r4.1), (8, r5.1), (9, r6.1), (10, r7.1), (11, r8.1), (13, r14.1), (14, r15.1), (15, r16.1), (16, r17.1), (17, r18.1), (18, r19.1), (6, r20.1), (7, r22.1), (19, r23.1), (20, r24.1), (36, r25.1), (35, r26.1), (52, r44.1), (51, r45.1), (68, r64.1), (67, r65.1), (69, r66.1), (70, r67.1), (71, r68.1), (72, r69.1), (73, r70.1), (7, r71.1), (74, r72.1), (75, r73.1), (76, r74.1), (77, r75.1), (78, r76.1)]) r77.2) (
 AS (AK (AN #[x0, x1]) [(2, r1.1), (3, r2.1), (4, r3.1), (5, r4.1), (8, r5.1), (9, r6.1), (10, r7.1), (11, r8.1), (13, r14.1), (14, r15.1), (15, r16.1), (16, r17.1), (17, r18.1), (18, r19.1), (6, r20.1), (7, r22.1), (19, r23.1), (20, r24.1), (36, r25.1), (35, r26.1), (52, r44.1), (51, r45.1), (68, r64.1), (67, r65.1), (69, r66.1), (70, r67.1), (71, r68.1), (72, r69.1), (73, r70.1), (7, r71.1), (74, r72.1)]) r72.2)) (
 (fa P 137 r2.1 2 r65.2).bind fun r78 =>
 (ld P 3 r78.1 r78.2).bind fun r79 =>
 (EV P 37 #[r79.1, (.int .i64 0), (.int .i64 2)] r79.2).bind fun r80 =>
 (vl r80.1 r80.2).bind fun r81 =>
 (Ao r81.1 true (ld P 84 r20.1 r81.2) r81.2).bind fun r82 =>
 (Ao r81.1 true (fa P 137 r2.1 2 r82.2) r82.2).bind fun r83 =>
 (Ao r81.1 true (ld P 3 r83.1 r83.2) r83.2).bind fun r84 =>
 (Ao r81.1 true (EV P 131 #[r82.1, r84.1] r84.2) r84.2).bind fun r85 =>
 (Az r81.1 r85.1 (.bool false) r85.2).bind fun r86 =>
 (vl r86.1 r86.2).bind fun r87 =>
 (vl r87.1 r87.2).bind fun r88 =>
 AR r88.1 (
 (ld P 84 r20.1 r88.2).bind fun r89 =>
 (fa P 137 r2.1 2 r89.2).bind fun r90 =>
 (ld P 3 r90.1 r90.2).bind fun r91 =>
 (EV P 132 #[r89.1, r91.1] r91.2).bind fun r92 =>
 (st P 84 r20.1 r92.1 r92.2).bind fun r93 =>
 AS (AK (AN #[x0, x1]) [(2, r1.1), (3, r2.1), (4, r3.1), (5, r4.1), (8, r5.1), (9, r6.1), (10, r7.1), (11, r8.1), (13, r14.1), (14, r15.1), (15, r16.1), (16, r17.1), (17, r18.1), (18, r19.1), (6, r20.1), (7, r22.1), (19, r23.1), (20, r24.1), (36, r25.1), (35, r26.1), (52, r44.1), (51, r45.1), (68, r64.1), (67, r65.1), (21, r78.1), (22, r79.1), (23, r80.1), (24, r81.1), (25, r82.1), (26, r83.1), (27, r84.1), (28, r85.1), (29, r86.1), (7, r87.1), (30, r88.1), (31, r89.1), (32, r90.1), (33, r91.1), (34, r92.1)]) r93.2) (
 AS (AK (AN #[x0, x1]) [(2, r1.1), (3, r2.1), (4, r3.1), (5, r4.1), (8, r5.1), (9, r6.1), (10, r7.1), (11, r8.1), (13, r14.1), (14, r15.1), (15, r16.1), (16, r17.1), (17, r18.1), (18, r19.1), (6, r20.1), (7, r22.1), (19, r23.1), (20, r24.1), (36, r25.1), (35, r26.1), (52, r44.1), (51, r45.1), (68, r64.1), (67, r65.1), (21, r78.1), (22, r79.1), (23, r80.1), (24, r81.1), (25, r82.1), (26, r83.1), (27, r84.1), (28, r85.1), (29, r86.1), (7, r87.1), (30, r88.1)]) r88.2))))) := by kernel_rfl
noncomputable def DO (e : Env) (w : World) : Option (Value × World) := Bt P (EV P) 116 137 (cB (cB (cB (cB (cB (Af P 116)))))) e w (Bf P (AB P 116))
noncomputable def HD (e : Env) (w : World) : Option (Value × World) := Bt P (EV P) 116 137 (cA (cB (cB (cB (cB (cB (cB (Af P 116)))))))) e w (Ay P (EV P) 116 137 (cB (cB (cB (cB (cB (cB (cB (Af P 116)))))))) (Bf P (AB P 116)))
noncomputable def CA (e : Env) (w : World) : Option (Value × World) := Bt P (EV P) 116 137 (cB (cB (cB (cB (cB (cB (cB (Af P 116)))))))) e w (Bf P (AB P 116))
noncomputable def DP (e : Env) (w : World) : Option (Value × World) := Bt P (EV P) 116 137 (cB (cB (cB (cB (cB (cB (cB (cB (Af P 116))))))))) e w (Bf P (AB P 116))
theorem Jr (e : Env) (w : World) : DO e w =
 (fa P 137 (e 3) 0 w).bind fun r1 =>
 (ld P 3 r1.1 r1.2).bind fun r2 =>
 (bo P .eql 3 (.tmp 110) (.const (.int .i64 12)) r2.1 (.int .i64 12) r2.2).bind fun r3 =>
 AR r3.1 (
 (ld P 77 (e 2) r3.2).bind fun r4 =>
 (st P 77 (e 4) r4.1 r4.2).bind fun r5 =>
 (vl (.bool true) r5.2).bind fun r6 =>
 ((ld P 77 (e 4) r6.2).bind fun r7 => Ah (r7.2 = r6.2) (some r7.1)).bind fun v8 =>
 some (.tuple #[v8, r6.1], r6.2)) (
 HD (AK e [(109, r1.1), (110, r2.1), (111, r3.1)]) r3.2) := by kernel_rfl
theorem Iw (e : Env) (w : World) {Q : Value × World → Prop} (h :
 (Ae (fa P 77 (e 2) 0 (dw w)) fun r1 => r1.2 = (dw w) ∧
 (Ae (ld P 73 r1.1 (dw w)) fun r2 => r2.2 = (dw w) ∧
 (Ae (fa P 131 (e 6) 1 (dw w)) fun r3 => r3.2 = (dw w) ∧
 (Ae (ld P 3 r3.1 (dw w)) fun r4 => r4.2 = (dw w) ∧
 (Ae (ia P 73 r2.1 r4.1 (dw w)) fun r5 => r5.2 = (dw w) ∧
 (Ae (ld P 84 r5.1 (dw w)) fun r6 => r6.2 = (dw w) ∧
 (Ae (fa P 131 (e 6) 0 (dw w)) fun r7 => r7.2 = (dw w) ∧
 (Ae (ld P 3 r7.1 (dw w)) fun r8 => r8.2 = (dw w) ∧
 (Ae (fa P 131 (e 6) 2 (dw w)) fun r9 => r9.2 = (dw w) ∧
 (Ae (ld P 3 r9.1 (dw w)) fun r10 => r10.2 = (dw w) ∧
 (Ae (fa P 131 (e 6) 3 (dw w)) fun r11 => r11.2 = (dw w) ∧
 (Ae (ld P 49 r11.1 (dw w)) fun r12 => r12.2 = (dw w) ∧
 ((Ae (EV P 133 #[r6.1, r8.1, r10.1, r12.1] (dw w)) fun r13 => (True ∧ True ∧ True ∧ True ∧ True ∧ True ∧ True ∧ True ∧ True ∧ True ∧ True ∧ True ∧ True) ∧
 (Ae (vl r13.1 r13.2) fun r14 => r14.2 = r13.2 ∧
 (Ae (xt P r14.1 0 r13.2) fun r15 => r15.2 = r13.2 ∧
 (Ae (xt P r14.1 1 r13.2) fun r16 => r16.2 = r13.2 ∧
 ((Ae (al P 84 r13.2) fun r17 => (xt P r14.1 1 r17.2 = some (r16.1, r17.2) ∧ xt P r14.1 0 r17.2 = some (r15.1, r17.2) ∧ ld P 49 r11.1 r17.2 = some (r12.1, r17.2) ∧ fa P 131 (e 6) 3 r17.2 = some (r11.1, r17.2) ∧ ld P 3 r9.1 r17.2 = some (r10.1, r17.2) ∧ fa P 131 (e 6) 2 r17.2 = some (r9.1, r17.2) ∧ ld P 3 r7.1 r17.2 = some (r8.1, r17.2) ∧ fa P 131 (e 6) 0 r17.2 = some (r7.1, r17.2) ∧ ld P 84 r5.1 r17.2 = some (r6.1, r17.2) ∧ ia P 73 r2.1 r4.1 r17.2 = some (r5.1, r17.2) ∧ ld P 3 r3.1 r17.2 = some (r4.1, r17.2) ∧ fa P 131 (e 6) 1 r17.2 = some (r3.1, r17.2) ∧ ld P 73 r1.1 r17.2 = some (r2.1, r17.2) ∧ fa P 77 (e 2) 0 r17.2 = some (r1.1, r17.2) ∧ True) ∧
 ((Ae (st P 84 r17.1 r15.1 r17.2) fun r18 => (xt P r14.1 1 r18.2 = some (r16.1, r18.2) ∧ True ∧ True ∧ True ∧ True ∧ True ∧ True ∧ True ∧ True ∧ True ∧ True ∧ True ∧ True ∧ True ∧ True) ∧
 (Ae (vl r16.1 r18.2) fun r19 => r19.2 = r18.2 ∧
 Ae (CA (AK e [(114, r1.1), (115, r2.1), (116, r3.1), (117, r4.1), (118, r5.1), (119, r6.1), (120, r7.1), (121, r8.1), (122, r9.1), (123, r10.1), (124, r11.1), (125, r12.1), (126, r13.1), (113, r14.1), (127, r15.1), (128, r16.1), (7, r17.1), (8, r19.1)]) r18.2) Q))))))))) ∧
 (Ae (al P 84 (dw w)) fun r20 => (ld P 49 r11.1 r20.2 = some (r12.1, r20.2) ∧ fa P 131 (e 6) 3 r20.2 = some (r11.1, r20.2) ∧ ld P 3 r9.1 r20.2 = some (r10.1, r20.2) ∧ fa P 131 (e 6) 2 r20.2 = some (r9.1, r20.2) ∧ ld P 3 r7.1 r20.2 = some (r8.1, r20.2) ∧ fa P 131 (e 6) 0 r20.2 = some (r7.1, r20.2) ∧ ld P 84 r5.1 r20.2 = some (r6.1, r20.2) ∧ ia P 73 r2.1 r4.1 r20.2 = some (r5.1, r20.2) ∧ ld P 3 r3.1 r20.2 = some (r4.1, r20.2) ∧ fa P 131 (e 6) 1 r20.2 = some (r3.1, r20.2) ∧ ld P 73 r1.1 r20.2 = some (r2.1, r20.2) ∧ fa P 77 (e 2) 0 r20.2 = some (r1.1, r20.2) ∧ True) ∧
 ((Ae (EV P 133 #[r6.1, r8.1, r10.1, r12.1] r20.2) fun r21 => (True ∧ True ∧ True ∧ True ∧ True ∧ True ∧ True ∧ True ∧ True ∧ True ∧ True ∧ True ∧ True) ∧
 (Ae (vl r21.1 r21.2) fun r22 => r22.2 = r21.2 ∧
 (Ae (xt P r22.1 0 r21.2) fun r23 => r23.2 = r21.2 ∧
 (Ae (xt P r22.1 1 r21.2) fun r24 => r24.2 = r21.2 ∧
 ((Ae (st P 84 r20.1 r23.1 r21.2) fun r25 => (xt P r22.1 1 r25.2 = some (r24.1, r25.2) ∧ True ∧ True ∧ True ∧ True ∧ True ∧ True ∧ True ∧ True ∧ True ∧ True ∧ True ∧ True ∧ True ∧ True) ∧
 (Ae (vl r24.1 r25.2) fun r26 => r26.2 = r25.2 ∧
 Ae (CA (AK e [(114, r1.1), (115, r2.1), (116, r3.1), (117, r4.1), (118, r5.1), (119, r6.1), (120, r7.1), (121, r8.1), (122, r9.1), (123, r10.1), (124, r11.1), (125, r12.1), (7, r20.1), (126, r21.1), (113, r22.1), (127, r23.1), (128, r24.1), (8, r26.1)]) r25.2) Q))))))))))))))))))))))) : Ae (HD e w) Q := Et (id := 13) (ops := opsOf (cA (cB (cB (cB (cB (cB (cB (Af P 116))))))))) (by kernel_rfl) (by kernel_rfl) (Eq.mpr (by kernel_rfl) h)
theorem Js (e : Env) (w : World) : CA e w =
 (vl (e 8) w).bind fun r1 =>
 AR r1.1 (
 (fa P 77 (e 2) 0 r1.2).bind fun r2 =>
 (ld P 73 r2.1 r2.2).bind fun r3 =>
 (fa P 131 (e 6) 1 r3.2).bind fun r4 =>
 (ld P 3 r4.1 r4.2).bind fun r5 =>
 (ld P 84 (e 7) r5.2).bind fun r6 =>
 (ia P 73 r3.1 r5.1 r6.2).bind fun r7 =>
 (st P 84 r7.1 r6.1 r7.2).bind fun r8 =>
 DP (AK e [(129, r1.1), (130, r2.1), (131, r3.1), (132, r4.1), (133, r5.1), (134, r6.1), (135, r7.1)]) r8.2) (
 DP (AK e [(129, r1.1)]) r1.2) := by kernel_rfl
theorem Jt (e : Env) (w : World) : DP e w =
 (ld P 77 (e 2) w).bind fun r1 =>
 (st P 77 (e 4) r1.1 r1.2).bind fun r2 =>
 (vl (.bool true) r2.2).bind fun r3 =>
 ((ld P 77 (e 4) r3.2).bind fun r4 => Ah (r4.2 = r3.2) (some r4.1)).bind fun v5 =>
 some (.tuple #[v5, r3.1], r3.2) := by kernel_rfl
theorem Mr (x0 x1 : Value) (w : World) : Br P (EV P) 116 #[x0, x1] w =
 (bx P 77 x0 w).bind fun r1 =>
 (bx P 137 x1 r1.2).bind fun r2 =>
 (al P 77 r2.2).bind fun r3 =>
 (vl (.bool false) r3.2).bind fun r4 =>
 (fa P 137 r2.1 0 r4.2).bind fun r5 =>
 (ld P 3 r5.1 r5.2).bind fun r6 =>
 (bo P .eql 3 (.tmp 10) (.const (.int .i64 10)) r6.1 (.int .i64 10) r6.2).bind fun r7 =>
 AR r7.1 (
 (fa P 137 r2.1 1 (dw r7.2)).bind fun r9 =>
 Ah (r9.2 = (dw r7.2)) <|
 (ld P 3 r9.1 (dw r7.2)).bind fun r10 =>
 Ah (r10.2 = (dw r7.2)) <|
 (EV P 37 #[r10.1, (.int .i64 0), (.int .i64 2)] (dw r7.2)).bind fun r11 =>
 Ah (True ∧ True ∧ True) <|
 (uo P .not r11.1 r11.2).bind fun r12 =>
 Ah (r12.2 = r11.2) <|
 (vl r12.1 r11.2).bind fun r13 =>
 Ah (r13.2 = r11.2) <|
 (Ao r13.1 false (fa P 137 r2.1 2 r11.2) r11.2).bind fun r14 =>
 Ah (r14.2 = r11.2) <|
 (Ao r13.1 false (ld P 3 r14.1 r11.2) r11.2).bind fun r15 =>
 Ah (r15.2 = r11.2) <|
 (Ao r13.1 false (EV P 37 #[r15.1, (.int .i64 0), (.int .i64 2)] r11.2) r11.2).bind fun r16 =>
 Ah (True ∧ True ∧ True ∧ True ∧ True ∧ True) <|
 (Ao r13.1 false (uo P .not r16.1 r16.2) r16.2).bind fun r17 =>
 Ah (r17.2 = r16.2) <|
 (Az r13.1 (.bool true) r17.1 r16.2).bind fun r18 =>
 Ah (r18.2 = r16.2) <|
 (vl r18.1 r16.2).bind fun r19 =>
 Ah (r19.2 = r16.2) <|
 (Ao r19.1 false (fa P 137 r2.1 1 r16.2) r16.2).bind fun r20 =>
 Ah (r20.2 = r16.2) <|
 (Ao r19.1 false (ld P 3 r20.1 r16.2) r16.2).bind fun r21 =>
 Ah (r21.2 = r16.2) <|
 (Ao r19.1 false (fa P 137 r2.1 2 r16.2) r16.2).bind fun r22 =>
 Ah (r22.2 = r16.2) <|
 (Ao r19.1 false (ld P 3 r22.1 r16.2) r16.2).bind fun r23 =>
 Ah (r23.2 = r16.2) <|
 (Ao r19.1 false (bo P .eql 3 (.tmp 24) (.tmp 26) r21.1 r23.1 r16.2) r16.2).bind fun r24 =>
 Ah (r24.2 = r16.2) <|
 (Az r19.1 (.bool true) r24.1 r16.2).bind fun r25 =>
 Ah (r25.2 = r16.2) <|
 (vl r25.1 r16.2).bind fun r26 =>
 Ah (r26.2 = r16.2) <|
 (Ao r26.1 false (fa P 77 r1.1 2 r16.2) r16.2).bind fun r27 =>
 Ah (r27.2 = r16.2) <|
 (Ao r26.1 false (ld P 75 r27.1 r16.2) r16.2).bind fun r28 =>
 Ah (r28.2 = r16.2) <|
 (Ao r26.1 false (Ax P #[75] 3 #[r28.1] r16.2) r16.2).bind fun r29 =>
 Ah (r29.2 = r16.2) <|
 (Ao r26.1 false (bo P .geq 3 (.tmp 32) (.const (.int .i64 12)) r29.1 (.int .i64 12) r16.2) r16.2).bind fun r30 =>
 Ah (r30.2 = r16.2) <|
 (Az r26.1 (.bool true) r30.1 r16.2).bind fun r31 =>
 Ah (r31.2 = r16.2) <|
 (vl r31.1 r16.2).bind fun r32 =>
 Ah (r32.2 = r16.2) <|
 (Ao r32.1 false (fa P 137 r2.1 3 r16.2) r16.2).bind fun r33 =>
 Ah (r33.2 = r16.2) <|
 (Ao r32.1 false (ld P 3 r33.1 r16.2) r16.2).bind fun r34 =>
 Ah (r34.2 = r16.2) <|
 (Ao r32.1 false (fa P 77 r1.1 0 r16.2) r16.2).bind fun r35 =>
 Ah (r35.2 = r16.2) <|
 (Ao r32.1 false (ld P 73 r35.1 r16.2) r16.2).bind fun r36 =>
 Ah (r36.2 = r16.2) <|
 (Ao r32.1 false (fa P 137 r2.1 1 r16.2) r16.2).bind fun r37 =>
 Ah (r37.2 = r16.2) <|
 (Ao r32.1 false (ld P 3 r37.1 r16.2) r16.2).bind fun r38 =>
 Ah (r38.2 = r16.2) <|
 (Ao r32.1 false (ia P 73 r36.1 r38.1 r16.2) r16.2).bind fun r39 =>
 Ah (r39.2 = r16.2) <|
 (Ao r32.1 false (fa P 84 r39.1 3 r16.2) r16.2).bind fun r40 =>
 Ah (r40.2 = r16.2) <|
 (Ao r32.1 false (ld P 42 r40.1 r16.2) r16.2).bind fun r41 =>
 Ah (r41.2 = r16.2) <|
 (Ao r32.1 false (Ax P #[42] 3 #[r41.1] r16.2) r16.2).bind fun r42 =>
 Ah (r42.2 = r16.2) <|
 (Ao r32.1 false (bo P .sub 3 (.tmp 45) (.const (.int .i64 1)) r42.1 (.int .i64 1) r16.2) r16.2).bind fun r43 =>
 Ah (r43.2 = r16.2) <|
 (Ao r32.1 false (EV P 37 #[r34.1, (.int .i64 0), r43.1] r16.2) r16.2).bind fun r44 =>
 Ah (True ∧ True ∧ True ∧ True ∧ True ∧ True ∧ True ∧ True ∧ True ∧ True ∧ True ∧ True ∧ True ∧ True ∧ True ∧ True ∧ True ∧ True ∧ True ∧ True ∧ True ∧ True ∧ True ∧ True ∧ True ∧ True ∧ True) <|
 (Ao r32.1 false (uo P .not r44.1 r44.2) r44.2).bind fun r45 =>
 Ah (r45.2 = r44.2) <|
 (Az r32.1 (.bool true) r45.1 r44.2).bind fun r46 =>
 Ah (r46.2 = r44.2) <|
 AR r46.1 (
 (ld P 77 r1.1 r44.2).bind fun r47 =>
 (st P 77 r3.1 r47.1 r47.2).bind fun r48 =>
 (vl (.bool false) r48.2).bind fun r49 =>
 ((ld P 77 r3.1 r49.2).bind fun r50 => Ah (r50.2 = r49.2) (some r50.1)).bind fun v51 =>
 some (.tuple #[v51, r49.1], r49.2)) (
 (fa P 77 r1.1 2 (dw r44.2)).bind fun r53 =>
 Ah (r53.2 = (dw r44.2)) <|
 (ld P 75 r53.1 (dw r44.2)).bind fun r54 =>
 Ah (r54.2 = (dw r44.2)) <|
 (fa P 137 r2.1 1 (dw r44.2)).bind fun r55 =>
 Ah (r55.2 = (dw r44.2)) <|
 (ld P 3 r55.1 (dw r44.2)).bind fun r56 =>
 Ah (r56.2 = (dw r44.2)) <|
 (fa P 137 r2.1 2 (dw r44.2)).bind fun r57 =>
 Ah (r57.2 = (dw r44.2)) <|
 (ld P 3 r57.1 (dw r44.2)).bind fun r58 =>
 Ah (r58.2 = (dw r44.2)) <|
 (fa P 137 r2.1 3 (dw r44.2)).bind fun r59 =>
 Ah (r59.2 = (dw r44.2)) <|
 (ld P 3 r59.1 (dw r44.2)).bind fun r60 =>
 Ah (r60.2 = (dw r44.2)) <|
 (fa P 77 r1.1 0 (dw r44.2)).bind fun r61 =>
 Ah (r61.2 = (dw r44.2)) <|
 (ld P 73 r61.1 (dw r44.2)).bind fun r62 =>
 Ah (r62.2 = (dw r44.2)) <|
 (fa P 137 r2.1 1 (dw r44.2)).bind fun r63 =>
 Ah (r63.2 = (dw r44.2)) <|
 (ld P 3 r63.1 (dw r44.2)).bind fun r64 =>
 Ah (r64.2 = (dw r44.2)) <|
 (ia P 73 r62.1 r64.1 (dw r44.2)).bind fun r65 =>
 Ah (r65.2 = (dw r44.2)) <|
 (fa P 84 r65.1 3 (dw r44.2)).bind fun r66 =>
 Ah (r66.2 = (dw r44.2)) <|
 (ld P 42 r66.1 (dw r44.2)).bind fun r67 =>
 Ah (r67.2 = (dw r44.2)) <|
 (fa P 137 r2.1 3 (dw r44.2)).bind fun r68 =>
 Ah (r68.2 = (dw r44.2)) <|
 (ld P 3 r68.1 (dw r44.2)).bind fun r69 =>
 Ah (r69.2 = (dw r44.2)) <|
 (ia P 42 r67.1 r69.1 (dw r44.2)).bind fun r70 =>
 Ah (r70.2 = (dw r44.2)) <|
 (ld P 49 r70.1 (dw r44.2)).bind fun r71 =>
 Ah (r71.2 = (dw r44.2)) <|
 (EV P 98 #[r71.1] (dw r44.2)).bind fun r72 =>
 Ah (True ∧ True ∧ True ∧ True ∧ True ∧ True ∧ True ∧ True ∧ True ∧ True ∧ True ∧ ld P 3 r59.1 r72.2 = some (r60.1, r72.2) ∧ fa P 137 r2.1 3 r72.2 = some (r59.1, r72.2) ∧ ld P 3 r57.1 r72.2 = some (r58.1, r72.2) ∧ fa P 137 r2.1 2 r72.2 = some (r57.1, r72.2) ∧ ld P 3 r55.1 r72.2 = some (r56.1, r72.2) ∧ fa P 137 r2.1 1 r72.2 = some (r55.1, r72.2) ∧ ld P 75 r53.1 r72.2 = some (r54.1, r72.2) ∧ fa P 77 r1.1 2 r72.2 = some (r53.1, r72.2) ∧ True) <|
 (bd P 131 #[(0, r56.1), (1, r58.1), (2, r60.1), (3, r72.1)] r72.2).bind fun r73 =>
 Ah (r73.2 = r72.2) <|
 (bs P 75 1 #[(0, r73.1)] r72.2).bind fun r74 =>
 Ah (True ∧ True ∧ True ∧ True ∧ True ∧ True ∧ True ∧ True ∧ True ∧ True ∧ True ∧ True ∧ True ∧ True ∧ True ∧ True ∧ True ∧ True ∧ ld P 75 r53.1 r74.2 = some (r54.1, r74.2) ∧ fa P 77 r1.1 2 r74.2 = some (r53.1, r74.2) ∧ True) <|
 (Au P #[75, 75] 75 #[r54.1, r74.1] r74.2).bind fun r75 =>
 Ah (True ∧ True ∧ True ∧ True ∧ True ∧ True ∧ True ∧ True ∧ True ∧ True ∧ True ∧ True ∧ True ∧ True ∧ True ∧ True ∧ True ∧ True ∧ True ∧ True ∧ True) <|
 (fa P 77 r1.1 2 r75.2).bind fun r76 =>
 Ah (r76.2 = r75.2) <|
 (st P 75 r76.1 r75.1 r75.2).bind fun r77 =>
 Ah (True ∧ True ∧ True ∧ True ∧ True ∧ True ∧ True ∧ True ∧ True ∧ True ∧ True ∧ True ∧ True ∧ True ∧ True ∧ True ∧ True ∧ True ∧ True ∧ True ∧ True ∧ True) <|
 (ld P 77 r1.1 r77.2).bind fun r78 =>
 (st P 77 r3.1 r78.1 r78.2).bind fun r79 =>
 (vl (.bool true) r79.2).bind fun r80 =>
 ((ld P 77 r3.1 r80.2).bind fun r81 => Ah (r81.2 = r80.2) (some r81.1)).bind fun v82 =>
 some (.tuple #[v82, r80.1], r80.2))) (
 (fa P 137 r2.1 1 r7.2).bind fun r83 =>
 (ld P 3 r83.1 r83.2).bind fun r84 =>
 (fa P 77 r1.1 2 r84.2).bind fun r85 =>
 (ld P 75 r85.1 r85.2).bind fun r86 =>
 (Ax P #[75] 3 #[r86.1] r86.2).bind fun r87 =>
 (bo P .sub 3 (.tmp 80) (.const (.int .i64 1)) r87.1 (.int .i64 1) r87.2).bind fun r88 =>
 (EV P 37 #[r84.1, (.int .i64 0), r88.1] r88.2).bind fun r89 =>
 (uo P .not r89.1 r89.2).bind fun r90 =>
 AR r90.1 (
 (ld P 77 r1.1 r90.2).bind fun r91 =>
 (st P 77 r3.1 r91.1 r91.2).bind fun r92 =>
 (vl (.bool false) r92.2).bind fun r93 =>
 ((ld P 77 r3.1 r93.2).bind fun r94 => Ah (r94.2 = r93.2) (some r94.1)).bind fun v95 =>
 some (.tuple #[v95, r93.1], r93.2)) (
 (fa P 77 r1.1 2 r90.2).bind fun r96 =>
 (ld P 75 r96.1 r96.2).bind fun r97 =>
 (fa P 137 r2.1 1 r97.2).bind fun r98 =>
 (ld P 3 r98.1 r98.2).bind fun r99 =>
 (ia P 75 r97.1 r99.1 r99.2).bind fun r100 =>
 (ld P 131 r100.1 r100.2).bind fun r101 =>
 (al P 131 r101.2).bind fun r102 =>
 (st P 131 r102.1 r101.1 r102.2).bind fun r103 =>
 (fa P 137 r2.1 0 r103.2).bind fun r104 =>
 (ld P 3 r104.1 r104.2).bind fun r105 =>
 (bo P .neq 3 (.tmp 92) (.const (.int .i64 13)) r105.1 (.int .i64 13) r105.2).bind fun r106 =>
 AR r106.1 (
 (fa P 77 r1.1 2 (dw r106.2)).bind fun r108 =>
 Ah (r108.2 = (dw r106.2)) <|
 (ld P 75 r108.1 (dw r106.2)).bind fun r109 =>
 Ah (r109.2 = (dw r106.2)) <|
 (fa P 137 r2.1 1 (dw r106.2)).bind fun r110 =>
 Ah (r110.2 = (dw r106.2)) <|
 (ld P 3 r110.1 (dw r106.2)).bind fun r111 =>
 Ah (r111.2 = (dw r106.2)) <|
 (sl P 75 r109.1 none (some r111.1) none (dw r106.2)).bind fun r112 =>
 Ah (r112.2 = (dw r106.2)) <|
 (fa P 77 r1.1 2 (dw r106.2)).bind fun r113 =>
 Ah (r113.2 = (dw r106.2)) <|
 (ld P 75 r113.1 (dw r106.2)).bind fun r114 =>
 Ah (r114.2 = (dw r106.2)) <|
 (fa P 137 r2.1 1 (dw r106.2)).bind fun r115 =>
 Ah (r115.2 = (dw r106.2)) <|
 (ld P 3 r115.1 (dw r106.2)).bind fun r116 =>
 Ah (r116.2 = (dw r106.2)) <|
 (bo P .add 3 (.tmp 104) (.const (.int .i64 1)) r116.1 (.int .i64 1) (dw r106.2)).bind fun r117 =>
 Ah (r117.2 = (dw r106.2)) <|
 (sl P 75 r114.1 (some r117.1) none none (dw r106.2)).bind fun r118 =>
 Ah (r118.2 = (dw r106.2)) <|
 (bs P 75 0 #[] (dw r106.2)).bind fun r119 =>
 Ah (sl P 75 r114.1 (some r117.1) none none r119.2 = some (r118.1, r119.2) ∧ bo P .add 3 (.tmp 104) (.const (.int .i64 1)) r116.1 (.int .i64 1) r119.2 = some (r117.1, r119.2) ∧ ld P 3 r115.1 r119.2 = some (r116.1, r119.2) ∧ fa P 137 r2.1 1 r119.2 = some (r115.1, r119.2) ∧ ld P 75 r113.1 r119.2 = some (r114.1, r119.2) ∧ fa P 77 r1.1 2 r119.2 = some (r113.1, r119.2) ∧ sl P 75 r109.1 none (some r111.1) none r119.2 = some (r112.1, r119.2) ∧ ld P 3 r110.1 r119.2 = some (r111.1, r119.2) ∧ fa P 137 r2.1 1 r119.2 = some (r110.1, r119.2) ∧ ld P 75 r108.1 r119.2 = some (r109.1, r119.2) ∧ fa P 77 r1.1 2 r119.2 = some (r108.1, r119.2) ∧ True) <|
 (Au P #[75, 75] 75 #[r119.1, r112.1] r119.2).bind fun r120 =>
 Ah (sl P 75 r114.1 (some r117.1) none none r120.2 = some (r118.1, r120.2) ∧ bo P .add 3 (.tmp 104) (.const (.int .i64 1)) r116.1 (.int .i64 1) r120.2 = some (r117.1, r120.2) ∧ ld P 3 r115.1 r120.2 = some (r116.1, r120.2) ∧ fa P 137 r2.1 1 r120.2 = some (r115.1, r120.2) ∧ ld P 75 r113.1 r120.2 = some (r114.1, r120.2) ∧ fa P 77 r1.1 2 r120.2 = some (r113.1, r120.2) ∧ True ∧ True ∧ True ∧ True ∧ True ∧ True) <|
 (Au P #[75, 75] 75 #[r120.1, r118.1] r120.2).bind fun r121 =>
 Ah (True ∧ True ∧ True ∧ True ∧ True ∧ True ∧ True ∧ True ∧ True ∧ True ∧ True ∧ True) <|
 (fa P 77 r1.1 2 r121.2).bind fun r122 =>
 Ah (r122.2 = r121.2) <|
 (st P 75 r122.1 r121.1 r121.2).bind fun r123 =>
 Ah (True ∧ True ∧ True ∧ True ∧ True ∧ True ∧ True ∧ True ∧ True ∧ True ∧ True ∧ True ∧ True) <|
 DO (AK (AN #[x0, x1]) [(2, r1.1), (3, r2.1), (4, r3.1), (5, r4.1), (9, r5.1), (10, r6.1), (11, r7.1), (76, r83.1), (77, r84.1), (78, r85.1), (79, r86.1), (80, r87.1), (81, r88.1), (82, r89.1), (83, r90.1), (85, r96.1), (86, r97.1), (87, r98.1), (88, r99.1), (89, r100.1), (90, r101.1), (6, r102.1), (91, r104.1), (92, r105.1), (93, r106.1), (95, r108.1), (96, r109.1), (97, r110.1), (98, r111.1), (99, r112.1), (101, r113.1), (102, r114.1), (103, r115.1), (104, r116.1), (105, r117.1), (106, r118.1), (94, r119.1), (100, r120.1), (107, r121.1), (108, r122.1)]) r123.2) (
 DO (AK (AN #[x0, x1]) [(2, r1.1), (3, r2.1), (4, r3.1), (5, r4.1), (9, r5.1), (10, r6.1), (11, r7.1), (76, r83.1), (77, r84.1), (78, r85.1), (79, r86.1), (80, r87.1), (81, r88.1), (82, r89.1), (83, r90.1), (85, r96.1), (86, r97.1), (87, r98.1), (88, r99.1), (89, r100.1), (90, r101.1), (6, r102.1), (91, r104.1), (92, r105.1), (93, r106.1)]) r106.2))) := by kernel_rfl
theorem J7 (x0 : Value) (w : World) : Br P (EV P) 117 #[x0] w =
 (vl (Go.Value.string { data := #[] }) w).bind fun r1 =>
 (vl x0 r1.2).bind fun r2 =>
 (bs P 140 8 #[(0, (Go.Value.string { data := #[] })), (1, (Go.Value.string { data := #[97] })), (2, (Go.Value.string { data := #[98] })), (3, (Go.Value.string { data := #[120, 35, 49] })), (4, (Go.Value.string { data := #[61] })), (5, (Go.Value.string { data := #[45] })), (6, (Go.Value.string { data := #[108, 111, 110, 103, 116, 101, 120, 116] })), (7, (Go.Value.string { data := #[122, 122] }))] r2.2).bind fun r3 =>
 (EV P 104 #[r2.1, r3.1] r3.2).bind fun r4 =>
 (vl r4.1 r4.2).bind fun r5 =>
 some (r5.1, r5.2) := by kernel_rfl
noncomputable def BK (e : Env) (w : World) : Option (Value × World) := Bt P (EV P) 119 25 (.loop (cA (cA (cB (cA (cB (cB (Af P 119)))))))) e w (Al 0 (Ay P (EV P) 119 25 (cB (cB (cB (Af P 119)))) (Bf P (AB P 119))))
theorem C7 (e : Env) (w : World) : BK e w =
 (vl (e 4) w).bind fun r1 =>
 (fa P 44 (e 1) 0 r1.2).bind fun r2 =>
 (ld P 42 r2.1 r2.2).bind fun r3 =>
 (Ax P #[42] 3 #[r3.1] r3.2).bind fun r4 =>
 (bo P .lss 3 (.tmp 6) (.tmp 9) r1.1 r4.1 r4.2).bind fun r5 =>
 AR r5.1 (
 (fa P 44 (e 3) 0 (dw r5.2)).bind fun r7 =>
 Ah (r7.2 = (dw r5.2)) <|
 (ld P 42 r7.1 (dw r5.2)).bind fun r8 =>
 Ah (r8.2 = (dw r5.2)) <|
 (fa P 44 (e 1) 0 (dw r5.2)).bind fun r9 =>
 Ah (r9.2 = (dw r5.2)) <|
 (ld P 42 r9.1 (dw r5.2)).bind fun r10 =>
 Ah (r10.2 = (dw r5.2)) <|
 (vl (e 4) (dw r5.2)).bind fun r11 =>
 Ah (r11.2 = (dw r5.2)) <|
 (ia P 42 r10.1 r11.1 (dw r5.2)).bind fun r12 =>
 Ah (r12.2 = (dw r5.2)) <|
 (ld P 49 r12.1 (dw r5.2)).bind fun r13 =>
 Ah (r13.2 = (dw r5.2)) <|
 (EV P 98 #[r13.1] (dw r5.2)).bind fun r14 =>
 Ah (True ∧ True ∧ True ∧ True ∧ ld P 42 r7.1 r14.2 = some (r8.1, r14.2) ∧ fa P 44 (e 3) 0 r14.2 = some (r7.1, r14.2) ∧ True) <|
 (bs P 42 1 #[(0, r14.1)] r14.2).bind fun r15 =>
 Ah (True ∧ True ∧ True ∧ True ∧ ld P 42 r7.1 r15.2 = some (r8.1, r15.2) ∧ fa P 44 (e 3) 0 r15.2 = some (r7.1, r15.2) ∧ True) <|
 (Au P #[42, 42] 42 #[r8.1, r15.1] r15.2).bind fun r16 =>
 Ah (True ∧ True ∧ True ∧ True ∧ True ∧ True ∧ True) <|
 (fa P 44 (e 3) 0 r16.2).bind fun r17 =>
 Ah (r17.2 = r16.2) <|
 (st P 42 r17.1 r16.1 r16.2).bind fun r18 =>
 Ah (True ∧ True ∧ True ∧ True ∧ True ∧ True ∧ True ∧ True) <|
 (vl (e 4) r18.2).bind fun r19 =>
 (bo P .add 3 (.tmp 11) (.const (.int .i64 1)) r19.1 (.int .i64 1) r19.2).bind fun r20 =>
 (vl r20.1 r20.2).bind fun r21 =>
 BK (AK e [(6, r1.1), (7, r2.1), (8, r3.1), (9, r4.1), (10, r5.1), (13, r7.1), (14, r8.1), (15, r9.1), (16, r10.1), (17, r11.1), (18, r12.1), (19, r13.1), (20, r14.1), (21, r15.1), (22, r16.1), (23, r17.1), (11, r19.1), (12, r20.1), (4, r21.1)]) r21.2) (
 (ld P 44 (e 3) r5.2).bind fun r22 =>
 (st P 44 (e 2) r22.1 r22.2).bind fun r23 =>
 ((ld P 44 (e 2) r23.2).bind fun r24 => Ah (r24.2 = r23.2) (some r24.1)).bind fun v25 =>
 some (v25, r23.2)) := (AA P (EV P) 119 25 (cA (cA (cB (cA (cB (cB (Af P 119))))))) e w (Al 0 (Ay P (EV P) 119 25 (cB (cB (cB (Af P 119)))) (Bf P (AB P 119))))).trans (by kernel_rfl)
theorem Hw (x0 : Value) (w : World) : Br P (EV P) 119 #[x0] w =
 (bx P 44 x0 w).bind fun r1 =>
 (al P 44 r1.2).bind fun r2 =>
 (bd P 44 #[] r2.2).bind fun r3 =>
 (al P 44 r3.2).bind fun r4 =>
 (st P 44 r4.1 r3.1 r4.2).bind fun r5 =>
 (vl (.int .i64 0) r5.2).bind fun r6 =>
 BK (AK (AN #[x0]) [(1, r1.1), (2, r2.1), (5, r3.1), (3, r4.1), (4, r6.1)]) r6.2 := by kernel_rfl
noncomputable def Ct (e : Env) (w : World) : Option (Value × World) := Bt P (EV P) 120 23 (.loop (cA (cA (cB (cA (cB (cB (cB (Af P 120))))))))) e w (Al 0 (Ay P (EV P) 120 23 (cB (cB (cB (cB (Af P 120))))) (Bf P (AB P 120))))
theorem Ek (e : Env) (w : World) : Ct e w =
 (vl (e 4) w).bind fun r1 =>
 (vl (e 0) r1.2).bind fun r2 =>
 (bo P .lss 3 (.tmp 10) (.tmp 11) r1.1 r2.1 r2.2).bind fun r3 =>
 AR r3.1 (
 (fa P 81 (e 3) 0 (dw r3.2)).bind fun r5 =>
 Ah (r5.2 = (dw r3.2)) <|
 (ld P 79 r5.1 (dw r3.2)).bind fun r6 =>
 Ah (r6.2 = (dw r3.2)) <|
 (EV P 101 #[] (dw r3.2)).bind fun r7 =>
 Ah (ld P 79 r5.1 r7.2 = some (r6.1, r7.2) ∧ fa P 81 (e 3) 0 r7.2 = some (r5.1, r7.2) ∧ True) <|
 (bd P 86 #[(0, r7.1)] r7.2).bind fun r8 =>
 Ah (r8.2 = r7.2) <|
 (bs P 79 1 #[(0, r8.1)] r7.2).bind fun r9 =>
 Ah (True ∧ ld P 79 r5.1 r9.2 = some (r6.1, r9.2) ∧ fa P 81 (e 3) 0 r9.2 = some (r5.1, r9.2) ∧ True) <|
 (Au P #[79, 79] 79 #[r6.1, r9.1] r9.2).bind fun r10 =>
 Ah (True ∧ True ∧ True ∧ True) <|
 (fa P 81 (e 3) 0 r10.2).bind fun r11 =>
 Ah (r11.2 = r10.2) <|
 (st P 79 r11.1 r10.1 r10.2).bind fun r12 =>
 Ah (True ∧ True ∧ True ∧ True ∧ True) <|
 (vl (e 4) r12.2).bind fun r13 =>
 (bo P .add 3 (.tmp 13) (.const (.int .i64 1)) r13.1 (.int .i64 1) r13.2).bind fun r14 =>
 (vl r14.1 r14.2).bind fun r15 =>
 Ct (AK e [(10, r1.1), (11, r2.1), (12, r3.1), (15, r5.1), (16, r6.1), (17, r7.1), (18, r8.1), (19, r9.1), (20, r10.1), (21, r11.1), (13, r13.1), (14, r14.1), (4, r15.1)]) r15.2) (
 (ld P 81 (e 3) r3.2).bind fun r16 =>
 (st P 81 (e 2) r16.1 r16.2).bind fun r17 =>
 ((ld P 81 (e 2) r17.2).bind fun r18 => Ah (r18.2 = r17.2) (some r18.1)).bind fun v19 =>
 some (v19, r17.2)) := (AA P (EV P) 120 23 (cA (cA (cB (cA (cB (cB (cB (Af P 120)))))))) e w (Al 0 (Ay P (EV P) 120 23 (cB (cB (cB (cB (Af P 120))))) (Bf P (AB P 120))))).trans (by kernel_rfl)
theorem Ju (x0 : Value) (w : World) : Br P (EV P) 120 #[x0] w =
 (al P 81 w).bind fun r1 =>
 (bd P 81 #[] r1.2).bind fun r2 =>
 (al P 81 r2.2).bind fun r3 =>
 (st P 81 r3.1 r2.1 r3.2).bind fun r4 =>
 (vl x0 r4.2).bind fun r5 =>
 (EV P 37 #[r5.1, (.int .i64 1), (.int .i64 4)] r5.2).bind fun r6 =>
 (uo P .not r6.1 r6.2).bind fun r7 =>
 AR r7.1 (
 (ld P 81 r3.1 r7.2).bind fun r8 =>
 (st P 81 r1.1 r8.1 r8.2).bind fun r9 =>
 ((ld P 81 r1.1 r9.2).bind fun r10 => Ah (r10.2 = r9.2) (some r10.1)).bind fun v11 =>
 some (v11, r9.2)) (
 (vl (.int .i64 0) r7.2).bind fun r12 =>
 Ct (AK (AN #[x0]) [(2, r1.1), (5, r2.1), (3, r3.1), (6, r5.1), (7, r6.1), (8, r7.1), (4, r12.1)]) r12.2) := by kernel_rfl
theorem J8 (x0 x1 : Value) (w : World) : Br P (EV P) 121 #[x0, x1] w =
 (bx P 77 x0 w).bind fun r1 =>
 (bx P 137 x1 r1.2).bind fun r2 =>
 (al P 77 r2.2).bind fun r3 =>
 (vl (.bool false) r3.2).bind fun r4 =>
 (fa P 77 r1.1 1 r4.2).bind fun r5 =>
 (ld P 74 r5.1 r5.2).bind fun r6 =>
 (fa P 137 r2.1 1 r6.2).bind fun r7 =>
 (ld P 3 r7.1 r7.2).bind fun r8 =>
 (ia P 74 r6.1 r8.1 r8.2).bind fun r9 =>
 (ld P 129 r9.1 r9.2).bind fun r10 =>
 (al P 129 r10.2).bind fun r11 =>
 (st P 129 r11.1 r10.1 r11.2).bind fun r12 =>
 (fa P 77 r1.1 0 r12.2).bind fun r13 =>
 (ld P 73 r13.1 r13.2).bind fun r14 =>
 (fa P 129 r11.1 0 r14.2).bind fun r15 =>
 (ld P 3 r15.1 r15.2).bind fun r16 =>
 (ia P 73 r14.1 r16.1 r16.2).bind fun r17 =>
 (ld P 84 r17.1 r17.2).bind fun r18 =>
 (al P 84 r18.2).bind fun r19 =>
 (st P 84 r19.1 r18.1 r19.2).bind fun r20 =>
 (fa P 129 r11.1 2 r20.2).bind fun r21 =>
 (fa P 36 r21.1 0 r21.2).bind fun r22 =>
 (ld P 3 r22.1 r22.2).bind fun r23 =>
 (bo P .gtr 3 (.tmp 24) (.const (.int .i64 0)) r23.1 (.int .i64 0) r23.2).bind fun r24 =>
 (vl r24.1 r24.2).bind fun r25 =>
 (Ao r25.1 false (fa P 137 r2.1 3 r25.2) r25.2).bind fun r26 =>
 (Ao r25.1 false (ld P 3 r26.1 r26.2) r26.2).bind fun r27 =>
 (Ao r25.1 false (EV P 37 #[r27.1, (.int .i64 0), (.int .i64 3)] r27.2) r27.2).bind fun r28 =>
 (Ao r25.1 false (uo P .not r28.1 r28.2) r28.2).bind fun r29 =>
 (Az r25.1 (.bool true) r29.1 r29.2).bind fun r30 =>
 (vl r30.1 r30.2).bind fun r31 =>
 (Ao r31.1 false (fa P 137 r2.1 4 r31.2) r31.2).bind fun r32 =>
 (Ao r31.1 false (ld P 9 r32.1 r32.2) r32.2).bind fun r33 =>
 (Ao r31.1 false (EV P 107 #[r33.1] r33.2) r33.2).bind fun r34 =>
 (Ao r31.1 false (uo P .not r34.1 r34.2) r34.2).bind fun r35 =>
 (Az r31.1 (.bool true) r35.1 r35.2).bind fun r36 =>
 (vl r36.1 r36.2).bind fun r37 =>
 (Ao r37.1 false (fa P 137 r2.1 5 r37.2) r37.2).bind fun r38 =>
 (Ao r37.1 false (ld P 4 r38.1 r38.2) r38.2).bind fun r39 =>
 (Ao r37.1 false (vl r39.1 r39.2) r39.2).bind fun r40 =>
 (Ao r40.1 true (fa P 137 r2.1 4 r40.2) r40.2).bind fun r41 =>
 (Ao r40.1 true (ld P 9 r41.1 r41.2) r41.2).bind fun r42 =>
 (Ao r40.1 true (bo P .neq 9 (.tmp 43) (.const (Go.Value.string { data := #[] })) r42.1 (Go.Value.string { data := #[] }) r42.2) r42.2).bind fun r43 =>
 (Ao r37.1 false (Az r40.1 r43.1 (.bool false) r43.2) r43.2).bind fun r44 =>
 (Az r37.1 (.bool true) r44.1 r44.2).bind fun r45 =>
 (vl r45.1 r45.2).bind fun r46 =>
 (Ao r46.1 false (ld P 84 r19.1 r46.2) r46.2).bind fun r47 =>
 (Ao r46.1 false (fa P 129 r11.1 1 r47.2) r47.2).bind fun r48 =>
 (Ao r46.1 false (ld P 32 r48.1 r48.2) r48.2).bind fun r49 =>
 (Ao r46.1 false (EV P 134 #[r47.1, r49.1] r49.2) r49.2).bind fun r50 =>
 (Ao r46.1 false (uo P .not r50.1 r50.2) r50.2).bind fun r51 =>
 (Az r46.1 (.bool true) r51.1 r51.2).bind fun r52 =>
 (vl r52.1 r52.2).bind fun r53 =>
 (Ao r53.1 false (fa P 77 r1.1 3 r53.2) r53.2).bind fun r54 =>
 (Ao r53.1 false (ld P 23 r54.1 r54.2) r54.2).bind fun r55 =>
 (Ao r53.1 false (Ax P #[23] 3 #[r55.1] r55.2) r55.2).bind fun r56 =>
 (Ao r53.1 false (bo P .geq 3 (.tmp 57) (.const (.int .i64 80)) r56.1 (.int .i64 80) r56.2) r56.2).bind fun r57 =>
 (Az r53.1 (.bool true) r57.1 r57.2).bind fun r58 =>
 AR r58.1 (
 (ld P 77 r1.1 r58.2).bind fun r59 =>
 (st P 77 r3.1 r59.1 r59.2).bind fun r60 =>
 (vl (.bool false) r60.2).bind fun r61 =>
 ((ld P 77 r3.1 r61.2).bind fun r62 => Ah (r62.2 = r61.2) (some r62.1)).bind fun v63 =>
 some (.tuple #[v63, r61.1], r61.2)) (
 (ld P 84 r19.1 r58.2).bind fun r64 =>
 (fa P 137 r2.1 3 r64.2).bind fun r65 =>
 (ld P 3 r65.1 r65.2).bind fun r66 =>
 (fa P 137 r2.1 4 r66.2).bind fun r67 =>
 (ld P 9 r67.1 r67.2).bind fun r68 =>
 (fa P 137 r2.1 5 r68.2).bind fun r69 =>
 (ld P 4 r69.1 r69.2).bind fun r70 =>
 (fa P 129 r11.1 1 r70.2).bind fun r71 =>
 (ld P 32 r71.1 r71.2).bind fun r72 =>
 (EV P 135 #[r64.1, r66.1, r68.1, r70.1, r72.1] r72.2).bind fun r73 =>
 (vl r73.1 r73.2).bind fun r74 =>
 (xt P r74.1 0 r74.2).bind fun r75 =>
 (xt P r74.1 1 r75.2).bind fun r76 =>
 (al P 84 r76.2).bind fun r77 =>
 (al P 36 r77.2).bind fun r78 =>
 (st P 84 r77.1 r75.1 r78.2).bind fun r79 =>
 (st P 36 r78.1 r76.1 r79.2).bind fun r80 =>
 (fa P 77 r1.1 0 r80.2).bind fun r81 =>
 (ld P 73 r81.1 r81.2).bind fun r82 =>
 (fa P 129 r11.1 0 r82.2).bind fun r83 =>
 (ld P 3 r83.1 r83.2).bind fun r84 =>
 (ld P 84 r77.1 r84.2).bind fun r85 =>
 (ia P 73 r82.1 r84.1 r85.2).bind fun r86 =>
 (st P 84 r86.1 r85.1 r86.2).bind fun r87 =>
 (fa P 77 r1.1 1 r87.2).bind fun r88 =>
 (ld P 74 r88.1 r88.2).bind fun r89 =>
 (fa P 137 r2.1 1 r89.2).bind fun r90 =>
 (ld P 3 r90.1 r90.2).bind fun r91 =>
 (ld P 36 r78.1 r91.2).bind fun r92 =>
 (ia P 74 r89.1 r91.1 r92.2).bind fun r93 =>
 (fa P 129 r93.1 2 r93.2).bind fun r94 =>
 (st P 36 r94.1 r92.1 r94.2).bind fun r95 =>
 (fa P 77 r1.1 1 r95.2).bind fun r96 =>
 (ld P 74 r96.1 r96.2).bind fun r97 =>
 (fa P 137 r2.1 1 r97.2).bind fun r98 =>
 (ld P 3 r98.1 r98.2).bind fun r99 =>
 (fa P 137 r2.1 3 r99.2).bind fun r100 =>
 (ld P 3 r100.1 r100.2).bind fun r101 =>
 (ia P 74 r97.1 r99.1 r101.2).bind fun r102 =>
 (fa P 129 r102.1 3 r102.2).bind fun r103 =>
 (st P 3 r103.1 r101.1 r103.2).bind fun r104 =>
 (ld P 77 r1.1 r104.2).bind fun r105 =>
 (fa P 137 r2.1 1 r105.2).bind fun r106 =>
 (ld P 3 r106.1 r106.2).bind fun r107 =>
 (fa P 137 r2.1 3 r107.2).bind fun r108 =>
 (ld P 3 r108.1 r108.2).bind fun r109 =>
 (ld P 36 r78.1 r109.2).bind fun r110 =>
 (EV P 136 #[r105.1, r107.1, (.int .i64 1), r109.1, r110.1] r110.2).bind fun r111 =>
 (st P 77 r3.1 r111.1 r111.2).bind fun r112 =>
 (vl (.bool true) r112.2).bind fun r113 =>
 ((ld P 77 r3.1 r113.2).bind fun r114 => Ah (r114.2 = r113.2) (some r114.1)).bind fun v115 =>
 some (.tuple #[v115, r113.1], r113.2)) := by kernel_rfl
end Go.Proofs.YtjhhommnkaemlaaGreat.X
