/- A part of the proof: an evaluator of the model, its laws, and contracts of functions; no condition. -/
import Derived.Test.YtjagkbamkohnoaaEvT
set_option linter.unusedVariables false
set_option maxRecDepth 100000
namespace Go.Proofs.Ytjagkbamkohnoaa.X
open Go Go.Ev
theorem impl_TagLess_fn (x0 x1 : Value) (w : World) : fnC P (EV P) 73 #[x0, x1] w =
 (bx P 27 x0 w).bind fun r1 =>
 (bx P 27 x1 r1.2).bind fun r2 =>
 (vl (.bool false) r2.2).bind fun r3 =>
 (ld P 27 r1.1 r3.2).bind fun r4 =>
 (ld P 27 r2.1 r4.2).bind fun r5 =>
 (EV P 107 #[r4.1, r5.1] r5.2).bind fun r6 =>
 (bo P .lss 3 (.tmp 7) (.const (.int .i64 0)) r6.1 (.int .i64 0) r6.2).bind fun r7 =>
 (vl r7.1 r7.2).bind fun r8 =>
 some (r8.1, r8.2) := by kernel_rfl
noncomputable def impl_Past_join_l1 (e : Env) (w : World) : Option (Value × World) := exC P (EV P) 74 31 (.loop (cA (cA (cB (cA (cB (cB (bodyOf P 74)))))))) e w (kBlock 0 (kSeq P (EV P) 74 31 (cB (cB (cB (bodyOf P 74)))) (kFn P (fnOf P 74))))
theorem impl_Past_join_l1_eq (e : Env) (w : World) : impl_Past_join_l1 e w =
 (bo P .lss 3 (.tmp 13) (.tmp 12) (e 13) (e 12) w).bind fun r1 =>
 cnd r1.1 (
 (vl (e 13) r1.2).bind fun r2 =>
 (ia P 28 (e 11) (e 13) r2.2).bind fun r3 =>
 (ld P 27 r3.1 r3.2).bind fun r4 =>
 (al P 27 r4.2).bind fun r5 =>
 (vl r2.1 r5.2).bind fun r6 =>
 (st P 27 r5.1 r4.1 r6.2).bind fun r7 =>
 (fa P 30 (e 5) 0 (dw r7.2)).bind fun r9 =>
 ifP (r9.2 = (dw r7.2)) <|
 (ld P 28 r9.1 (dw r7.2)).bind fun r10 =>
 ifP (r10.2 = (dw r7.2)) <|
 (vl r6.1 (dw r7.2)).bind fun r11 =>
 ifP (r11.2 = (dw r7.2)) <|
 (fa P 30 (e 5) 0 (dw r7.2)).bind fun r12 =>
 ifP (r12.2 = (dw r7.2)) <|
 (ld P 28 r12.1 (dw r7.2)).bind fun r13 =>
 ifP (r13.2 = (dw r7.2)) <|
 (vl r6.1 (dw r7.2)).bind fun r14 =>
 ifP (r14.2 = (dw r7.2)) <|
 (ia P 28 r13.1 r14.1 (dw r7.2)).bind fun r15 =>
 ifP (r15.2 = (dw r7.2)) <|
 (ld P 27 r15.1 (dw r7.2)).bind fun r16 =>
 ifP (r16.2 = (dw r7.2)) <|
 (ld P 27 r5.1 (dw r7.2)).bind fun r17 =>
 ifP (r17.2 = (dw r7.2)) <|
 (EV P 25 #[r16.1, r17.1] (dw r7.2)).bind fun r18 =>
 ifP (True ∧ True ∧ True ∧ True ∧ True ∧ ld P 28 r9.1 r18.2 = some (r10.1, r18.2) ∧ fa P 30 (e 5) 0 r18.2 = some (r9.1, r18.2) ∧ True) <|
 (ia P 28 r10.1 r11.1 r18.2).bind fun r19 =>
 ifP (r19.2 = r18.2) <|
 (st P 27 r19.1 r18.1 r18.2).bind fun r20 =>
 ifP (True ∧ True ∧ True ∧ True ∧ True ∧ True ∧ True ∧ True ∧ True) <|
 (bo P .add 3 (.tmp 13) (.const (.int .i64 1)) (e 13) (.int .i64 1) r20.2).bind fun r21 =>
 (vl r21.1 r21.2).bind fun r22 =>
 impl_Past_join_l1 (ups e [(14, r1.1), (15, r2.1), (16, r3.1), (17, r4.1), (7, r5.1), (6, r6.1), (18, r9.1), (19, r10.1), (20, r11.1), (21, r12.1), (22, r13.1), (23, r14.1), (24, r15.1), (25, r16.1), (26, r17.1), (27, r18.1), (28, r19.1), (29, r21.1), (13, r22.1)]) r22.2) (
 (ld P 30 (e 5) r1.2).bind fun r23 =>
 (st P 30 (e 4) r23.1 r23.2).bind fun r24 =>
 ((ld P 30 (e 4) r24.2).bind fun r25 => ifP (r25.2 = r24.2) (some r25.1)).bind fun v26 =>
 some (v26, r24.2)) := (exC_loop P (EV P) 74 31 (cA (cA (cB (cA (cB (cB (bodyOf P 74))))))) e w (kBlock 0 (kSeq P (EV P) 74 31 (cB (cB (cB (bodyOf P 74)))) (kFn P (fnOf P 74))))).trans (by kernel_rfl)
theorem impl_Past_join_fn (x0 x1 : Value) (w : World) : fnC P (EV P) 74 #[x0, x1] w =
 (bx P 30 x0 w).bind fun r1 =>
 (bx P 30 x1 r1.2).bind fun r2 =>
 (al P 30 r2.2).bind fun r3 =>
 (ld P 30 r1.1 r3.2).bind fun r4 =>
 (EV P 102 #[r4.1] r4.2).bind fun r5 =>
 (al P 30 r5.2).bind fun r6 =>
 (st P 30 r6.1 r5.1 r6.2).bind fun r7 =>
 (fa P 30 r2.1 0 r7.2).bind fun r8 =>
 (ld P 28 r8.1 r8.2).bind fun r9 =>
 (b_len P #[28] 3 #[r9.1] r9.2).bind fun r10 =>
 (vl (.int .i64 0) r10.2).bind fun r11 =>
 impl_Past_join_l1 (ups (env0 #[x0, x1]) [(2, r1.1), (3, r2.1), (4, r3.1), (8, r4.1), (9, r5.1), (5, r6.1), (10, r8.1), (11, r9.1), (12, r10.1), (13, r11.1)]) r11.2 := by kernel_rfl
noncomputable def spec_l20Past_l1 (e : Env) (w : World) : Option (Value × World) := exC P (EV P) 75 34 (.loop (cA (cA (cB (cA (cB (cB (bodyOf P 75)))))))) e w (kBlock 0 (kSeq P (EV P) 75 34 (cB (cB (cB (bodyOf P 75)))) (kFn P (fnOf P 75))))
noncomputable def spec_l20Past_j1 (e : Env) (w : World) : Option (Value × World) := exC P (EV P) 75 34 (cB (cB (cB (cB (bodyOf P 75))))) e w (kFn P (fnOf P 75))
theorem spec_l20Past_l1_eq (e : Env) (w : World) : spec_l20Past_l1 e w =
 (vl (e 4) w).bind fun r1 =>
 (bo P .lss 3 (.tmp 6) (.const (.int .i64 4)) r1.1 (.int .i64 4) r1.2).bind fun r2 =>
 cnd r2.1 (
 (fa P 30 (e 3) 0 (dw r2.2)).bind fun r4 =>
 ifP (r4.2 = (dw r2.2)) <|
 (ld P 28 r4.1 (dw r2.2)).bind fun r5 =>
 ifP (r5.2 = (dw r2.2)) <|
 (vl (e 4) (dw r2.2)).bind fun r6 =>
 ifP (r6.2 = (dw r2.2)) <|
 (vl (e 0) (dw r2.2)).bind fun r7 =>
 ifP (r7.2 = (dw r2.2)) <|
 (EV P 109 #[r7.1] (dw r2.2)).bind fun r8 =>
 ifP (ld P 28 r4.1 r8.2 = some (r5.1, r8.2) ∧ fa P 30 (e 3) 0 r8.2 = some (r4.1, r8.2) ∧ True) <|
 (ia P 28 r5.1 r6.1 r8.2).bind fun r9 =>
 ifP (r9.2 = r8.2) <|
 (st P 27 r9.1 r8.1 r8.2).bind fun r10 =>
 ifP (True ∧ True ∧ True ∧ True) <|
 (vl (e 4) r10.2).bind fun r11 =>
 (bo P .add 3 (.tmp 8) (.const (.int .i64 1)) r11.1 (.int .i64 1) r11.2).bind fun r12 =>
 (vl r12.1 r12.2).bind fun r13 =>
 spec_l20Past_l1 (ups e [(6, r1.1), (7, r2.1), (10, r4.1), (11, r5.1), (12, r6.1), (13, r7.1), (14, r8.1), (15, r9.1), (8, r11.1), (9, r12.1), (4, r13.1)]) r13.2) (
 (vl (e 0) r2.2).bind fun r14 =>
 (EV P 82 #[r14.1, (.int .i64 10)] r14.2).bind fun r15 =>
 (bo P .eql 3 (.tmp 17) (.const (.int .i64 0)) r15.1 (.int .i64 0) r15.2).bind fun r16 =>
 (vl r16.1 r16.2).bind fun r17 =>
 cnd r17.1 (
 (fa P 30 (e 3) 0 r17.2).bind fun r18 =>
 (ld P 28 r18.1 r18.2).bind fun r19 =>
 (sl P 28 r19.1 (some (.int .i64 1)) none none r19.2).bind fun r20 =>
 (fa P 30 (e 3) 0 r20.2).bind fun r21 =>
 (st P 28 r21.1 r20.1 r21.2).bind fun r22 =>
 spec_l20Past_j1 (ups e [(6, r1.1), (7, r2.1), (16, r14.1), (17, r15.1), (19, r16.1), (18, r17.1), (20, r18.1), (21, r19.1), (22, r20.1), (23, r21.1)]) r22.2) (
 (bo P .eql 3 (.tmp 17) (.const (.int .i64 1)) r15.1 (.int .i64 1) r17.2).bind fun r23 =>
 (vl r23.1 r23.2).bind fun r24 =>
 cnd r24.1 (
 (fa P 30 (e 3) 0 (dw r24.2)).bind fun r26 =>
 ifP (r26.2 = (dw r24.2)) <|
 (ld P 28 r26.1 (dw r24.2)).bind fun r27 =>
 ifP (r27.2 = (dw r24.2)) <|
 (vl (e 0) (dw r24.2)).bind fun r28 =>
 ifP (r28.2 = (dw r24.2)) <|
 (vl (e 0) (dw r24.2)).bind fun r29 =>
 ifP (r29.2 = (dw r24.2)) <|
 (EV P 82 #[r28.1, (.int .i64 4)] (dw r24.2)).bind fun r30 =>
 ifP (ld P 28 r26.1 r30.2 = some (r27.1, r30.2) ∧ fa P 30 (e 3) 0 r30.2 = some (r26.1, r30.2) ∧ True) <|
 (EV P 85 #[r29.1] r30.2).bind fun r31 =>
 ifP (ld P 28 r26.1 r31.2 = some (r27.1, r31.2) ∧ fa P 30 (e 3) 0 r31.2 = some (r26.1, r31.2) ∧ True) <|
 (ia P 28 r27.1 r30.1 r31.2).bind fun r32 =>
 ifP (r32.2 = r31.2) <|
 (st P 27 r32.1 r31.1 r31.2).bind fun r33 =>
 ifP (True ∧ True ∧ True ∧ True) <|
 spec_l20Past_j1 (ups e [(6, r1.1), (7, r2.1), (16, r14.1), (17, r15.1), (19, r16.1), (18, r17.1), (25, r23.1), (24, r24.1), (26, r26.1), (27, r27.1), (28, r28.1), (30, r29.1), (29, r30.1), (31, r31.1), (32, r32.1)]) r33.2) (
 spec_l20Past_j1 (ups e [(6, r1.1), (7, r2.1), (16, r14.1), (17, r15.1), (19, r16.1), (18, r17.1), (25, r23.1), (24, r24.1)]) r24.2))) := (exC_loop P (EV P) 75 34 (cA (cA (cB (cA (cB (cB (bodyOf P 75))))))) e w (kBlock 0 (kSeq P (EV P) 75 34 (cB (cB (cB (bodyOf P 75)))) (kFn P (fnOf P 75))))).trans (by kernel_rfl)
theorem spec_l20Past_j1_eq (e : Env) (w : World) : spec_l20Past_j1 e w =
 (ld P 30 (e 3) w).bind fun r1 =>
 (st P 30 (e 2) r1.1 r1.2).bind fun r2 =>
 ((ld P 30 (e 2) r2.2).bind fun r3 => ifP (r3.2 = r2.2) (some r3.1)).bind fun v4 =>
 some (v4, r2.2) := by kernel_rfl
theorem spec_l20Past_fn (x0 : Value) (w : World) : fnC P (EV P) 75 #[x0] w =
 (al P 30 w).bind fun r1 =>
 (EV P 108 #[] r1.2).bind fun r2 =>
 (al P 30 r2.2).bind fun r3 =>
 (st P 30 r3.1 r2.1 r3.2).bind fun r4 =>
 (vl (.int .i64 0) r4.2).bind fun r5 =>
 spec_l20Past_l1 (ups (env0 #[x0]) [(2, r1.1), (5, r2.1), (3, r3.1), (4, r5.1)]) r5.2 := by kernel_rfl
noncomputable def spec_l1PastOk_l1 (e : Env) (w : World) : Option (Value × World) := exC P (EV P) 76 22 (.loop (cA (cA (cB (cA (cB (bodyOf P 76))))))) e w (kBlock 0 (kSeq P (EV P) 76 22 (cB (cB (bodyOf P 76))) (kFn P (fnOf P 76))))
theorem spec_l1PastOk_l1_eq (e : Env) (w : World) : spec_l1PastOk_l1 e w =
 (vl (e 3) w).bind fun r1 =>
 (fa P 30 (e 1) 0 r1.2).bind fun r2 =>
 (ld P 28 r2.1 r2.2).bind fun r3 =>
 (b_len P #[28] 3 #[r3.1] r3.2).bind fun r4 =>
 (bo P .lss 3 (.tmp 4) (.tmp 7) r1.1 r4.1 r4.2).bind fun r5 =>
 cnd r5.1 (
 (fa P 30 (e 1) 0 r5.2).bind fun r6 =>
 (ld P 28 r6.1 r6.2).bind fun r7 =>
 (vl (e 3) r7.2).bind fun r8 =>
 (ia P 28 r7.1 r8.1 r8.2).bind fun r9 =>
 (ld P 27 r9.1 r9.2).bind fun r10 =>
 (EV P 92 #[r10.1] r10.2).bind fun r11 =>
 (uo P .not r11.1 r11.2).bind fun r12 =>
 cnd r12.1 (
 (vl (.bool false) r12.2).bind fun r13 =>
 some (r13.1, r13.2)) (
 (vl (e 3) r12.2).bind fun r14 =>
 (bo P .add 3 (.tmp 9) (.const (.int .i64 1)) r14.1 (.int .i64 1) r14.2).bind fun r15 =>
 (vl r15.1 r15.2).bind fun r16 =>
 spec_l1PastOk_l1 (ups e [(4, r1.1), (5, r2.1), (6, r3.1), (7, r4.1), (8, r5.1), (11, r6.1), (12, r7.1), (13, r8.1), (14, r9.1), (15, r10.1), (16, r11.1), (17, r12.1), (9, r14.1), (10, r15.1), (3, r16.1)]) r16.2)) (
 (fa P 30 (e 1) 0 r5.2).bind fun r17 =>
 (ld P 28 r17.1 r17.2).bind fun r18 =>
 (b_len P #[28] 3 #[r18.1] r18.2).bind fun r19 =>
 (bo P .eql 3 (.tmp 20) (.const (.int .i64 4)) r19.1 (.int .i64 4) r19.2).bind fun r20 =>
 (vl r20.1 r20.2).bind fun r21 =>
 some (r21.1, r21.2)) := (exC_loop P (EV P) 76 22 (cA (cA (cB (cA (cB (bodyOf P 76)))))) e w (kBlock 0 (kSeq P (EV P) 76 22 (cB (cB (bodyOf P 76))) (kFn P (fnOf P 76))))).trans (by kernel_rfl)
theorem spec_l1PastOk_fn (x0 : Value) (w : World) : fnC P (EV P) 76 #[x0] w =
 (bx P 30 x0 w).bind fun r1 =>
 (vl (.bool false) r1.2).bind fun r2 =>
 (vl (.int .i64 0) r2.2).bind fun r3 =>
 spec_l1PastOk_l1 (ups (env0 #[x0]) [(1, r1.1), (2, r2.1), (3, r3.1)]) r3.2 := by kernel_rfl
noncomputable def spec_l1Join_l1 (e : Env) (w : World) : Option (Value × World) := exC P (EV P) 77 29 (.loop (cA (cA (cB (cA (cB (cB (bodyOf P 77)))))))) e w (kBlock 0 (kSeq P (EV P) 77 29 (cB (cB (cB (bodyOf P 77)))) (kFn P (fnOf P 77))))
theorem spec_l1Join_l1_eq (e : Env) (w : World) : spec_l1Join_l1 e w =
 (vl (e 6) w).bind fun r1 =>
 (bo P .lss 3 (.tmp 8) (.const (.int .i64 4)) r1.1 (.int .i64 4) r1.2).bind fun r2 =>
 cnd r2.1 (
 (fa P 30 (e 5) 0 (dw r2.2)).bind fun r4 =>
 ifP (r4.2 = (dw r2.2)) <|
 (ld P 28 r4.1 (dw r2.2)).bind fun r5 =>
 ifP (r5.2 = (dw r2.2)) <|
 (fa P 30 (e 2) 0 (dw r2.2)).bind fun r6 =>
 ifP (r6.2 = (dw r2.2)) <|
 (ld P 28 r6.1 (dw r2.2)).bind fun r7 =>
 ifP (r7.2 = (dw r2.2)) <|
 (vl (e 6) (dw r2.2)).bind fun r8 =>
 ifP (r8.2 = (dw r2.2)) <|
 (ia P 28 r7.1 r8.1 (dw r2.2)).bind fun r9 =>
 ifP (r9.2 = (dw r2.2)) <|
 (ld P 27 r9.1 (dw r2.2)).bind fun r10 =>
 ifP (r10.2 = (dw r2.2)) <|
 (fa P 30 (e 3) 0 (dw r2.2)).bind fun r11 =>
 ifP (r11.2 = (dw r2.2)) <|
 (ld P 28 r11.1 (dw r2.2)).bind fun r12 =>
 ifP (r12.2 = (dw r2.2)) <|
 (vl (e 6) (dw r2.2)).bind fun r13 =>
 ifP (r13.2 = (dw r2.2)) <|
 (ia P 28 r12.1 r13.1 (dw r2.2)).bind fun r14 =>
 ifP (r14.2 = (dw r2.2)) <|
 (ld P 27 r14.1 (dw r2.2)).bind fun r15 =>
 ifP (r15.2 = (dw r2.2)) <|
 (EV P 110 #[r10.1, r15.1] (dw r2.2)).bind fun r16 =>
 ifP (True ∧ True ∧ True ∧ True ∧ True ∧ True ∧ True ∧ True ∧ ld P 28 r4.1 r16.2 = some (r5.1, r16.2) ∧ fa P 30 (e 5) 0 r16.2 = some (r4.1, r16.2) ∧ True) <|
 (bs P 28 1 #[(0, r16.1)] r16.2).bind fun r17 =>
 ifP (True ∧ True ∧ True ∧ True ∧ True ∧ True ∧ True ∧ True ∧ ld P 28 r4.1 r17.2 = some (r5.1, r17.2) ∧ fa P 30 (e 5) 0 r17.2 = some (r4.1, r17.2) ∧ True) <|
 (b_append P #[28, 28] 28 #[r5.1, r17.1] r17.2).bind fun r18 =>
 ifP (True ∧ True ∧ True ∧ True ∧ True ∧ True ∧ True ∧ True ∧ True ∧ True ∧ True) <|
 (fa P 30 (e 5) 0 r18.2).bind fun r19 =>
 ifP (r19.2 = r18.2) <|
 (st P 28 r19.1 r18.1 r18.2).bind fun r20 =>
 ifP (True ∧ True ∧ True ∧ True ∧ True ∧ True ∧ True ∧ True ∧ True ∧ True ∧ True ∧ True) <|
 (vl (e 6) r20.2).bind fun r21 =>
 (bo P .add 3 (.tmp 10) (.const (.int .i64 1)) r21.1 (.int .i64 1) r21.2).bind fun r22 =>
 (vl r22.1 r22.2).bind fun r23 =>
 spec_l1Join_l1 (ups e [(8, r1.1), (9, r2.1), (12, r4.1), (13, r5.1), (14, r6.1), (15, r7.1), (16, r8.1), (17, r9.1), (18, r10.1), (19, r11.1), (20, r12.1), (21, r13.1), (22, r14.1), (23, r15.1), (24, r16.1), (25, r17.1), (26, r18.1), (27, r19.1), (10, r21.1), (11, r22.1), (6, r23.1)]) r23.2) (
 (ld P 30 (e 5) r2.2).bind fun r24 =>
 (st P 30 (e 4) r24.1 r24.2).bind fun r25 =>
 ((ld P 30 (e 4) r25.2).bind fun r26 => ifP (r26.2 = r25.2) (some r26.1)).bind fun v27 =>
 some (v27, r25.2)) := (exC_loop P (EV P) 77 29 (cA (cA (cB (cA (cB (cB (bodyOf P 77))))))) e w (kBlock 0 (kSeq P (EV P) 77 29 (cB (cB (cB (bodyOf P 77)))) (kFn P (fnOf P 77))))).trans (by kernel_rfl)
theorem spec_l1Join_fn (x0 x1 : Value) (w : World) : fnC P (EV P) 77 #[x0, x1] w =
 (bx P 30 x0 w).bind fun r1 =>
 (bx P 30 x1 r1.2).bind fun r2 =>
 (al P 30 r2.2).bind fun r3 =>
 (bd P 30 #[] r3.2).bind fun r4 =>
 (al P 30 r4.2).bind fun r5 =>
 (st P 30 r5.1 r4.1 r5.2).bind fun r6 =>
 (vl (.int .i64 0) r6.2).bind fun r7 =>
 spec_l1Join_l1 (ups (env0 #[x0, x1]) [(2, r1.1), (3, r2.1), (4, r3.1), (7, r4.1), (5, r5.1), (6, r7.1)]) r7.2 := by kernel_rfl
theorem slices_ContainsFunc_Tag_fn (x0 x1 : Value) (w : World) : fnC P (EV P) 78 #[x0, x1] w =
 (vl (.bool false) w).bind fun r1 =>
 (vl x0 r1.2).bind fun r2 =>
 (vl x1 r2.2).bind fun r3 =>
 (EV P 111 #[r2.1, r3.1] r3.2).bind fun r4 =>
 (bo P .geq 3 (.tmp 7) (.const (.int .i64 0)) r4.1 (.int .i64 0) r4.2).bind fun r5 =>
 (vl r5.1 r5.2).bind fun r6 =>
 some (r6.1, r6.2) := by kernel_rfl
theorem impl_PastOk_1_fn (x0 : Value) (w : World) : fnC P (EV P) 79 #[x0] w =
 (bx P 27 x0 w).bind fun r1 =>
 (vl (.bool false) r1.2).bind fun r2 =>
 (ld P 27 r1.1 r2.2).bind fun r3 =>
 (EV P 56 #[r3.1] r3.2).bind fun r4 =>
 (uo P .not r4.1 r4.2).bind fun r5 =>
 (vl r5.1 r5.2).bind fun r6 =>
 some (r6.1, r6.2) := by kernel_rfl
noncomputable def impl_Past_under_l1 (e : Env) (w : World) : Option (Value × World) := exC P (EV P) 80 23 (.loop (cA (cA (cB (cA (cB (bodyOf P 80))))))) e w (kBlock 0 (kSeq P (EV P) 80 23 (cB (cB (bodyOf P 80))) (kFn P (fnOf P 80))))
theorem impl_Past_under_l1_eq (e : Env) (w : World) : impl_Past_under_l1 e w =
 (bo P .lss 3 (.tmp 10) (.tmp 9) (e 10) (e 9) w).bind fun r1 =>
 cnd r1.1 (
 (vl (e 10) r1.2).bind fun r2 =>
 (ia P 28 (e 8) (e 10) r2.2).bind fun r3 =>
 (ld P 27 r3.1 r3.2).bind fun r4 =>
 (al P 27 r4.2).bind fun r5 =>
 (vl r2.1 r5.2).bind fun r6 =>
 (st P 27 r5.1 r4.1 r6.2).bind fun r7 =>
 (fa P 30 (e 3) 0 (dw r7.2)).bind fun r9 =>
 ifP (r9.2 = (dw r7.2)) <|
 (ld P 28 r9.1 (dw r7.2)).bind fun r10 =>
 ifP (r10.2 = (dw r7.2)) <|
 (vl r6.1 (dw r7.2)).bind fun r11 =>
 ifP (r11.2 = (dw r7.2)) <|
 (ia P 28 r10.1 r11.1 (dw r7.2)).bind fun r12 =>
 ifP (r12.2 = (dw r7.2)) <|
 (ld P 27 r12.1 (dw r7.2)).bind fun r13 =>
 ifP (r13.2 = (dw r7.2)) <|
 (ld P 27 r5.1 (dw r7.2)).bind fun r14 =>
 ifP (r14.2 = (dw r7.2)) <|
 (EV P 73 #[r13.1, r14.1] (dw r7.2)).bind fun r15 =>
 ifP (True ∧ True ∧ True ∧ True ∧ True ∧ True) <|
 cnd r15.1 (
 (vl (.bool false) r15.2).bind fun r16 =>
 some (r16.1, r16.2)) (
 (bo P .add 3 (.tmp 10) (.const (.int .i64 1)) (e 10) (.int .i64 1) r15.2).bind fun r17 =>
 (vl r17.1 r17.2).bind fun r18 =>
 impl_Past_under_l1 (ups e [(11, r1.1), (12, r2.1), (13, r3.1), (14, r4.1), (6, r5.1), (5, r6.1), (15, r9.1), (16, r10.1), (17, r11.1), (18, r12.1), (19, r13.1), (20, r14.1), (21, r15.1), (22, r17.1), (10, r18.1)]) r18.2)) (
 (vl (.bool true) r1.2).bind fun r19 =>
 some (r19.1, r19.2)) := (exC_loop P (EV P) 80 23 (cA (cA (cB (cA (cB (bodyOf P 80)))))) e w (kBlock 0 (kSeq P (EV P) 80 23 (cB (cB (bodyOf P 80))) (kFn P (fnOf P 80))))).trans (by kernel_rfl)
theorem impl_Past_under_fn (x0 x1 : Value) (w : World) : fnC P (EV P) 80 #[x0, x1] w =
 (bx P 30 x0 w).bind fun r1 =>
 (bx P 30 x1 r1.2).bind fun r2 =>
 (vl (.bool false) r2.2).bind fun r3 =>
 (fa P 30 r1.1 0 r3.2).bind fun r4 =>
 (ld P 28 r4.1 r4.2).bind fun r5 =>
 (b_len P #[28] 3 #[r5.1] r5.2).bind fun r6 =>
 (vl (.int .i64 0) r6.2).bind fun r7 =>
 impl_Past_under_l1 (ups (env0 #[x0, x1]) [(2, r1.1), (3, r2.1), (4, r3.1), (7, r4.1), (8, r5.1), (9, r6.1), (10, r7.1)]) r7.2 := by kernel_rfl
theorem spec_l20Rd_pick_fn (x0 x1 : Value) (w : World) : fnC P (EV P) 82 #[x0, x1] w =
 (vl (.int .i64 0) w).bind fun r1 =>
 (vl x0 r1.2).bind fun r2 =>
 (vl x0 r2.2).bind fun r3 =>
 (nk P r3.1 r3.2).bind fun r4 =>
 (fa P 95 r4.1 1 r4.2).bind fun r5 =>
 (ld P 3 r5.1 r5.2).bind fun r6 =>
 (bo P .add 3 (.tmp 11) (.const (.int .i64 1)) r6.1 (.int .i64 1) r6.2).bind fun r7 =>
 (nk P r2.1 r7.2).bind fun r8 =>
 (fa P 95 r8.1 1 r8.2).bind fun r9 =>
 (st P 3 r9.1 r7.1 r9.2).bind fun r10 =>
 (vl x1 r10.2).bind fun r11 =>
 (bo P .lss 3 (.tmp 15) (.const (.int .i64 1)) r11.1 (.int .i64 1) r11.2).bind fun r12 =>
 (vl r12.1 r12.2).bind fun r13 =>
 (gif r13.1 false (vl x0 r13.2) r13.2).bind fun r14 =>
 (gif r13.1 false (nk P r14.1 r14.2) r14.2).bind fun r15 =>
 (gif r13.1 false (fa P 95 r15.1 0 r15.2) r15.2).bind fun r16 =>
 (gif r13.1 false (ld P 22 r16.1 r16.2) r16.2).bind fun r17 =>
 (gif r13.1 false (b_len P #[22] 3 #[r17.1] r17.2) r17.2).bind fun r18 =>
 (gif r13.1 false (bo P .eql 3 (.tmp 22) (.const (.int .i64 0)) r18.1 (.int .i64 0) r18.2) r18.2).bind fun r19 =>
 (pickV r13.1 (.bool true) r19.1 r19.2).bind fun r20 =>
 cnd r20.1 (
 (vl (.int .i64 0) r20.2).bind fun r21 =>
 some (r21.1, r21.2)) (
 (vl x0 r20.2).bind fun r22 =>
 (nk P r22.1 r22.2).bind fun r23 =>
 (fa P 95 r23.1 1 r23.2).bind fun r24 =>
 (ld P 3 r24.1 r24.2).bind fun r25 =>
 (bo P .sub 3 (.tmp 28) (.const (.int .i64 1)) r25.1 (.int .i64 1) r25.2).bind fun r26 =>
 (vl r26.1 r26.2).bind fun r27 =>
 (vl r27.1 r27.2).bind fun r28 =>
 (vl x0 r28.2).bind fun r29 =>
 (nk P r29.1 r29.2).bind fun r30 =>
 (fa P 95 r30.1 0 r30.2).bind fun r31 =>
 (ld P 22 r31.1 r31.2).bind fun r32 =>
 (b_len P #[22] 3 #[r32.1] r32.2).bind fun r33 =>
 (bo P .lss 3 (.tmp 30) (.tmp 35) r28.1 r33.1 r33.2).bind fun r34 =>
 cnd r34.1 (
 (vl x0 r34.2).bind fun r35 =>
 (nk P r35.1 r35.2).bind fun r36 =>
 (fa P 95 r36.1 0 r36.2).bind fun r37 =>
 (ld P 22 r37.1 r37.2).bind fun r38 =>
 (vl r27.1 r38.2).bind fun r39 =>
 (ia P 22 r38.1 r39.1 r39.2).bind fun r40 =>
 (ld P 5 r40.1 r40.2).bind fun r41 =>
 (cv P 5 3 r41.1 r41.2).bind fun r42 =>
 (vl x1 r42.2).bind fun r43 =>
 (bo P .rem 3 (.tmp 44) (.tmp 45) r42.1 r43.1 r43.2).bind fun r44 =>
 (vl r44.1 r44.2).bind fun r45 =>
 some (r45.1, r45.2)) (
 (vl x0 (dw r34.2)).bind fun r47 =>
 ifP (r47.2 = (dw r34.2)) <|
 (nk P r47.1 (dw r34.2)).bind fun r48 =>
 ifP (r48.2 = (dw r34.2)) <|
 (fa P 95 r48.1 0 (dw r34.2)).bind fun r49 =>
 ifP (r49.2 = (dw r34.2)) <|
 (ld P 22 r49.1 (dw r34.2)).bind fun r50 =>
 ifP (r50.2 = (dw r34.2)) <|
 (vl r27.1 (dw r34.2)).bind fun r51 =>
 ifP (r51.2 = (dw r34.2)) <|
 (vl x0 (dw r34.2)).bind fun r52 =>
 ifP (r52.2 = (dw r34.2)) <|
 (nk P r52.1 (dw r34.2)).bind fun r53 =>
 ifP (r53.2 = (dw r34.2)) <|
 (fa P 95 r53.1 0 (dw r34.2)).bind fun r54 =>
 ifP (r54.2 = (dw r34.2)) <|
 (ld P 22 r54.1 (dw r34.2)).bind fun r55 =>
 ifP (r55.2 = (dw r34.2)) <|
 (b_len P #[22] 3 #[r55.1] (dw r34.2)).bind fun r56 =>
 ifP (r56.2 = (dw r34.2)) <|
 (bo P .rem 3 (.tmp 51) (.tmp 56) r51.1 r56.1 (dw r34.2)).bind fun r57 =>
 ifP (r57.2 = (dw r34.2)) <|
 (ia P 22 r50.1 r57.1 (dw r34.2)).bind fun r58 =>
 ifP (r58.2 = (dw r34.2)) <|
 (ld P 5 r58.1 (dw r34.2)).bind fun r59 =>
 ifP (r59.2 = (dw r34.2)) <|
 (cv P 5 3 r59.1 (dw r34.2)).bind fun r60 =>
 ifP (r60.2 = (dw r34.2)) <|
 (bo P .mul 3 (.tmp 60) (.const (.int .i64 131)) r60.1 (.int .i64 131) (dw r34.2)).bind fun r61 =>
 ifP (r61.2 = (dw r34.2)) <|
 (vl x0 (dw r34.2)).bind fun r62 =>
 ifP (r62.2 = (dw r34.2)) <|
 (nk P r62.1 (dw r34.2)).bind fun r63 =>
 ifP (r63.2 = (dw r34.2)) <|
 (fa P 95 r63.1 0 (dw r34.2)).bind fun r64 =>
 ifP (r64.2 = (dw r34.2)) <|
 (ld P 22 r64.1 (dw r34.2)).bind fun r65 =>
 ifP (r65.2 = (dw r34.2)) <|
 (vl r27.1 (dw r34.2)).bind fun r66 =>
 ifP (r66.2 = (dw r34.2)) <|
 (bo P .mul 3 (.tmp 66) (.const (.int .i64 7)) r66.1 (.int .i64 7) (dw r34.2)).bind fun r67 =>
 ifP (r67.2 = (dw r34.2)) <|
 (bo P .add 3 (.tmp 67) (.const (.int .i64 3)) r67.1 (.int .i64 3) (dw r34.2)).bind fun r68 =>
 ifP (r68.2 = (dw r34.2)) <|
 (vl x0 (dw r34.2)).bind fun r69 =>
 ifP (r69.2 = (dw r34.2)) <|
 (nk P r69.1 (dw r34.2)).bind fun r70 =>
 ifP (r70.2 = (dw r34.2)) <|
 (fa P 95 r70.1 0 (dw r34.2)).bind fun r71 =>
 ifP (r71.2 = (dw r34.2)) <|
 (ld P 22 r71.1 (dw r34.2)).bind fun r72 =>
 ifP (r72.2 = (dw r34.2)) <|
 (b_len P #[22] 3 #[r72.1] (dw r34.2)).bind fun r73 =>
 ifP (r73.2 = (dw r34.2)) <|
 (bo P .rem 3 (.tmp 68) (.tmp 73) r68.1 r73.1 (dw r34.2)).bind fun r74 =>
 ifP (r74.2 = (dw r34.2)) <|
 (ia P 22 r65.1 r74.1 (dw r34.2)).bind fun r75 =>
 ifP (r75.2 = (dw r34.2)) <|
 (ld P 5 r75.1 (dw r34.2)).bind fun r76 =>
 ifP (r76.2 = (dw r34.2)) <|
 (cv P 5 3 r76.1 (dw r34.2)).bind fun r77 =>
 ifP (r77.2 = (dw r34.2)) <|
 (bo P .mul 3 (.tmp 77) (.const (.int .i64 1117)) r77.1 (.int .i64 1117) (dw r34.2)).bind fun r78 =>
 ifP (r78.2 = (dw r34.2)) <|
 (bo P .add 3 (.tmp 61) (.tmp 78) r61.1 r78.1 (dw r34.2)).bind fun r79 =>
 ifP (r79.2 = (dw r34.2)) <|
 (vl r27.1 (dw r34.2)).bind fun r80 =>
 ifP (r80.2 = (dw r34.2)) <|
 (bo P .mul 3 (.tmp 80) (.const (.int .i64 29)) r80.1 (.int .i64 29) (dw r34.2)).bind fun r81 =>
 ifP (r81.2 = (dw r34.2)) <|
 (bo P .add 3 (.tmp 79) (.tmp 81) r79.1 r81.1 (dw r34.2)).bind fun r82 =>
 ifP (r82.2 = (dw r34.2)) <|
 (vl r27.1 (dw r34.2)).bind fun r83 =>
 ifP (r83.2 = (dw r34.2)) <|
 (vl x0 (dw r34.2)).bind fun r84 =>
 ifP (r84.2 = (dw r34.2)) <|
 (nk P r84.1 (dw r34.2)).bind fun r85 =>
 ifP (r85.2 = (dw r34.2)) <|
 (fa P 95 r85.1 0 (dw r34.2)).bind fun r86 =>
 ifP (r86.2 = (dw r34.2)) <|
 (ld P 22 r86.1 (dw r34.2)).bind fun r87 =>
 ifP (r87.2 = (dw r34.2)) <|
 (b_len P #[22] 3 #[r87.1] (dw r34.2)).bind fun r88 =>
 ifP (r88.2 = (dw r34.2)) <|
 (bo P .quo 3 (.tmp 83) (.tmp 88) r83.1 r88.1 (dw r34.2)).bind fun r89 =>
 ifP (r89.2 = (dw r34.2)) <|
 (bo P .mul 3 (.tmp 89) (.const (.int .i64 53)) r89.1 (.int .i64 53) (dw r34.2)).bind fun r90 =>
 ifP (r90.2 = (dw r34.2)) <|
 (bo P .add 3 (.tmp 82) (.tmp 90) r82.1 r90.1 (dw r34.2)).bind fun r91 =>
 ifP (r91.2 = (dw r34.2)) <|
 (vl r91.1 (dw r34.2)).bind fun r92 =>
 ifP (r92.2 = (dw r34.2)) <|
 (vl r92.1 (dw r34.2)).bind fun r93 =>
 (vl r92.1 r93.2).bind fun r94 =>
 (bo P .quo 3 (.tmp 93) (.const (.int .i64 64)) r94.1 (.int .i64 64) r94.2).bind fun r95 =>
 (bo P .xor 3 (.tmp 92) (.tmp 94) r93.1 r95.1 r95.2).bind fun r96 =>
 (vl r96.1 r96.2).bind fun r97 =>
 (vl r97.1 r97.2).bind fun r98 =>
 (vl x1 r98.2).bind fun r99 =>
 (bo P .rem 3 (.tmp 96) (.tmp 97) r98.1 r99.1 r99.2).bind fun r100 =>
 (vl r100.1 r100.2).bind fun r101 =>
 some (r101.1, r101.2))) := by kernel_rfl
theorem spec_l20AnyTag_fn (x0 : Value) (w : World) : fnC P (EV P) 85 #[x0] w =
 (al P 27 w).bind fun r1 =>
 (vl x0 r1.2).bind fun r2 =>
 (EV P 82 #[r2.1, (.int .i64 8)] r2.2).bind fun r3 =>
 (bo P .eql 3 (.tmp 4) (.const (.int .i64 0)) r3.1 (.int .i64 0) r3.2).bind fun r4 =>
 cnd r4.1 (
 (vl x0 r4.2).bind fun r5 =>
 (bs P 85 4 #[(0, (.int .i64 0)), (1, (.int .i64 (-1))), (2, (.int .i64 1000)), (3, (.int .i64 999))] r5.2).bind fun r6 =>
 (EV P 62 #[r5.1, r6.1] r6.2).bind fun r7 =>
 (vl x0 r7.2).bind fun r8 =>
 (bs P 85 4 #[(0, (.int .i64 0)), (1, (.int .i64 1)), (2, (.int .i64 3)), (3, (.int .i64 (-1)))] r8.2).bind fun r9 =>
 (EV P 62 #[r8.1, r9.1] r9.2).bind fun r10 =>
 (bd P 27 #[(0, r7.1), (1, r10.1)] r10.2).bind fun r11 =>
 (st P 27 r1.1 r11.1 r11.2).bind fun r12 =>
 ((ld P 27 r1.1 r12.2).bind fun r13 => ifP (r13.2 = r12.2) (some r13.1)).bind fun v14 =>
 some (v14, r12.2)) (
 (vl x0 r4.2).bind fun r15 =>
 (EV P 109 #[r15.1] r15.2).bind fun r16 =>
 (st P 27 r1.1 r16.1 r16.2).bind fun r17 =>
 ((ld P 27 r1.1 r17.2).bind fun r18 => ifP (r18.2 = r17.2) (some r18.1)).bind fun v19 =>
 some (v19, r17.2)) := by kernel_rfl
theorem spec_l1In_fn (x0 x1 x2 : Value) (w : World) : fnC P (EV P) 90 #[x0, x1, x2] w =
 (vl (.bool false) w).bind fun r1 =>
 (vl x0 r1.2).bind fun r2 =>
 (vl x1 r2.2).bind fun r3 =>
 (bo P .geq 3 (.tmp 7) (.tmp 8) r2.1 r3.1 r3.2).bind fun r4 =>
 (vl r4.1 r4.2).bind fun r5 =>
 (gif r5.1 true (vl x0 r5.2) r5.2).bind fun r6 =>
 (gif r5.1 true (vl x2 r6.2) r6.2).bind fun r7 =>
 (gif r5.1 true (bo P .leq 3 (.tmp 11) (.tmp 12) r6.1 r7.1 r7.2) r7.2).bind fun r8 =>
 (pickV r5.1 r8.1 (.bool false) r8.2).bind fun r9 =>
 (vl r9.1 r9.2).bind fun r10 =>
 some (r10.1, r10.2) := by kernel_rfl
theorem spec_l1TagOk_fn (x0 : Value) (w : World) : fnC P (EV P) 92 #[x0] w =
 (bx P 27 x0 w).bind fun r1 =>
 (vl (.bool false) r1.2).bind fun r2 =>
 (ld P 27 r1.1 r2.2).bind fun r3 =>
 (bd P 27 #[] r3.2).bind fun r4 =>
 (bo P .eql 27 (.tmp 3) (.tmp 4) r3.1 r4.1 r4.2).bind fun r5 =>
 (vl r5.1 r5.2).bind fun r6 =>
 (gif r6.1 false (fa P 27 r1.1 0 r6.2) r6.2).bind fun r7 =>
 (gif r6.1 false (ld P 3 r7.1 r7.2) r7.2).bind fun r8 =>
 (gif r6.1 false (EV P 90 #[r8.1, (.int .i64 1), (.int .i64 999)] r8.2) r8.2).bind fun r9 =>
 (gif r6.1 false (vl r9.1 r9.2) r9.2).bind fun r10 =>
 (gif r10.1 true (fa P 27 r1.1 1 r10.2) r10.2).bind fun r11 =>
 (gif r10.1 true (ld P 3 r11.1 r11.2) r11.2).bind fun r12 =>
 (gif r10.1 true (EV P 90 #[r12.1, (.int .i64 0), (.int .i64 2)] r12.2) r12.2).bind fun r13 =>
 (gif r6.1 false (pickV r10.1 r13.1 (.bool false) r13.2) r13.2).bind fun r14 =>
 (pickV r6.1 (.bool true) r14.1 r14.2).bind fun r15 =>
 (vl r15.1 r15.2).bind fun r16 =>
 some (r16.1, r16.2) := by kernel_rfl
theorem spec_l1Less_fn (x0 x1 : Value) (w : World) : fnC P (EV P) 94 #[x0, x1] w =
 (bx P 27 x0 w).bind fun r1 =>
 (bx P 27 x1 r1.2).bind fun r2 =>
 (vl (.bool false) r2.2).bind fun r3 =>
 (fa P 27 r1.1 0 r3.2).bind fun r4 =>
 (ld P 3 r4.1 r4.2).bind fun r5 =>
 (fa P 27 r2.1 0 r5.2).bind fun r6 =>
 (ld P 3 r6.1 r6.2).bind fun r7 =>
 (bo P .lss 3 (.tmp 6) (.tmp 8) r5.1 r7.1 r7.2).bind fun r8 =>
 (vl r8.1 r8.2).bind fun r9 =>
 (gif r9.1 false (fa P 27 r1.1 0 r9.2) r9.2).bind fun r10 =>
 (gif r9.1 false (ld P 3 r10.1 r10.2) r10.2).bind fun r11 =>
 (gif r9.1 false (fa P 27 r2.1 0 r11.2) r11.2).bind fun r12 =>
 (gif r9.1 false (ld P 3 r12.1 r12.2) r12.2).bind fun r13 =>
 (gif r9.1 false (bo P .eql 3 (.tmp 12) (.tmp 14) r11.1 r13.1 r13.2) r13.2).bind fun r14 =>
 (gif r9.1 false (vl r14.1 r14.2) r14.2).bind fun r15 =>
 (gif r15.1 true (fa P 27 r1.1 1 r15.2) r15.2).bind fun r16 =>
 (gif r15.1 true (ld P 3 r16.1 r16.2) r16.2).bind fun r17 =>
 (gif r15.1 true (fa P 27 r2.1 1 r17.2) r17.2).bind fun r18 =>
 (gif r15.1 true (ld P 3 r18.1 r18.2) r18.2).bind fun r19 =>
 (gif r15.1 true (bo P .lss 3 (.tmp 18) (.tmp 20) r17.1 r19.1 r19.2) r19.2).bind fun r20 =>
 (gif r9.1 false (pickV r15.1 r20.1 (.bool false) r20.2) r20.2).bind fun r21 =>
 (pickV r9.1 (.bool true) r21.1 r21.2).bind fun r22 =>
 (vl r22.1 r22.2).bind fun r23 =>
 some (r23.1, r23.2) := by kernel_rfl
theorem impl_within_fn (x0 x1 x2 : Value) (w : World) : fnC P (EV P) 95 #[x0, x1, x2] w =
 (vl (.bool false) w).bind fun r1 =>
 (vl x0 r1.2).bind fun r2 =>
 (vl x1 r2.2).bind fun r3 =>
 (bo P .geq 3 (.tmp 7) (.tmp 8) r2.1 r3.1 r3.2).bind fun r4 =>
 (vl r4.1 r4.2).bind fun r5 =>
 (gif r5.1 true (vl x0 r5.2) r5.2).bind fun r6 =>
 (gif r5.1 true (vl x2 r6.2) r6.2).bind fun r7 =>
 (gif r5.1 true (bo P .leq 3 (.tmp 11) (.tmp 12) r6.1 r7.1 r7.2) r7.2).bind fun r8 =>
 (pickV r5.1 r8.1 (.bool false) r8.2).bind fun r9 =>
 (vl r9.1 r9.2).bind fun r10 =>
 some (r10.1, r10.2) := by kernel_rfl
theorem impl_placeOk_fn (x0 : Value) (w : World) : fnC P (EV P) 100 #[x0] w =
 (vl (.bool false) w).bind fun r1 =>
 (vl x0 r1.2).bind fun r2 =>
 (EV P 95 #[r2.1, (.int .i64 0), (.int .i64 2)] r2.2).bind fun r3 =>
 (vl r3.1 r3.2).bind fun r4 =>
 some (r4.1, r4.2) := by kernel_rfl
theorem impl_Past_copied_fn (x0 : Value) (w : World) : fnC P (EV P) 102 #[x0] w =
 (bx P 30 x0 w).bind fun r1 =>
 (al P 30 r1.2).bind fun r2 =>
 (fa P 30 r1.1 0 r2.2).bind fun r3 =>
 (ld P 28 r3.1 r3.2).bind fun r4 =>
 (EV P 119 #[r4.1] r4.2).bind fun r5 =>
 (EV P 118 #[r5.1] r5.2).bind fun r6 =>
 (bd P 30 #[(0, r6.1)] r6.2).bind fun r7 =>
 (st P 30 r2.1 r7.1 r7.2).bind fun r8 =>
 ((ld P 30 r2.1 r8.2).bind fun r9 => ifP (r9.2 = r8.2) (some r9.1)).bind fun v10 =>
 some (v10, r8.2) := by kernel_rfl
theorem impl_Tag_compare_fn (x0 x1 : Value) (w : World) : fnC P (EV P) 107 #[x0, x1] w =
 (bx P 27 x0 w).bind fun r1 =>
 (bx P 27 x1 r1.2).bind fun r2 =>
 (vl (.int .i64 0) r2.2).bind fun r3 =>
 (fa P 27 r1.1 0 (dw r3.2)).bind fun r5 =>
 ifP (r5.2 = (dw r3.2)) <|
 (ld P 3 r5.1 (dw r3.2)).bind fun r6 =>
 ifP (r6.2 = (dw r3.2)) <|
 (fa P 27 r2.1 0 (dw r3.2)).bind fun r7 =>
 ifP (r7.2 = (dw r3.2)) <|
 (ld P 3 r7.1 (dw r3.2)).bind fun r8 =>
 ifP (r8.2 = (dw r3.2)) <|
 (fa P 27 r1.1 1 (dw r3.2)).bind fun r9 =>
 ifP (r9.2 = (dw r3.2)) <|
 (ld P 3 r9.1 (dw r3.2)).bind fun r10 =>
 ifP (r10.2 = (dw r3.2)) <|
 (fa P 27 r2.1 1 (dw r3.2)).bind fun r11 =>
 ifP (r11.2 = (dw r3.2)) <|
 (ld P 3 r11.1 (dw r3.2)).bind fun r12 =>
 ifP (r12.2 = (dw r3.2)) <|
 (EV P 122 #[r6.1, r8.1] (dw r3.2)).bind fun r13 =>
 ifP (ld P 3 r11.1 r13.2 = some (r12.1, r13.2) ∧ fa P 27 r2.1 1 r13.2 = some (r11.1, r13.2) ∧ ld P 3 r9.1 r13.2 = some (r10.1, r13.2) ∧ fa P 27 r1.1 1 r13.2 = some (r9.1, r13.2) ∧ True ∧ True ∧ True ∧ True ∧ True) <|
 (EV P 122 #[r10.1, r12.1] r13.2).bind fun r14 =>
 ifP (True ∧ True ∧ True ∧ True ∧ True ∧ True ∧ True ∧ True ∧ True) <|
 (bs P 85 2 #[(0, r13.1), (1, r14.1)] r14.2).bind fun r15 =>
 ifP (True ∧ True ∧ True ∧ True ∧ True ∧ True ∧ True ∧ True ∧ True) <|
 (EV P 121 #[r15.1] r15.2).bind fun r16 =>
 ifP (True ∧ True ∧ True ∧ True ∧ True ∧ True ∧ True ∧ True ∧ True) <|
 (vl r16.1 r16.2).bind fun r17 =>
 ifP (r17.2 = r16.2) <|
 some (r17.1, r16.2) := by kernel_rfl
theorem spec_l1None_fn (w : World) : fnC P (EV P) 108 #[] w =
 (al P 30 w).bind fun r1 =>
 (ms P 28 (.int .i64 4) (.int .i64 4) r1.2).bind fun r2 =>
 (bd P 30 #[(0, r2.1)] r2.2).bind fun r3 =>
 (st P 30 r1.1 r3.1 r3.2).bind fun r4 =>
 ((ld P 30 r1.1 r4.2).bind fun r5 => ifP (r5.2 = r4.2) (some r5.1)).bind fun v6 =>
 some (v6, r4.2) := by kernel_rfl
theorem spec_l20Tag_fn (x0 : Value) (w : World) : fnC P (EV P) 109 #[x0] w =
 (al P 27 w).bind fun r1 =>
 (vl x0 r1.2).bind fun r2 =>
 (EV P 82 #[r2.1, (.int .i64 3)] r2.2).bind fun r3 =>
 (bo P .eql 3 (.tmp 4) (.const (.int .i64 0)) r3.1 (.int .i64 0) r3.2).bind fun r4 =>
 cnd r4.1 (
 (bd P 27 #[] r4.2).bind fun r5 =>
 (st P 27 r1.1 r5.1 r5.2).bind fun r6 =>
 ((ld P 27 r1.1 r6.2).bind fun r7 => ifP (r7.2 = r6.2) (some r7.1)).bind fun v8 =>
 some (v8, r6.2)) (
 (vl x0 r4.2).bind fun r9 =>
 (EV P 82 #[r9.1, (.int .i64 9)] r9.2).bind fun r10 =>
 (bo P .add 3 (.const (.int .i64 1)) (.tmp 8) (.int .i64 1) r10.1 r10.2).bind fun r11 =>
 (vl x0 r11.2).bind fun r12 =>
 (EV P 82 #[r12.1, (.int .i64 3)] r12.2).bind fun r13 =>
 (bd P 27 #[(0, r11.1), (1, r13.1)] r13.2).bind fun r14 =>
 (st P 27 r1.1 r14.1 r14.2).bind fun r15 =>
 ((ld P 27 r1.1 r15.2).bind fun r16 => ifP (r16.2 = r15.2) (some r16.1)).bind fun v17 =>
 some (v17, r15.2)) := by kernel_rfl
theorem spec_l1Max_fn (x0 x1 : Value) (w : World) : fnC P (EV P) 110 #[x0, x1] w =
 (bx P 27 x0 w).bind fun r1 =>
 (bx P 27 x1 r1.2).bind fun r2 =>
 (al P 27 r2.2).bind fun r3 =>
 (ld P 27 r1.1 r3.2).bind fun r4 =>
 (ld P 27 r2.1 r4.2).bind fun r5 =>
 (EV P 94 #[r4.1, r5.1] r5.2).bind fun r6 =>
 cnd r6.1 (
 (ld P 27 r2.1 r6.2).bind fun r7 =>
 (st P 27 r3.1 r7.1 r7.2).bind fun r8 =>
 ((ld P 27 r3.1 r8.2).bind fun r9 => ifP (r9.2 = r8.2) (some r9.1)).bind fun v10 =>
 some (v10, r8.2)) (
 (ld P 27 r1.1 r6.2).bind fun r11 =>
 (st P 27 r3.1 r11.1 r11.2).bind fun r12 =>
 ((ld P 27 r3.1 r12.2).bind fun r13 => ifP (r13.2 = r12.2) (some r13.1)).bind fun v14 =>
 some (v14, r12.2)) := by kernel_rfl
end Go.Proofs.Ytjagkbamkohnoaa.X
