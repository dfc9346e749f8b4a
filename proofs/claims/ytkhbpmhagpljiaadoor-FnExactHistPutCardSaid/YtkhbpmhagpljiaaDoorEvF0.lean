/- A part of the proof: an evaluator of the model, its laws, and contracts of functions; no condition. -/
import Derived.Test.YtkhbpmhagpljiaaDoorEvT
set_option linter.unusedVariables false
set_option maxRecDepth 100000
namespace Go.Proofs.YtkhbpmhagpljiaaDoor.X
open Go Go.Ev
theorem laws_FnExactHistPut_fn (x0 : Value) (w : World) : fnC P (EV P) 3 #[x0] w =
 (vl (.bool false) w).bind fun r1 =>
 (vl (.int .i64 1048576) r1.2).bind fun r2 =>
 (vl x0 r2.2).bind fun r3 =>
 (vl r2.1 r3.2).bind fun r4 =>
 (EV P 5 #[r3.1, r4.1] r4.2).bind fun r5 =>
 (vl r5.1 r5.2).bind fun r6 =>
 (vl r6.1 r6.2).bind fun r7 =>
 (bo P .lss 3 (.tmp 10) (.const (.int .i64 0)) r7.1 (.int .i64 0) r7.2).bind fun r8 =>
 cnd r8.1 (
 (vl (.bool true) r8.2).bind fun r9 =>
 some (r9.1, r9.2)) (
 (vl x0 r8.2).bind fun r10 =>
 (EV P 7 #[r10.1] r10.2).bind fun r11 =>
 (EV P 6 #[r11.1] r11.2).bind fun r12 =>
 (vl r12.1 r12.2).bind fun r13 =>
 (vl x0 r13.2).bind fun r14 =>
 (EV P 7 #[r14.1] r14.2).bind fun r15 =>
 (vl r15.1 r15.2).bind fun r16 =>
 (vl r16.1 r16.2).bind fun r17 =>
 (EV P 8 #[r17.1] r17.2).bind fun r18 =>
 (vl r18.1 r18.2).bind fun r19 =>
 (vl r19.1 r19.2).bind fun r20 =>
 (vl r13.1 r20.2).bind fun r21 =>
 (bo P .neq 9 (.tmp 19) (.tmp 20) r20.1 r21.1 r21.2).bind fun r22 =>
 cnd r22.1 (
 (vl (.bool false) r22.2).bind fun r23 =>
 some (r23.1, r23.2)) (
 (vl r16.1 r22.2).bind fun r24 =>
 (vl x0 r24.2).bind fun r25 =>
 (EV P 7 #[r25.1] r25.2).bind fun r26 =>
 (EV P 9 #[r24.1, r26.1] r26.2).bind fun r27 =>
 (uo P .not r27.1 r27.2).bind fun r28 =>
 cnd r28.1 (
 (vl (.bool false) r28.2).bind fun r29 =>
 some (r29.1, r29.2)) (
 (vl (.bool true) r28.2).bind fun r30 =>
 some (r30.1, r30.2)))) := by kernel_rfl
theorem laws_szDoneS_fn (x0 x1 : Value) (w : World) : fnC P (EV P) 5 #[x0, x1] w =
 (vl (.int .i64 0) w).bind fun r1 =>
 (vl x1 r1.2).bind fun r2 =>
 (vl x0 r2.2).bind fun r3 =>
 (b_len P #[22] 3 #[r3.1] r3.2).bind fun r4 =>
 (bo P .sub 3 (.tmp 5) (.tmp 7) r2.1 r4.1 r4.2).bind fun r5 =>
 (vl r5.1 r5.2).bind fun r6 =>
 (vl r6.1 r6.2).bind fun r7 =>
 (bo P .lss 3 (.tmp 9) (.const (.int .i64 0)) r7.1 (.int .i64 0) r7.2).bind fun r8 =>
 cnd r8.1 (
 (vl (.int .i64 (-1)) r8.2).bind fun r9 =>
 some (r9.1, r9.2)) (
 (vl r6.1 r8.2).bind fun r10 =>
 (vl r10.1 r10.2).bind fun r11 =>
 some (r11.1, r11.2)) := by kernel_rfl
noncomputable def spec_HistPut_l1 (e : Env) (w : World) : Option (Value × World) := exC P (EV P) 6 23 (.loop (cA (cA (cB (cA (cB (cB (bodyOf P 6)))))))) e w (kBlock 0 (kSeq P (EV P) 6 23 (cB (cB (cB (bodyOf P 6)))) (kFn P (fnOf P 6))))
theorem spec_HistPut_l1_eq (e : Env) (w : World) : spec_HistPut_l1 e w =
 (vl (e 4) w).bind fun r1 =>
 (vl (e 0) r1.2).bind fun r2 =>
 (b_len P #[25] 3 #[r2.1] r2.2).bind fun r3 =>
 (bo P .lss 3 (.tmp 5) (.tmp 7) r1.1 r3.1 r3.2).bind fun r4 =>
 (vl r4.1 r4.2).bind fun r5 =>
 (gif r5.1 true (vl (e 0) r5.2) r5.2).bind fun r6 =>
 (gif r5.1 true (EV P 14 #[r6.1] r6.2) r6.2).bind fun r7 =>
 (pickV r5.1 r7.1 (.bool false) r7.2).bind fun r8 =>
 cnd r8.1 (
 (vl (e 3) r8.2).bind fun r9 =>
 (vl (e 0) r9.2).bind fun r10 =>
 (vl (e 4) r10.2).bind fun r11 =>
 (ia P 25 r10.1 r11.1 r11.2).bind fun r12 =>
 (ld P 38 r12.1 r12.2).bind fun r13 =>
 (EV P 15 #[r13.1] r13.2).bind fun r14 =>
 (bo P .add 9 (.tmp 15) (.tmp 20) r9.1 r14.1 r14.2).bind fun r15 =>
 (vl r15.1 r15.2).bind fun r16 =>
 (vl (e 4) r16.2).bind fun r17 =>
 (bo P .add 3 (.tmp 13) (.const (.int .i64 1)) r17.1 (.int .i64 1) r17.2).bind fun r18 =>
 (vl r18.1 r18.2).bind fun r19 =>
 spec_HistPut_l1 (ups e [(5, r1.1), (6, r2.1), (7, r3.1), (8, r4.1), (9, r5.1), (10, r6.1), (11, r7.1), (12, r8.1), (15, r9.1), (16, r10.1), (17, r11.1), (18, r12.1), (19, r13.1), (20, r14.1), (21, r15.1), (3, r16.1), (13, r17.1), (14, r18.1), (4, r19.1)]) r19.2) (
 (vl (e 3) r8.2).bind fun r20 =>
 (vl r20.1 r20.2).bind fun r21 =>
 some (r21.1, r21.2)) := (exC_loop P (EV P) 6 23 (cA (cA (cB (cA (cB (cB (bodyOf P 6))))))) e w (kBlock 0 (kSeq P (EV P) 6 23 (cB (cB (cB (bodyOf P 6)))) (kFn P (fnOf P 6))))).trans (by kernel_rfl)
theorem spec_HistPut_fn (x0 : Value) (w : World) : fnC P (EV P) 6 #[x0] w =
 (vl (Go.Value.string { data := #[] }) w).bind fun r1 =>
 (vl (Go.Value.string { data := #[] }) r1.2).bind fun r2 =>
 (vl (.int .i64 0) r2.2).bind fun r3 =>
 spec_HistPut_l1 (ups (env0 #[x0]) [(2, r1.1), (3, r2.1), (4, r3.1)]) r3.2 := by kernel_rfl
noncomputable def laws_toDoneS_l1 (e : Env) (w : World) : Option (Value × World) := exC P (EV P) 7 23 (.loop (cA (cA (cB (cA (cB (cB (bodyOf P 7)))))))) e w (kBlock 0 (kSeq P (EV P) 7 23 (cB (cB (cB (bodyOf P 7)))) (kFn P (fnOf P 7))))
theorem laws_toDoneS_l1_eq (e : Env) (w : World) : laws_toDoneS_l1 e w =
 (vl (e 4) w).bind fun r1 =>
 (vl (e 0) r1.2).bind fun r2 =>
 (b_len P #[22] 3 #[r2.1] r2.2).bind fun r3 =>
 (bo P .lss 3 (.tmp 8) (.tmp 10) r1.1 r3.1 r3.2).bind fun r4 =>
 cnd r4.1 (
 (vl (e 3) r4.2).bind fun r5 =>
 (vl (e 4) r5.2).bind fun r6 =>
 (vl (e 0) r6.2).bind fun r7 =>
 (vl (e 4) r7.2).bind fun r8 =>
 (ia P 22 r7.1 r8.1 r8.2).bind fun r9 =>
 (ld P 42 r9.1 r9.2).bind fun r10 =>
 (EV P 16 #[r10.1] r10.2).bind fun r11 =>
 (ia P 25 r5.1 r6.1 r11.2).bind fun r12 =>
 (st P 38 r12.1 r11.1 r12.2).bind fun r13 =>
 (vl (e 4) r13.2).bind fun r14 =>
 (bo P .add 3 (.tmp 12) (.const (.int .i64 1)) r14.1 (.int .i64 1) r14.2).bind fun r15 =>
 (vl r15.1 r15.2).bind fun r16 =>
 laws_toDoneS_l1 (ups e [(8, r1.1), (9, r2.1), (10, r3.1), (11, r4.1), (14, r5.1), (15, r6.1), (16, r7.1), (17, r8.1), (18, r9.1), (19, r10.1), (20, r11.1), (21, r12.1), (12, r14.1), (13, r15.1), (4, r16.1)]) r16.2) (
 (vl (e 3) r4.2).bind fun r17 =>
 (vl r17.1 r17.2).bind fun r18 =>
 some (r18.1, r18.2)) := (exC_loop P (EV P) 7 23 (cA (cA (cB (cA (cB (cB (bodyOf P 7))))))) e w (kBlock 0 (kSeq P (EV P) 7 23 (cB (cB (cB (bodyOf P 7)))) (kFn P (fnOf P 7))))).trans (by kernel_rfl)
theorem laws_toDoneS_fn (x0 : Value) (w : World) : fnC P (EV P) 7 #[x0] w =
 (vl (Go.Value.slice none 0 0) w).bind fun r1 =>
 (vl x0 r1.2).bind fun r2 =>
 (b_len P #[22] 3 #[r2.1] r2.2).bind fun r3 =>
 (ms P 25 r3.1 r3.1 r3.2).bind fun r4 =>
 (vl r4.1 r4.2).bind fun r5 =>
 (vl (.int .i64 0) r5.2).bind fun r6 =>
 laws_toDoneS_l1 (ups (env0 #[x0]) [(2, r1.1), (5, r2.1), (6, r3.1), (7, r4.1), (3, r5.1), (4, r6.1)]) r6.2 := by kernel_rfl
noncomputable def impl_HistPut_l1 (e : Env) (w : World) : Option (Value × World) := exC P (EV P) 8 39 (.loop (cA (cA (cB (cA (cB (cB (cB (bodyOf P 8))))))))) e w (kBlock 0 (kSeq P (EV P) 8 39 (cB (cB (cB (cB (bodyOf P 8))))) (kFn P (fnOf P 8))))
theorem impl_HistPut_l1_eq (e : Env) (w : World) : impl_HistPut_l1 e w =
 (bo P .lss 3 (.tmp 11) (.tmp 10) (e 11) (e 10) w).bind fun r1 =>
 cnd r1.1 (
 (ia P 25 (e 9) (e 11) r1.2).bind fun r2 =>
 (ld P 38 r2.1 r2.2).bind fun r3 =>
 (al P 38 r3.2).bind fun r4 =>
 (st P 38 r4.1 r3.1 r4.2).bind fun r5 =>
 (fa P 38 r4.1 0 (dw r5.2)).bind fun r7 =>
 ifP (r7.2 = (dw r5.2)) <|
 (ld P 3 r7.1 (dw r5.2)).bind fun r8 =>
 ifP (r8.2 = (dw r5.2)) <|
 (fa P 38 r4.1 1 (dw r5.2)).bind fun r9 =>
 ifP (r9.2 = (dw r5.2)) <|
 (ld P 3 r9.1 (dw r5.2)).bind fun r10 =>
 ifP (r10.2 = (dw r5.2)) <|
 (fa P 38 r4.1 2 (dw r5.2)).bind fun r11 =>
 ifP (r11.2 = (dw r5.2)) <|
 (ld P 3 r11.1 (dw r5.2)).bind fun r12 =>
 ifP (r12.2 = (dw r5.2)) <|
 (fa P 38 r4.1 3 (dw r5.2)).bind fun r13 =>
 ifP (r13.2 = (dw r5.2)) <|
 (ld P 36 r13.1 (dw r5.2)).bind fun r14 =>
 ifP (r14.2 = (dw r5.2)) <|
 (EV P 19 #[r8.1] (dw r5.2)).bind fun r15 =>
 ifP (ld P 36 r13.1 r15.2 = some (r14.1, r15.2) ∧ fa P 38 r4.1 3 r15.2 = some (r13.1, r15.2) ∧ ld P 3 r11.1 r15.2 = some (r12.1, r15.2) ∧ fa P 38 r4.1 2 r15.2 = some (r11.1, r15.2) ∧ ld P 3 r9.1 r15.2 = some (r10.1, r15.2) ∧ fa P 38 r4.1 1 r15.2 = some (r9.1, r15.2) ∧ True ∧ True ∧ True) <|
 (bo P .add 9 (.tmp 17) (.const (Go.Value.string { data := #[32] })) r15.1 (Go.Value.string { data := #[32] }) r15.2).bind fun r16 =>
 ifP (r16.2 = r15.2) <|
 (EV P 20 #[] r15.2).bind fun r17 =>
 ifP (bo P .add 9 (.tmp 17) (.const (Go.Value.string { data := #[32] })) r15.1 (Go.Value.string { data := #[32] }) r17.2 = some (r16.1, r17.2) ∧ ld P 36 r13.1 r17.2 = some (r14.1, r17.2) ∧ fa P 38 r4.1 3 r17.2 = some (r13.1, r17.2) ∧ ld P 3 r11.1 r17.2 = some (r12.1, r17.2) ∧ fa P 38 r4.1 2 r17.2 = some (r11.1, r17.2) ∧ ld P 3 r9.1 r17.2 = some (r10.1, r17.2) ∧ fa P 38 r4.1 1 r17.2 = some (r9.1, r17.2) ∧ True ∧ True ∧ True) <|
 (ia P 52 r17.1 r10.1 r17.2).bind fun r18 =>
 ifP (r18.2 = r17.2) <|
 (ld P 9 r18.1 r17.2).bind fun r19 =>
 ifP (r19.2 = r17.2) <|
 (bo P .add 9 (.tmp 18) (.tmp 23) r16.1 r19.1 r17.2).bind fun r20 =>
 ifP (r20.2 = r17.2) <|
 (bo P .add 9 (.tmp 24) (.const (Go.Value.string { data := #[32] })) r20.1 (Go.Value.string { data := #[32] }) r17.2).bind fun r21 =>
 ifP (r21.2 = r17.2) <|
 (EV P 19 #[r12.1] r17.2).bind fun r22 =>
 ifP (bo P .add 9 (.tmp 24) (.const (Go.Value.string { data := #[32] })) r20.1 (Go.Value.string { data := #[32] }) r22.2 = some (r21.1, r22.2) ∧ bo P .add 9 (.tmp 18) (.tmp 23) r16.1 r19.1 r22.2 = some (r20.1, r22.2) ∧ ld P 9 r18.1 r22.2 = some (r19.1, r22.2) ∧ ia P 52 r17.1 r10.1 r22.2 = some (r18.1, r22.2) ∧ bo P .add 9 (.tmp 17) (.const (Go.Value.string { data := #[32] })) r15.1 (Go.Value.string { data := #[32] }) r22.2 = some (r16.1, r22.2) ∧ ld P 36 r13.1 r22.2 = some (r14.1, r22.2) ∧ fa P 38 r4.1 3 r22.2 = some (r13.1, r22.2) ∧ True ∧ True ∧ ld P 3 r9.1 r22.2 = some (r10.1, r22.2) ∧ fa P 38 r4.1 1 r22.2 = some (r9.1, r22.2) ∧ True ∧ True ∧ True) <|
 (bo P .add 9 (.tmp 25) (.tmp 28) r21.1 r22.1 r22.2).bind fun r23 =>
 ifP (r23.2 = r22.2) <|
 (bo P .add 9 (.tmp 29) (.const (Go.Value.string { data := #[32] })) r23.1 (Go.Value.string { data := #[32] }) r22.2).bind fun r24 =>
 ifP (r24.2 = r22.2) <|
 (EV P 21 #[r14.1] r22.2).bind fun r25 =>
 ifP (bo P .add 9 (.tmp 29) (.const (Go.Value.string { data := #[32] })) r23.1 (Go.Value.string { data := #[32] }) r25.2 = some (r24.1, r25.2) ∧ bo P .add 9 (.tmp 25) (.tmp 28) r21.1 r22.1 r25.2 = some (r23.1, r25.2) ∧ bo P .add 9 (.tmp 24) (.const (Go.Value.string { data := #[32] })) r20.1 (Go.Value.string { data := #[32] }) r25.2 = some (r21.1, r25.2) ∧ bo P .add 9 (.tmp 18) (.tmp 23) r16.1 r19.1 r25.2 = some (r20.1, r25.2) ∧ ld P 9 r18.1 r25.2 = some (r19.1, r25.2) ∧ ia P 52 r17.1 r10.1 r25.2 = some (r18.1, r25.2) ∧ bo P .add 9 (.tmp 17) (.const (Go.Value.string { data := #[32] })) r15.1 (Go.Value.string { data := #[32] }) r25.2 = some (r16.1, r25.2) ∧ True ∧ True ∧ True ∧ True ∧ ld P 3 r9.1 r25.2 = some (r10.1, r25.2) ∧ fa P 38 r4.1 1 r25.2 = some (r9.1, r25.2) ∧ True ∧ True ∧ True) <|
 (bo P .add 9 (.tmp 30) (.tmp 33) r24.1 r25.1 r25.2).bind fun r26 =>
 ifP (r26.2 = r25.2) <|
 (bo P .add 9 (.tmp 34) (.const (Go.Value.string { data := #[10] })) r26.1 (Go.Value.string { data := #[10] }) r25.2).bind fun r27 =>
 ifP (r27.2 = r25.2) <|
 (EV P 18 #[(e 3), r27.1] r25.2).bind fun r28 =>
 ifP (True ∧ True ∧ True ∧ True ∧ True ∧ True ∧ True ∧ True ∧ True ∧ True ∧ True ∧ True ∧ True ∧ True ∧ True ∧ True ∧ True ∧ True) <|
 (bo P .add 3 (.tmp 11) (.const (.int .i64 1)) (e 11) (.int .i64 1) r28.2).bind fun r29 =>
 (vl r29.1 r29.2).bind fun r30 =>
 impl_HistPut_l1 (ups e [(12, r1.1), (13, r2.1), (14, r3.1), (5, r4.1), (15, r7.1), (16, r8.1), (20, r9.1), (21, r10.1), (26, r11.1), (27, r12.1), (31, r13.1), (32, r14.1), (17, r15.1), (18, r16.1), (19, r17.1), (22, r18.1), (23, r19.1), (24, r20.1), (25, r21.1), (28, r22.1), (29, r23.1), (30, r24.1), (33, r25.1), (34, r26.1), (35, r27.1), (36, r28.1), (37, r29.1), (11, r30.1)]) r30.2) (
 (EV P 22 #[(e 3)] r1.2).bind fun r31 =>
 (vl r31.1 r31.2).bind fun r32 =>
 some (r32.1, r32.2)) := (exC_loop P (EV P) 8 39 (cA (cA (cB (cA (cB (cB (cB (bodyOf P 8)))))))) e w (kBlock 0 (kSeq P (EV P) 8 39 (cB (cB (cB (cB (bodyOf P 8))))) (kFn P (fnOf P 8))))).trans (by kernel_rfl)
theorem impl_HistPut_fn (x0 : Value) (w : World) : fnC P (EV P) 8 #[x0] w =
 (vl (Go.Value.string { data := #[] }) w).bind fun r1 =>
 (vl x0 r1.2).bind fun r2 =>
 (EV P 17 #[r2.1] r2.2).bind fun r3 =>
 (uo P .not r3.1 r3.2).bind fun r4 =>
 cnd r4.1 (
 (vl (Go.Value.string { data := #[] }) r4.2).bind fun r5 =>
 some (r5.1, r5.2)) (
 (al P 46 r4.2).bind fun r6 =>
 (vl x0 r6.2).bind fun r7 =>
 (b_len P #[25] 3 #[r7.1] r7.2).bind fun r8 =>
 (vl (.int .i64 0) r8.2).bind fun r9 =>
 impl_HistPut_l1 (ups (env0 #[x0]) [(2, r1.1), (6, r2.1), (7, r3.1), (8, r4.1), (3, r6.1), (9, r7.1), (10, r8.1), (11, r9.1)]) r9.2) := by kernel_rfl
noncomputable def laws_eqDoneS_l1 (e : Env) (w : World) : Option (Value × World) := exC P (EV P) 9 27 (.loop (cA (cA (cB (cA (cB (cB (bodyOf P 9)))))))) e w (kBlock 0 (kSeq P (EV P) 9 27 (cB (cB (cB (bodyOf P 9)))) (kFn P (fnOf P 9))))
theorem laws_eqDoneS_l1_eq (e : Env) (w : World) : laws_eqDoneS_l1 e w =
 (vl (e 5) w).bind fun r1 =>
 (vl (e 0) r1.2).bind fun r2 =>
 (b_len P #[25] 3 #[r2.1] r2.2).bind fun r3 =>
 (bo P .lss 3 (.tmp 11) (.tmp 13) r1.1 r3.1 r3.2).bind fun r4 =>
 cnd r4.1 (
 (vl (e 0) (dw r4.2)).bind fun r6 =>
 ifP (r6.2 = (dw r4.2)) <|
 (vl (e 5) (dw r4.2)).bind fun r7 =>
 ifP (r7.2 = (dw r4.2)) <|
 (ia P 25 r6.1 r7.1 (dw r4.2)).bind fun r8 =>
 ifP (r8.2 = (dw r4.2)) <|
 (ld P 38 r8.1 (dw r4.2)).bind fun r9 =>
 ifP (r9.2 = (dw r4.2)) <|
 (vl (e 1) (dw r4.2)).bind fun r10 =>
 ifP (r10.2 = (dw r4.2)) <|
 (vl (e 5) (dw r4.2)).bind fun r11 =>
 ifP (r11.2 = (dw r4.2)) <|
 (ia P 25 r10.1 r11.1 (dw r4.2)).bind fun r12 =>
 ifP (r12.2 = (dw r4.2)) <|
 (ld P 38 r12.1 (dw r4.2)).bind fun r13 =>
 ifP (r13.2 = (dw r4.2)) <|
 (EV P 23 #[r9.1, r13.1] (dw r4.2)).bind fun r14 =>
 ifP (True ∧ True ∧ True ∧ True ∧ True) <|
 (uo P .not r14.1 r14.2).bind fun r15 =>
 ifP (r15.2 = r14.2) <|
 cnd r15.1 (
 (vl (.bool false) r14.2).bind fun r16 =>
 some (r16.1, r16.2)) (
 (vl (e 5) r14.2).bind fun r17 =>
 (bo P .add 3 (.tmp 15) (.const (.int .i64 1)) r17.1 (.int .i64 1) r17.2).bind fun r18 =>
 (vl r18.1 r18.2).bind fun r19 =>
 laws_eqDoneS_l1 (ups e [(11, r1.1), (12, r2.1), (13, r3.1), (14, r4.1), (17, r6.1), (18, r7.1), (19, r8.1), (20, r9.1), (21, r10.1), (22, r11.1), (23, r12.1), (24, r13.1), (25, r14.1), (26, r15.1), (15, r17.1), (16, r18.1), (5, r19.1)]) r19.2)) (
 (vl (.bool true) r4.2).bind fun r20 =>
 some (r20.1, r20.2)) := (exC_loop P (EV P) 9 27 (cA (cA (cB (cA (cB (cB (bodyOf P 9))))))) e w (kBlock 0 (kSeq P (EV P) 9 27 (cB (cB (cB (bodyOf P 9)))) (kFn P (fnOf P 9))))).trans (by kernel_rfl)
theorem laws_eqDoneS_fn (x0 x1 : Value) (w : World) : fnC P (EV P) 9 #[x0, x1] w =
 (vl (.bool false) w).bind fun r1 =>
 (vl x0 r1.2).bind fun r2 =>
 (b_len P #[25] 3 #[r2.1] r2.2).bind fun r3 =>
 (vl x1 r3.2).bind fun r4 =>
 (b_len P #[25] 3 #[r4.1] r4.2).bind fun r5 =>
 (bo P .neq 3 (.tmp 7) (.tmp 9) r3.1 r5.1 r5.2).bind fun r6 =>
 cnd r6.1 (
 (vl (.bool false) r6.2).bind fun r7 =>
 some (r7.1, r7.2)) (
 (vl (.int .i64 0) r6.2).bind fun r8 =>
 laws_eqDoneS_l1 (ups (env0 #[x0, x1]) [(4, r1.1), (6, r2.1), (7, r3.1), (8, r4.1), (9, r5.1), (10, r6.1), (5, r8.1)]) r8.2) := by kernel_rfl
noncomputable def spec_l6Form_l1 (e : Env) (w : World) : Option (Value × World) := exC P (EV P) 14 19 (.loop (cA (cA (cB (cA (cB (bodyOf P 14))))))) e w (kBlock 0 (kSeq P (EV P) 14 19 (cB (cB (bodyOf P 14))) (kFn P (fnOf P 14))))
theorem spec_l6Form_l1_eq (e : Env) (w : World) : spec_l6Form_l1 e w =
 (vl (e 3) w).bind fun r1 =>
 (vl (e 0) r1.2).bind fun r2 =>
 (b_len P #[25] 3 #[r2.1] r2.2).bind fun r3 =>
 (bo P .lss 3 (.tmp 4) (.tmp 6) r1.1 r3.1 r3.2).bind fun r4 =>
 cnd r4.1 (
 (vl (e 0) r4.2).bind fun r5 =>
 (vl (e 3) r5.2).bind fun r6 =>
 (ia P 25 r5.1 r6.1 r6.2).bind fun r7 =>
 (ld P 38 r7.1 r7.2).bind fun r8 =>
 (EV P 28 #[r8.1] r8.2).bind fun r9 =>
 (uo P .not r9.1 r9.2).bind fun r10 =>
 cnd r10.1 (
 (vl (.bool false) r10.2).bind fun r11 =>
 some (r11.1, r11.2)) (
 (vl (e 3) r10.2).bind fun r12 =>
 (bo P .add 3 (.tmp 8) (.const (.int .i64 1)) r12.1 (.int .i64 1) r12.2).bind fun r13 =>
 (vl r13.1 r13.2).bind fun r14 =>
 spec_l6Form_l1 (ups e [(4, r1.1), (5, r2.1), (6, r3.1), (7, r4.1), (10, r5.1), (11, r6.1), (12, r7.1), (13, r8.1), (14, r9.1), (15, r10.1), (8, r12.1), (9, r13.1), (3, r14.1)]) r14.2)) (
 (vl (e 0) r4.2).bind fun r15 =>
 (b_len P #[25] 3 #[r15.1] r15.2).bind fun r16 =>
 (bo P .leq 3 (.tmp 17) (.const (.int .i64 80)) r16.1 (.int .i64 80) r16.2).bind fun r17 =>
 (vl r17.1 r17.2).bind fun r18 =>
 some (r18.1, r18.2)) := (exC_loop P (EV P) 14 19 (cA (cA (cB (cA (cB (bodyOf P 14)))))) e w (kBlock 0 (kSeq P (EV P) 14 19 (cB (cB (bodyOf P 14))) (kFn P (fnOf P 14))))).trans (by kernel_rfl)
theorem spec_l6Form_fn (x0 : Value) (w : World) : fnC P (EV P) 14 #[x0] w =
 (vl (.bool false) w).bind fun r1 =>
 (vl (.int .i64 0) r1.2).bind fun r2 =>
 spec_l6Form_l1 (ups (env0 #[x0]) [(2, r1.1), (3, r2.1)]) r2.2 := by kernel_rfl
theorem spec_l6Line_fn (x0 : Value) (w : World) : fnC P (EV P) 15 #[x0] w =
 (bx P 38 x0 w).bind fun r1 =>
 (vl (Go.Value.string { data := #[] }) r1.2).bind fun r2 =>
 (fa P 38 r1.1 0 (dw r2.2)).bind fun r4 =>
 ifP (r4.2 = (dw r2.2)) <|
 (ld P 3 r4.1 (dw r2.2)).bind fun r5 =>
 ifP (r5.2 = (dw r2.2)) <|
 (fa P 38 r1.1 1 (dw r2.2)).bind fun r6 =>
 ifP (r6.2 = (dw r2.2)) <|
 (ld P 3 r6.1 (dw r2.2)).bind fun r7 =>
 ifP (r7.2 = (dw r2.2)) <|
 (fa P 38 r1.1 2 (dw r2.2)).bind fun r8 =>
 ifP (r8.2 = (dw r2.2)) <|
 (ld P 3 r8.1 (dw r2.2)).bind fun r9 =>
 ifP (r9.2 = (dw r2.2)) <|
 (fa P 38 r1.1 3 (dw r2.2)).bind fun r10 =>
 ifP (r10.2 = (dw r2.2)) <|
 (ld P 36 r10.1 (dw r2.2)).bind fun r11 =>
 ifP (r11.2 = (dw r2.2)) <|
 (EV P 32 #[r5.1] (dw r2.2)).bind fun r12 =>
 ifP (ld P 36 r10.1 r12.2 = some (r11.1, r12.2) ∧ fa P 38 r1.1 3 r12.2 = some (r10.1, r12.2) ∧ ld P 3 r8.1 r12.2 = some (r9.1, r12.2) ∧ fa P 38 r1.1 2 r12.2 = some (r8.1, r12.2) ∧ ld P 3 r6.1 r12.2 = some (r7.1, r12.2) ∧ fa P 38 r1.1 1 r12.2 = some (r6.1, r12.2) ∧ True ∧ True ∧ True) <|
 (bo P .add 9 (.tmp 5) (.const (Go.Value.string { data := #[32] })) r12.1 (Go.Value.string { data := #[32] }) r12.2).bind fun r13 =>
 ifP (r13.2 = r12.2) <|
 (EV P 27 #[] r12.2).bind fun r14 =>
 ifP (bo P .add 9 (.tmp 5) (.const (Go.Value.string { data := #[32] })) r12.1 (Go.Value.string { data := #[32] }) r14.2 = some (r13.1, r14.2) ∧ ld P 36 r10.1 r14.2 = some (r11.1, r14.2) ∧ fa P 38 r1.1 3 r14.2 = some (r10.1, r14.2) ∧ ld P 3 r8.1 r14.2 = some (r9.1, r14.2) ∧ fa P 38 r1.1 2 r14.2 = some (r8.1, r14.2) ∧ ld P 3 r6.1 r14.2 = some (r7.1, r14.2) ∧ fa P 38 r1.1 1 r14.2 = some (r6.1, r14.2) ∧ True ∧ True ∧ True) <|
 (ia P 52 r14.1 r7.1 r14.2).bind fun r15 =>
 ifP (r15.2 = r14.2) <|
 (ld P 9 r15.1 r14.2).bind fun r16 =>
 ifP (r16.2 = r14.2) <|
 (bo P .add 9 (.tmp 6) (.tmp 11) r13.1 r16.1 r14.2).bind fun r17 =>
 ifP (r17.2 = r14.2) <|
 (bo P .add 9 (.tmp 12) (.const (Go.Value.string { data := #[32] })) r17.1 (Go.Value.string { data := #[32] }) r14.2).bind fun r18 =>
 ifP (r18.2 = r14.2) <|
 (EV P 32 #[r9.1] r14.2).bind fun r19 =>
 ifP (bo P .add 9 (.tmp 12) (.const (Go.Value.string { data := #[32] })) r17.1 (Go.Value.string { data := #[32] }) r19.2 = some (r18.1, r19.2) ∧ bo P .add 9 (.tmp 6) (.tmp 11) r13.1 r16.1 r19.2 = some (r17.1, r19.2) ∧ ld P 9 r15.1 r19.2 = some (r16.1, r19.2) ∧ ia P 52 r14.1 r7.1 r19.2 = some (r15.1, r19.2) ∧ bo P .add 9 (.tmp 5) (.const (Go.Value.string { data := #[32] })) r12.1 (Go.Value.string { data := #[32] }) r19.2 = some (r13.1, r19.2) ∧ ld P 36 r10.1 r19.2 = some (r11.1, r19.2) ∧ fa P 38 r1.1 3 r19.2 = some (r10.1, r19.2) ∧ True ∧ True ∧ ld P 3 r6.1 r19.2 = some (r7.1, r19.2) ∧ fa P 38 r1.1 1 r19.2 = some (r6.1, r19.2) ∧ True ∧ True ∧ True) <|
 (bo P .add 9 (.tmp 13) (.tmp 16) r18.1 r19.1 r19.2).bind fun r20 =>
 ifP (r20.2 = r19.2) <|
 (bo P .add 9 (.tmp 17) (.const (Go.Value.string { data := #[32] })) r20.1 (Go.Value.string { data := #[32] }) r19.2).bind fun r21 =>
 ifP (r21.2 = r19.2) <|
 (EV P 33 #[r11.1] r19.2).bind fun r22 =>
 ifP (bo P .add 9 (.tmp 17) (.const (Go.Value.string { data := #[32] })) r20.1 (Go.Value.string { data := #[32] }) r22.2 = some (r21.1, r22.2) ∧ bo P .add 9 (.tmp 13) (.tmp 16) r18.1 r19.1 r22.2 = some (r20.1, r22.2) ∧ bo P .add 9 (.tmp 12) (.const (Go.Value.string { data := #[32] })) r17.1 (Go.Value.string { data := #[32] }) r22.2 = some (r18.1, r22.2) ∧ bo P .add 9 (.tmp 6) (.tmp 11) r13.1 r16.1 r22.2 = some (r17.1, r22.2) ∧ ld P 9 r15.1 r22.2 = some (r16.1, r22.2) ∧ ia P 52 r14.1 r7.1 r22.2 = some (r15.1, r22.2) ∧ bo P .add 9 (.tmp 5) (.const (Go.Value.string { data := #[32] })) r12.1 (Go.Value.string { data := #[32] }) r22.2 = some (r13.1, r22.2) ∧ True ∧ True ∧ True ∧ True ∧ ld P 3 r6.1 r22.2 = some (r7.1, r22.2) ∧ fa P 38 r1.1 1 r22.2 = some (r6.1, r22.2) ∧ True ∧ True ∧ True) <|
 (bo P .add 9 (.tmp 18) (.tmp 21) r21.1 r22.1 r22.2).bind fun r23 =>
 ifP (r23.2 = r22.2) <|
 (bo P .add 9 (.tmp 22) (.const (Go.Value.string { data := #[10] })) r23.1 (Go.Value.string { data := #[10] }) r22.2).bind fun r24 =>
 ifP (r24.2 = r22.2) <|
 (vl r24.1 r22.2).bind fun r25 =>
 ifP (r25.2 = r22.2) <|
 some (r25.1, r22.2) := by kernel_rfl
theorem laws_toDone_fn (x0 : Value) (w : World) : fnC P (EV P) 16 #[x0] w =
 (bx P 42 x0 w).bind fun r1 =>
 (al P 38 r1.2).bind fun r2 =>
 (al P 38 r2.2).bind fun r3 =>
 (fa P 42 r1.1 0 r3.2).bind fun r4 =>
 (ld P 3 r4.1 r4.2).bind fun r5 =>
 (fa P 38 r3.1 0 r5.2).bind fun r6 =>
 (st P 3 r6.1 r5.1 r6.2).bind fun r7 =>
 (fa P 42 r1.1 1 r7.2).bind fun r8 =>
 (ld P 3 r8.1 r8.2).bind fun r9 =>
 (fa P 38 r3.1 1 r9.2).bind fun r10 =>
 (st P 3 r10.1 r9.1 r10.2).bind fun r11 =>
 (fa P 42 r1.1 2 r11.2).bind fun r12 =>
 (ld P 3 r12.1 r12.2).bind fun r13 =>
 (fa P 38 r3.1 2 r13.2).bind fun r14 =>
 (st P 3 r14.1 r13.1 r14.2).bind fun r15 =>
 (fa P 42 r1.1 3 r15.2).bind fun r16 =>
 (ld P 40 r16.1 r16.2).bind fun r17 =>
 (EV P 34 #[r17.1] r17.2).bind fun r18 =>
 (fa P 38 r3.1 3 r18.2).bind fun r19 =>
 (st P 36 r19.1 r18.1 r19.2).bind fun r20 =>
 (ld P 38 r3.1 r20.2).bind fun r21 =>
 (st P 38 r2.1 r21.1 r21.2).bind fun r22 =>
 ((ld P 38 r2.1 r22.2).bind fun r23 => ifP (r23.2 = r22.2) (some r23.1)).bind fun v24 =>
 some (v24, r22.2) := by kernel_rfl
theorem impl_formed_fn (x0 : Value) (w : World) : fnC P (EV P) 17 #[x0] w =
 (vl (.bool false) w).bind fun r1 =>
 (vl x0 r1.2).bind fun r2 =>
 (b_len P #[25] 3 #[r2.1] r2.2).bind fun r3 =>
 (bo P .leq 3 (.tmp 4) (.const (.int .i64 80)) r3.1 (.int .i64 80) r3.2).bind fun r4 =>
 (vl r4.1 r4.2).bind fun r5 =>
 (gif r5.1 true (vl x0 r5.2) r5.2).bind fun r6 =>
 (gif r5.1 true (EV P 35 #[r6.1, (.func (.func 36) #[] #[])] r6.2) r6.2).bind fun r7 =>
 (gif r5.1 true (uo P .not r7.1 r7.2) r7.2).bind fun r8 =>
 (pickV r5.1 r8.1 (.bool false) r8.2).bind fun r9 =>
 (vl r9.1 r9.2).bind fun r10 =>
 some (r10.1, r10.2) := by kernel_rfl
theorem strings_Builder_WriteString_fn (x0 x1 : Value) (w : World) : fnC P (EV P) 18 #[x0, x1] w =
 (vl (.int .i64 0) w).bind fun r1 =>
 (vl Go.Value.nilIface r1.2).bind fun r2 =>
 (vl x0 r2.2).bind fun r3 =>
 (EV P 40 #[r3.1] r3.2).bind fun r4 =>
 (vl x0 r4.2).bind fun r5 =>
 (vl x0 r5.2).bind fun r6 =>
 (nk P r6.1 r6.2).bind fun r7 =>
 (fa P 46 r7.1 1 r7.2).bind fun r8 =>
 (ld P 44 r8.1 r8.2).bind fun r9 =>
 (vl x1 r9.2).bind fun r10 =>
 (b_append P #[44, 9] 44 #[r9.1, r10.1] r10.2).bind fun r11 =>
 (nk P r5.1 r11.2).bind fun r12 =>
 (fa P 46 r12.1 1 r12.2).bind fun r13 =>
 (st P 44 r13.1 r11.1 r13.2).bind fun r14 =>
 (vl x1 r14.2).bind fun r15 =>
 (b_len P #[9] 3 #[r15.1] r15.2).bind fun r16 =>
 (vl r16.1 r16.2).bind fun r17 =>
 (vl Go.Value.nilIface r17.2).bind fun r18 =>
 some (.tuple #[r17.1, r18.1], r18.2) := by kernel_rfl
theorem strconv_Itoa_fn (x0 : Value) (w : World) : fnC P (EV P) 19 #[x0] w =
 (vl (Go.Value.string { data := #[] }) w).bind fun r1 =>
 (vl x0 r1.2).bind fun r2 =>
 (EV P 41 #[r2.1] r2.2).bind fun r3 =>
 (vl r3.1 r3.2).bind fun r4 =>
 some (r4.1, r4.2) := by kernel_rfl
theorem impl_doneNames_fn (w : World) : fnC P (EV P) 20 #[] w =
 (vl (Go.Value.slice none 0 0) w).bind fun r1 =>
 (bs P 52 4 #[(0, (Go.Value.string { data := #[] })), (1, (Go.Value.string { data := #[119, 114, 105, 116, 101] })), (2, (Go.Value.string { data := #[114, 101, 97, 100] })), (3, (Go.Value.string { data := #[115, 117, 114, 101] }))] r1.2).bind fun r2 =>
 (vl r2.1 r2.2).bind fun r3 =>
 some (r3.1, r3.2) := by kernel_rfl
theorem impl_Tag_text_fn (x0 : Value) (w : World) : fnC P (EV P) 21 #[x0] w =
 (bx P 36 x0 w).bind fun r1 =>
 (vl (Go.Value.string { data := #[] }) r1.2).bind fun r2 =>
 (fa P 36 r1.1 0 (dw r2.2)).bind fun r4 =>
 ifP (r4.2 = (dw r2.2)) <|
 (ld P 3 r4.1 (dw r2.2)).bind fun r5 =>
 ifP (r5.2 = (dw r2.2)) <|
 (fa P 36 r1.1 1 (dw r2.2)).bind fun r6 =>
 ifP (r6.2 = (dw r2.2)) <|
 (ld P 3 r6.1 (dw r2.2)).bind fun r7 =>
 ifP (r7.2 = (dw r2.2)) <|
 (EV P 19 #[r5.1] (dw r2.2)).bind fun r8 =>
 ifP (ld P 3 r6.1 r8.2 = some (r7.1, r8.2) ∧ fa P 36 r1.1 1 r8.2 = some (r6.1, r8.2) ∧ True ∧ True ∧ True) <|
 (bo P .add 9 (.tmp 5) (.const (Go.Value.string { data := #[46] })) r8.1 (Go.Value.string { data := #[46] }) r8.2).bind fun r9 =>
 ifP (r9.2 = r8.2) <|
 (EV P 19 #[r7.1] r8.2).bind fun r10 =>
 ifP (bo P .add 9 (.tmp 5) (.const (Go.Value.string { data := #[46] })) r8.1 (Go.Value.string { data := #[46] }) r10.2 = some (r9.1, r10.2) ∧ True ∧ True ∧ True ∧ True ∧ True) <|
 (bo P .add 9 (.tmp 6) (.tmp 9) r9.1 r10.1 r10.2).bind fun r11 =>
 ifP (r11.2 = r10.2) <|
 (vl r11.1 r10.2).bind fun r12 =>
 ifP (r12.2 = r10.2) <|
 some (r12.1, r10.2) := by kernel_rfl
theorem strings_Builder_String_fn (x0 : Value) (w : World) : fnC P (EV P) 22 #[x0] w =
 (vl (Go.Value.string { data := #[] }) w).bind fun r1 =>
 (vl x0 (dw r1.2)).bind fun r3 =>
 ifP (r3.2 = (dw r1.2)) <|
 (nk P r3.1 (dw r1.2)).bind fun r4 =>
 ifP (r4.2 = (dw r1.2)) <|
 (fa P 46 r4.1 1 (dw r1.2)).bind fun r5 =>
 ifP (r5.2 = (dw r1.2)) <|
 (ld P 44 r5.1 (dw r1.2)).bind fun r6 =>
 ifP (r6.2 = (dw r1.2)) <|
 (vl x0 (dw r1.2)).bind fun r7 =>
 ifP (r7.2 = (dw r1.2)) <|
 (nk P r7.1 (dw r1.2)).bind fun r8 =>
 ifP (r8.2 = (dw r1.2)) <|
 (fa P 46 r8.1 1 (dw r1.2)).bind fun r9 =>
 ifP (r9.2 = (dw r1.2)) <|
 (ld P 44 r9.1 (dw r1.2)).bind fun r10 =>
 ifP (r10.2 = (dw r1.2)) <|
 (b_len P #[44] 3 #[r10.1] (dw r1.2)).bind fun r11 =>
 ifP (r11.2 = (dw r1.2)) <|
 (gn P { dst := (some 7), op := (Go.Op.call { callee := (Go.Callee.builtin Go.Builtin.unsafeSliceData), args := #[(Go.Operand.tmp 6)], argTypes := #[44] }), type := 72, pos := "builder.go:47", after := #[{ on := 3, ground := Go.Ground.data }], guard := none } (ups (env0 #[x0]) [(2, r1.1), (3, r3.1), (4, r4.1), (5, r5.1), (6, r6.1), (8, r7.1), (9, r8.1), (10, r9.1), (11, r10.1), (12, r11.1)]) (dw r1.2)).bind fun r12 =>
 ifP (b_len P #[44] 3 #[r10.1] r12.2 = some (r11.1, r12.2) ∧ ld P 44 r9.1 r12.2 = some (r10.1, r12.2) ∧ fa P 46 r8.1 1 r12.2 = some (r9.1, r12.2) ∧ nk P r7.1 r12.2 = some (r8.1, r12.2) ∧ True ∧ True ∧ True ∧ True) <|
 (gn P { dst := (some 13), op := (Go.Op.call { callee := (Go.Callee.builtin Go.Builtin.unsafeString), args := #[(Go.Operand.tmp 7), (Go.Operand.tmp 12)], argTypes := #[72, 3] }), type := 9, pos := "builder.go:47", after := #[{ on := 4, ground := Go.Ground.data }, { on := 9, ground := Go.Ground.data }], guard := none } (ups (env0 #[x0]) [(2, r1.1), (3, r3.1), (4, r4.1), (5, r5.1), (6, r6.1), (8, r7.1), (9, r8.1), (10, r9.1), (11, r10.1), (12, r11.1), (7, r12.1)]) r12.2).bind fun r13 =>
 ifP (True ∧ True ∧ True ∧ True ∧ True ∧ True ∧ True ∧ True) <|
 (vl r13.1 r13.2).bind fun r14 =>
 ifP (r14.2 = r13.2) <|
 some (r14.1, r13.2) := by kernel_rfl
theorem laws_eqDone_fn (x0 x1 : Value) (w : World) : fnC P (EV P) 23 #[x0, x1] w =
 (bx P 38 x0 w).bind fun r1 =>
 (bx P 38 x1 r1.2).bind fun r2 =>
 (vl (.bool false) r2.2).bind fun r3 =>
 (fa P 38 r1.1 0 r3.2).bind fun r4 =>
 (ld P 3 r4.1 r4.2).bind fun r5 =>
 (fa P 38 r2.1 0 r5.2).bind fun r6 =>
 (ld P 3 r6.1 r6.2).bind fun r7 =>
 (bo P .neq 3 (.tmp 6) (.tmp 8) r5.1 r7.1 r7.2).bind fun r8 =>
 cnd r8.1 (
 (vl (.bool false) r8.2).bind fun r9 =>
 some (r9.1, r9.2)) (
 (fa P 38 r1.1 1 r8.2).bind fun r10 =>
 (ld P 3 r10.1 r10.2).bind fun r11 =>
 (fa P 38 r2.1 1 r11.2).bind fun r12 =>
 (ld P 3 r12.1 r12.2).bind fun r13 =>
 (bo P .neq 3 (.tmp 11) (.tmp 13) r11.1 r13.1 r13.2).bind fun r14 =>
 cnd r14.1 (
 (vl (.bool false) r14.2).bind fun r15 =>
 some (r15.1, r15.2)) (
 (fa P 38 r1.1 2 r14.2).bind fun r16 =>
 (ld P 3 r16.1 r16.2).bind fun r17 =>
 (fa P 38 r2.1 2 r17.2).bind fun r18 =>
 (ld P 3 r18.1 r18.2).bind fun r19 =>
 (bo P .neq 3 (.tmp 16) (.tmp 18) r17.1 r19.1 r19.2).bind fun r20 =>
 cnd r20.1 (
 (vl (.bool false) r20.2).bind fun r21 =>
 some (r21.1, r21.2)) (
 (fa P 38 r1.1 3 r20.2).bind fun r22 =>
 (ld P 36 r22.1 r22.2).bind fun r23 =>
 (fa P 38 r2.1 3 r23.2).bind fun r24 =>
 (ld P 36 r24.1 r24.2).bind fun r25 =>
 (EV P 42 #[r23.1, r25.1] r25.2).bind fun r26 =>
 (uo P .not r26.1 r26.2).bind fun r27 =>
 cnd r27.1 (
 (vl (.bool false) r27.2).bind fun r28 =>
 some (r28.1, r28.2)) (
 (vl (.bool true) r27.2).bind fun r29 =>
 some (r29.1, r29.2))))) := by kernel_rfl
theorem spec_l6Words_fn (w : World) : fnC P (EV P) 27 #[] w =
 (vl (Go.Value.slice none 0 0) w).bind fun r1 =>
 (bs P 52 4 #[(0, (Go.Value.string { data := #[] })), (1, (Go.Value.string { data := #[119, 114, 105, 116, 101] })), (2, (Go.Value.string { data := #[114, 101, 97, 100] })), (3, (Go.Value.string { data := #[115, 117, 114, 101] }))] r1.2).bind fun r2 =>
 (vl r2.1 r2.2).bind fun r3 =>
 some (r3.1, r3.2) := by kernel_rfl
theorem spec_l5OpOk_fn (x0 : Value) (w : World) : fnC P (EV P) 28 #[x0] w =
 (bx P 38 x0 w).bind fun r1 =>
 (vl (.bool false) r1.2).bind fun r2 =>
 (fa P 38 r1.1 0 r2.2).bind fun r3 =>
 (ld P 3 r3.1 r3.2).bind fun r4 =>
 (EV P 44 #[r4.1, (.int .i64 0), (.int .i64 3)] r4.2).bind fun r5 =>
 (vl r5.1 r5.2).bind fun r6 =>
 (gif r6.1 true (fa P 38 r1.1 1 r6.2) r6.2).bind fun r7 =>
 (gif r6.1 true (ld P 3 r7.1 r7.2) r7.2).bind fun r8 =>
 (gif r6.1 true (EV P 44 #[r8.1, (.int .i64 1), (.int .i64 3)] r8.2) r8.2).bind fun r9 =>
 (pickV r6.1 r9.1 (.bool false) r9.2).bind fun r10 =>
 (vl r10.1 r10.2).bind fun r11 =>
 (gif r11.1 true (fa P 38 r1.1 2 r11.2) r11.2).bind fun r12 =>
 (gif r11.1 true (ld P 3 r12.1 r12.2) r12.2).bind fun r13 =>
 (gif r11.1 true (EV P 44 #[r13.1, (.int .i64 0), (.int .i64 3)] r13.2) r13.2).bind fun r14 =>
 (pickV r11.1 r14.1 (.bool false) r14.2).bind fun r15 =>
 (vl r15.1 r15.2).bind fun r16 =>
 (gif r16.1 true (fa P 38 r1.1 3 r16.2) r16.2).bind fun r17 =>
 (gif r16.1 true (ld P 36 r17.1 r17.2) r17.2).bind fun r18 =>
 (gif r16.1 true (EV P 43 #[r18.1] r18.2) r18.2).bind fun r19 =>
 (pickV r16.1 r19.1 (.bool false) r19.2).bind fun r20 =>
 (vl r20.1 r20.2).bind fun r21 =>
 (gif r21.1 true (fa P 38 r1.1 1 r21.2) r21.2).bind fun r22 =>
 (gif r21.1 true (ld P 3 r22.1 r22.2) r22.2).bind fun r23 =>
 (gif r21.1 true (bo P .eql 3 (.tmp 23) (.const (.int .i64 2)) r23.1 (.int .i64 2) r23.2) r23.2).bind fun r24 =>
 (gif r21.1 true (vl r24.1 r24.2) r24.2).bind fun r25 =>
 (gif r25.1 false (fa P 38 r1.1 3 r25.2) r25.2).bind fun r26 =>
 (gif r25.1 false (fa P 36 r26.1 0 r26.2) r26.2).bind fun r27 =>
 (gif r25.1 false (ld P 3 r27.1 r27.2) r27.2).bind fun r28 =>
 (gif r25.1 false (bo P .gtr 3 (.tmp 28) (.const (.int .i64 0)) r28.1 (.int .i64 0) r28.2) r28.2).bind fun r29 =>
 (gif r21.1 true (pickV r25.1 (.bool true) r29.1 r29.2) r29.2).bind fun r30 =>
 (pickV r21.1 r30.1 (.bool false) r30.2).bind fun r31 =>
 (vl r31.1 r31.2).bind fun r32 =>
 some (r32.1, r32.2) := by kernel_rfl
noncomputable def spec_l1Dec_a1 (e : Env) (w : World) : Option (Value × World) := exC P (EV P) 32 28 (cA (cB (cB (cB (cB (bodyOf P 32)))))) e w (kSeq P (EV P) 32 28 (cB (cB (cB (cB (cB (bodyOf P 32)))))) (kFn P (fnOf P 32)))
noncomputable def spec_l1Dec_j1 (e : Env) (w : World) : Option (Value × World) := exC P (EV P) 32 28 (cB (cB (cB (cB (cB (bodyOf P 32)))))) e w (kFn P (fnOf P 32))
theorem spec_l1Dec_a1_any (e : Env) (w : World) {Q : Value × World → Prop} (h :
 (Ret (vl (e 0) (dw w)) fun r1 => r1.2 = (dw w) ∧
 (Ret (bo P .quo 3 (.tmp 18) (.const (.int .i64 10)) r1.1 (.int .i64 10) (dw w)) fun r2 => r2.2 = (dw w) ∧
 (Ret (vl (e 0) (dw w)) fun r3 => r3.2 = (dw w) ∧
 (Ret (bo P .rem 3 (.tmp 21) (.const (.int .i64 10)) r3.1 (.int .i64 10) (dw w)) fun r4 => r4.2 = (dw w) ∧
 (Ret (bo P .add 3 (.const (.int .i64 48)) (.tmp 22) (.int .i64 48) r4.1 (dw w)) fun r5 => r5.2 = (dw w) ∧
 (Ret (cv P 3 5 r5.1 (dw w)) fun r6 => r6.2 = (dw w) ∧
 ((Ret (EV P 32 #[r2.1] (dw w)) fun r7 => (cv P 3 5 r5.1 r7.2 = some (r6.1, r7.2) ∧ bo P .add 3 (.const (.int .i64 48)) (.tmp 22) (.int .i64 48) r4.1 r7.2 = some (r5.1, r7.2) ∧ bo P .rem 3 (.tmp 21) (.const (.int .i64 10)) r3.1 (.int .i64 10) r7.2 = some (r4.1, r7.2) ∧ True ∧ True) ∧
 ((Ret (bs P 44 1 #[(0, r6.1)] r7.2) fun r8 => (True ∧ True ∧ True ∧ bo P .quo 3 (.tmp 18) (.const (.int .i64 10)) r1.1 (.int .i64 10) r8.2 = some (r2.1, r8.2) ∧ True) ∧
 (Ret (cv P 44 9 r8.1 r8.2) fun r9 => r9.2 = r8.2 ∧
 (Ret (bo P .add 9 (.tmp 20) (.tmp 26) r7.1 r9.1 r8.2) fun r10 => r10.2 = r8.2 ∧
 (Ret (vl r10.1 r8.2) fun r11 => r11.2 = r8.2 ∧
 Ret (spec_l1Dec_j1 (ups e [(18, r1.1), (19, r2.1), (21, r3.1), (22, r4.1), (23, r5.1), (24, r6.1), (20, r7.1), (25, r8.1), (26, r9.1), (27, r10.1), (2, r11.1)]) r8.2) Q)))))) ∧
 (Ret (bs P 44 1 #[(0, r6.1)] (dw w)) fun r12 => (True ∧ True ∧ True ∧ bo P .quo 3 (.tmp 18) (.const (.int .i64 10)) r1.1 (.int .i64 10) r12.2 = some (r2.1, r12.2) ∧ True) ∧
 (Ret (cv P 44 9 r12.1 r12.2) fun r13 => r13.2 = r12.2 ∧
 ((Ret (EV P 32 #[r2.1] r12.2) fun r14 => (cv P 44 9 r12.1 r14.2 = some (r13.1, r14.2) ∧ cv P 3 5 r5.1 r14.2 = some (r6.1, r14.2) ∧ bo P .add 3 (.const (.int .i64 48)) (.tmp 22) (.int .i64 48) r4.1 r14.2 = some (r5.1, r14.2) ∧ bo P .rem 3 (.tmp 21) (.const (.int .i64 10)) r3.1 (.int .i64 10) r14.2 = some (r4.1, r14.2) ∧ True ∧ True) ∧
 (Ret (bo P .add 9 (.tmp 20) (.tmp 26) r14.1 r13.1 r14.2) fun r15 => r15.2 = r14.2 ∧
 (Ret (vl r15.1 r14.2) fun r16 => r16.2 = r14.2 ∧
 Ret (spec_l1Dec_j1 (ups e [(18, r1.1), (19, r2.1), (21, r3.1), (22, r4.1), (23, r5.1), (24, r6.1), (25, r12.1), (26, r13.1), (20, r14.1), (27, r15.1), (2, r16.1)]) r14.2) Q)))))))))))))) : Ret (spec_l1Dec_a1 e w) Q := exC_any (id := 7) (ops := opsOf (cA (cB (cB (cB (cB (bodyOf P 32))))))) (by kernel_rfl) (by kernel_rfl) (Eq.mpr (by kernel_rfl) h)
theorem spec_l1Dec_j1_eq (e : Env) (w : World) : spec_l1Dec_j1 e w =
 some ((e 2), w) := by kernel_rfl
theorem spec_l1Dec_fn (x0 : Value) (w : World) : fnC P (EV P) 32 #[x0] w =
 (vl (Go.Value.string { data := #[] }) w).bind fun r1 =>
 (vl x0 r1.2).bind fun r2 =>
 (bo P .lss 3 (.tmp 3) (.const (.int .i64 (-9223372036854775807))) r2.1 (.int .i64 (-9223372036854775807)) r2.2).bind fun r3 =>
 cnd r3.1 (
 (vl (Go.Value.string { data := #[45, 57, 50, 50, 51, 51, 55, 50, 48, 51, 54, 56, 53, 52, 55, 55, 53, 56, 48, 56] }) r3.2).bind fun r4 =>
 some (r4.1, r4.2)) (
 (vl x0 r3.2).bind fun r5 =>
 (bo P .lss 3 (.tmp 5) (.const (.int .i64 0)) r5.1 (.int .i64 0) r5.2).bind fun r6 =>
 cnd r6.1 (
 (vl x0 r6.2).bind fun r7 =>
 (uo P .neg r7.1 r7.2).bind fun r8 =>
 (EV P 32 #[r8.1] r8.2).bind fun r9 =>
 (bo P .add 9 (.const (Go.Value.string { data := #[45] })) (.tmp 9) (Go.Value.string { data := #[45] }) r9.1 r9.2).bind fun r10 =>
 (vl r10.1 r10.2).bind fun r11 =>
 some (r11.1, r11.2)) (
 (vl x0 r6.2).bind fun r12 =>
 (bo P .lss 3 (.tmp 11) (.const (.int .i64 10)) r12.1 (.int .i64 10) r12.2).bind fun r13 =>
 cnd r13.1 (
 (vl x0 r13.2).bind fun r14 =>
 (bo P .add 3 (.const (.int .i64 48)) (.tmp 13) (.int .i64 48) r14.1 r14.2).bind fun r15 =>
 (cv P 3 5 r15.1 r15.2).bind fun r16 =>
 (bs P 44 1 #[(0, r16.1)] r16.2).bind fun r17 =>
 (cv P 44 9 r17.1 r17.2).bind fun r18 =>
 (vl r18.1 r18.2).bind fun r19 =>
 some (r19.1, r19.2)) (
 spec_l1Dec_a1 (ups (env0 #[x0]) [(2, r1.1), (3, r2.1), (4, r3.1), (5, r5.1), (6, r6.1), (11, r12.1), (12, r13.1)]) r13.2))) := by kernel_rfl
theorem spec_l1Put_fn (x0 : Value) (w : World) : fnC P (EV P) 33 #[x0] w =
 (bx P 36 x0 w).bind fun r1 =>
 (vl (Go.Value.string { data := #[] }) r1.2).bind fun r2 =>
 (fa P 36 r1.1 0 (dw r2.2)).bind fun r4 =>
 ifP (r4.2 = (dw r2.2)) <|
 (ld P 3 r4.1 (dw r2.2)).bind fun r5 =>
 ifP (r5.2 = (dw r2.2)) <|
 (fa P 36 r1.1 1 (dw r2.2)).bind fun r6 =>
 ifP (r6.2 = (dw r2.2)) <|
 (ld P 3 r6.1 (dw r2.2)).bind fun r7 =>
 ifP (r7.2 = (dw r2.2)) <|
 (EV P 32 #[r5.1] (dw r2.2)).bind fun r8 =>
 ifP (ld P 3 r6.1 r8.2 = some (r7.1, r8.2) ∧ fa P 36 r1.1 1 r8.2 = some (r6.1, r8.2) ∧ True ∧ True ∧ True) <|
 (bo P .add 9 (.tmp 5) (.const (Go.Value.string { data := #[46] })) r8.1 (Go.Value.string { data := #[46] }) r8.2).bind fun r9 =>
 ifP (r9.2 = r8.2) <|
 (EV P 32 #[r7.1] r8.2).bind fun r10 =>
 ifP (bo P .add 9 (.tmp 5) (.const (Go.Value.string { data := #[46] })) r8.1 (Go.Value.string { data := #[46] }) r10.2 = some (r9.1, r10.2) ∧ True ∧ True ∧ True ∧ True ∧ True) <|
 (bo P .add 9 (.tmp 6) (.tmp 9) r9.1 r10.1 r10.2).bind fun r11 =>
 ifP (r11.2 = r10.2) <|
 (vl r11.1 r10.2).bind fun r12 =>
 ifP (r12.2 = r10.2) <|
 some (r12.1, r10.2) := by kernel_rfl
theorem laws_toTag_fn (x0 : Value) (w : World) : fnC P (EV P) 34 #[x0] w =
 (bx P 40 x0 w).bind fun r1 =>
 (al P 36 r1.2).bind fun r2 =>
 (al P 36 r2.2).bind fun r3 =>
 (fa P 40 r1.1 0 r3.2).bind fun r4 =>
 (ld P 3 r4.1 r4.2).bind fun r5 =>
 (fa P 36 r3.1 0 r5.2).bind fun r6 =>
 (st P 3 r6.1 r5.1 r6.2).bind fun r7 =>
 (fa P 40 r1.1 1 r7.2).bind fun r8 =>
 (ld P 3 r8.1 r8.2).bind fun r9 =>
 (fa P 36 r3.1 1 r9.2).bind fun r10 =>
 (st P 3 r10.1 r9.1 r10.2).bind fun r11 =>
 (ld P 36 r3.1 r11.2).bind fun r12 =>
 (st P 36 r2.1 r12.1 r12.2).bind fun r13 =>
 ((ld P 36 r2.1 r13.2).bind fun r14 => ifP (r14.2 = r13.2) (some r14.1)).bind fun v15 =>
 some (v15, r13.2) := by kernel_rfl
theorem slices_ContainsFunc_Done_fn (x0 x1 : Value) (w : World) : fnC P (EV P) 35 #[x0, x1] w =
 (vl (.bool false) w).bind fun r1 =>
 (vl x0 r1.2).bind fun r2 =>
 (vl x1 r2.2).bind fun r3 =>
 (EV P 50 #[r2.1, r3.1] r3.2).bind fun r4 =>
 (bo P .geq 3 (.tmp 7) (.const (.int .i64 0)) r4.1 (.int .i64 0) r4.2).bind fun r5 =>
 (vl r5.1 r5.2).bind fun r6 =>
 some (r6.1, r6.2) := by kernel_rfl
theorem impl_formed_1_fn (x0 : Value) (w : World) : fnC P (EV P) 36 #[x0] w =
 (bx P 38 x0 w).bind fun r1 =>
 (vl (.bool false) r1.2).bind fun r2 =>
 (fa P 38 r1.1 0 r2.2).bind fun r3 =>
 (ld P 3 r3.1 r3.2).bind fun r4 =>
 (EV P 37 #[r4.1, (.int .i64 0), (.int .i64 3)] r4.2).bind fun r5 =>
 (uo P .not r5.1 r5.2).bind fun r6 =>
 (vl r6.1 r6.2).bind fun r7 =>
 (gif r7.1 false (fa P 38 r1.1 1 r7.2) r7.2).bind fun r8 =>
 (gif r7.1 false (ld P 3 r8.1 r8.2) r8.2).bind fun r9 =>
 (gif r7.1 false (EV P 37 #[r9.1, (.int .i64 1), (.int .i64 3)] r9.2) r9.2).bind fun r10 =>
 (gif r7.1 false (uo P .not r10.1 r10.2) r10.2).bind fun r11 =>
 (pickV r7.1 (.bool true) r11.1 r11.2).bind fun r12 =>
 (vl r12.1 r12.2).bind fun r13 =>
 (gif r13.1 false (fa P 38 r1.1 2 r13.2) r13.2).bind fun r14 =>
 (gif r13.1 false (ld P 3 r14.1 r14.2) r14.2).bind fun r15 =>
 (gif r13.1 false (EV P 38 #[r15.1] r15.2) r15.2).bind fun r16 =>
 (gif r13.1 false (uo P .not r16.1 r16.2) r16.2).bind fun r17 =>
 (pickV r13.1 (.bool true) r17.1 r17.2).bind fun r18 =>
 (vl r18.1 r18.2).bind fun r19 =>
 (gif r19.1 false (fa P 38 r1.1 3 r19.2) r19.2).bind fun r20 =>
 (gif r19.1 false (ld P 36 r20.1 r20.2) r20.2).bind fun r21 =>
 (gif r19.1 false (EV P 39 #[r21.1] r21.2) r21.2).bind fun r22 =>
 (gif r19.1 false (uo P .not r22.1 r22.2) r22.2).bind fun r23 =>
 (pickV r19.1 (.bool true) r23.1 r23.2).bind fun r24 =>
 (vl r24.1 r24.2).bind fun r25 =>
 (gif r25.1 false (fa P 38 r1.1 3 r25.2) r25.2).bind fun r26 =>
 (gif r25.1 false (ld P 36 r26.1 r26.2) r26.2).bind fun r27 =>
 (gif r25.1 false (bd P 36 #[] r27.2) r27.2).bind fun r28 =>
 (gif r25.1 false (bo P .eql 36 (.tmp 27) (.tmp 28) r27.1 r28.1 r28.2) r28.2).bind fun r29 =>
 (gif r25.1 false (vl r29.1 r29.2) r29.2).bind fun r30 =>
 (gif r30.1 true (fa P 38 r1.1 1 r30.2) r30.2).bind fun r31 =>
 (gif r30.1 true (ld P 3 r31.1 r31.2) r31.2).bind fun r32 =>
 (gif r30.1 true (bo P .neq 3 (.tmp 32) (.const (.int .i64 2)) r32.1 (.int .i64 2) r32.2) r32.2).bind fun r33 =>
 (gif r25.1 false (pickV r30.1 r33.1 (.bool false) r33.2) r33.2).bind fun r34 =>
 (pickV r25.1 (.bool true) r34.1 r34.2).bind fun r35 =>
 (vl r35.1 r35.2).bind fun r36 =>
 some (r36.1, r36.2) := by kernel_rfl
theorem impl_within_fn (x0 x1 x2 : Value) (w : World) : fnC P (EV P) 37 #[x0, x1, x2] w =
 (vl (.bool false) w).bind fun r1 =>
 (vl x0 r1.2).bind fun r2 =>
 (vl x1 r2.2).bind fun r3 =>
 (bo P .geq 3 (.tmp 7) (.tmp 8) r2.1 r3.1 r3.2).bind fun r4 =>
 (vl r4.1 r4.2).bind fun r5 =>
 (gif r5.1 true (vl x0 r5.2) r5.2).bind fun r6 =>
 (gif r5.1 true (vl x2 r6.2) r6.2).bind fun r7 =>
 (gif r5.1 true (bo P .leq 3 (.tmp 11) (.tmp 12) r6.1 r7.1 r7.2) r7.2).bind fun r8 =>
 (pickV r5.1 r8.1 (.bool false) r8.2).bind fun r9 =>
 (vl r9.1 r9.2).bind fun r10 =>
 some (r10.1, r10.2) := by kernel_rfl
end Go.Proofs.YtkhbpmhagpljiaaDoor.X
