/- A part of the proof: an evaluator of the model, its laws, and contracts of functions; no condition. -/
import Derived.Test.YtkhbpmhagpljiaaDoorEvT
set_option linter.unusedVariables false
set_option maxRecDepth 100000
namespace Go.Proofs.YtkhbpmhagpljiaaDoor.X
open Go Go.Ev
theorem laws_FnExactHistGet_fn (x0 : Value) (w : World) : fnC P (EV P) 4 #[x0] w =
 (vl (.bool false) w).bind fun r1 =>
 (vl x0 r1.2).bind fun r2 =>
 (b_len P #[9] 3 #[r2.1] r2.2).bind fun r3 =>
 (bo P .gtr 3 (.tmp 12) (.const (.int .i64 1048576)) r3.1 (.int .i64 1048576) r3.2).bind fun r4 =>
 cnd r4.1 (
 (vl (.bool true) r4.2).bind fun r5 =>
 some (r5.1, r5.2)) (
 (vl x0 r4.2).bind fun r6 =>
 (EV P 10 #[r6.1] r6.2).bind fun r7 =>
 (vl r7.1 r7.2).bind fun r8 =>
 (xt P r8.1 0 r8.2).bind fun r9 =>
 (xt P r8.1 1 r9.2).bind fun r10 =>
 (vl r9.1 r10.2).bind fun r11 =>
 (vl r10.1 r11.2).bind fun r12 =>
 (vl x0 r12.2).bind fun r13 =>
 (EV P 11 #[r13.1] r13.2).bind fun r14 =>
 (vl r14.1 r14.2).bind fun r15 =>
 (xt P r15.1 0 r15.2).bind fun r16 =>
 (xt P r15.1 1 r16.2).bind fun r17 =>
 (vl r16.1 r17.2).bind fun r18 =>
 (vl r17.1 r18.2).bind fun r19 =>
 (vl r18.1 r19.2).bind fun r20 =>
 (vl r11.1 r20.2).bind fun r21 =>
 (EV P 9 #[r20.1, r21.1] r21.2).bind fun r22 =>
 (uo P .not r22.1 r22.2).bind fun r23 =>
 (vl r23.1 r23.2).bind fun r24 =>
 (gif r24.1 false (vl r19.1 r24.2) r24.2).bind fun r25 =>
 (gif r24.1 false (vl r12.1 r25.2) r25.2).bind fun r26 =>
 (gif r24.1 false (bo P .neq 4 (.tmp 29) (.tmp 30) r25.1 r26.1 r26.2) r26.2).bind fun r27 =>
 (pickV r24.1 (.bool true) r27.1 r27.2).bind fun r28 =>
 cnd r28.1 (
 (vl (.bool false) r28.2).bind fun r29 =>
 some (r29.1, r29.2)) (
 (vl (.int .i64 1) r28.2).bind fun r30 =>
 (vl r18.1 r30.2).bind fun r31 =>
 (vl r30.1 r31.2).bind fun r32 =>
 (EV P 12 #[r31.1, r32.1] r32.2).bind fun r33 =>
 (vl r33.1 r33.2).bind fun r34 =>
 (vl (.int .i64 1) r34.2).bind fun r35 =>
 (vl r18.1 r35.2).bind fun r36 =>
 (vl r35.1 r36.2).bind fun r37 =>
 (EV P 13 #[r36.1, r37.1] r37.2).bind fun r38 =>
 (vl r38.1 r38.2).bind fun r39 =>
 (vl r39.1 r39.2).bind fun r40 =>
 (bo P .lss 3 (.tmp 39) (.const (.int .i64 0)) r40.1 (.int .i64 0) r40.2).bind fun r41 =>
 cnd r41.1 (
 (vl (.bool false) r41.2).bind fun r42 =>
 some (r42.1, r42.2)) (
 (vl r39.1 r41.2).bind fun r43 =>
 (vl r34.1 r43.2).bind fun r44 =>
 (bo P .neq 3 (.tmp 41) (.tmp 42) r43.1 r44.1 r44.2).bind fun r45 =>
 cnd r45.1 (
 (vl (.bool false) r45.2).bind fun r46 =>
 some (r46.1, r46.2)) (
 (vl x0 r45.2).bind fun r47 =>
 (EV P 11 #[r47.1] r47.2).bind fun r48 =>
 (vl r48.1 r48.2).bind fun r49 =>
 (xt P r49.1 0 r49.2).bind fun r50 =>
 (xt P r49.1 1 r50.2).bind fun r51 =>
 (vl r50.1 r51.2).bind fun r52 =>
 (vl r51.1 r52.2).bind fun r53 =>
 (vl r52.1 r53.2).bind fun r54 =>
 (vl r11.1 r54.2).bind fun r55 =>
 (EV P 9 #[r54.1, r55.1] r55.2).bind fun r56 =>
 (uo P .not r56.1 r56.2).bind fun r57 =>
 (vl r57.1 r57.2).bind fun r58 =>
 (gif r58.1 false (vl r53.1 r58.2) r58.2).bind fun r59 =>
 (gif r58.1 false (vl r12.1 r59.2) r59.2).bind fun r60 =>
 (gif r58.1 false (bo P .neq 4 (.tmp 54) (.tmp 55) r59.1 r60.1 r60.2) r60.2).bind fun r61 =>
 (pickV r58.1 (.bool true) r61.1 r61.2).bind fun r62 =>
 cnd r62.1 (
 (vl (.bool false) r62.2).bind fun r63 =>
 some (r63.1, r63.2)) (
 (vl (.int .i64 1) r62.2).bind fun r64 =>
 (vl r18.1 r64.2).bind fun r65 =>
 (vl r64.1 r65.2).bind fun r66 =>
 (EV P 13 #[r65.1, r66.1] r66.2).bind fun r67 =>
 (vl r67.1 r67.2).bind fun r68 =>
 (vl r68.1 r68.2).bind fun r69 =>
 (bo P .lss 3 (.tmp 61) (.const (.int .i64 0)) r69.1 (.int .i64 0) r69.2).bind fun r70 =>
 cnd r70.1 (
 (vl (.bool false) r70.2).bind fun r71 =>
 some (r71.1, r71.2)) (
 (vl r68.1 r70.2).bind fun r72 =>
 (vl r34.1 r72.2).bind fun r73 =>
 (bo P .neq 3 (.tmp 63) (.tmp 64) r72.1 r73.1 r73.2).bind fun r74 =>
 cnd r74.1 (
 (vl (.bool false) r74.2).bind fun r75 =>
 some (r75.1, r75.2)) (
 (vl (.bool true) r74.2).bind fun r76 =>
 some (r76.1, r76.2)))))))) := by kernel_rfl
noncomputable def impl_HistPut_l1 (e : Env) (w : World) : Option (Value × World) := exC P (EV P) 8 39 (.loop (cA (cA (cB (cA (cB (cB (cB (bodyOf P 8))))))))) e w (kBlock 0 (kSeq P (EV P) 8 39 (cB (cB (cB (cB (bodyOf P 8))))) (kFn P (fnOf P 8))))
theorem impl_HistPut_l1_eq (e : Env) (w : World) : impl_HistPut_l1 e w =
 (bo P .lss 3 (.tmp 11) (.tmp 10) (e 11) (e 10) w).bind fun r1 =>
 cnd r1.1 (
 (ia P 25 (e 9) (e 11) r1.2).bind fun r2 =>
 (ld P 38 r2.1 r2.2).bind fun r3 =>
 (al P 38 r3.2).bind fun r4 =>
 (st P 38 r4.1 r3.1 r4.2).bind fun r5 =>
 (fa P 38 r4.1 0 (dw r5.2)).bind fun r7 =>
 ifP (r7.2 = (dw r5.2)) <|
 (ld P 3 r7.1 (dw r5.2)).bind fun r8 =>
 ifP (r8.2 = (dw r5.2)) <|
 (fa P 38 r4.1 1 (dw r5.2)).bind fun r9 =>
 ifP (r9.2 = (dw r5.2)) <|
 (ld P 3 r9.1 (dw r5.2)).bind fun r10 =>
 ifP (r10.2 = (dw r5.2)) <|
 (fa P 38 r4.1 2 (dw r5.2)).bind fun r11 =>
 ifP (r11.2 = (dw r5.2)) <|
 (ld P 3 r11.1 (dw r5.2)).bind fun r12 =>
 ifP (r12.2 = (dw r5.2)) <|
 (fa P 38 r4.1 3 (dw r5.2)).bind fun r13 =>
 ifP (r13.2 = (dw r5.2)) <|
 (ld P 36 r13.1 (dw r5.2)).bind fun r14 =>
 ifP (r14.2 = (dw r5.2)) <|
 (EV P 19 #[r8.1] (dw r5.2)).bind fun r15 =>
 ifP (ld P 36 r13.1 r15.2 = some (r14.1, r15.2) ∧ fa P 38 r4.1 3 r15.2 = some (r13.1, r15.2) ∧ ld P 3 r11.1 r15.2 = some (r12.1, r15.2) ∧ fa P 38 r4.1 2 r15.2 = some (r11.1, r15.2) ∧ ld P 3 r9.1 r15.2 = some (r10.1, r15.2) ∧ fa P 38 r4.1 1 r15.2 = some (r9.1, r15.2) ∧ True ∧ True ∧ True) <|
 (bo P .add 9 (.tmp 17) (.const (Go.Value.string { data := #[32] })) r15.1 (Go.Value.string { data := #[32] }) r15.2).bind fun r16 =>
 ifP (r16.2 = r15.2) <|
 (EV P 20 #[] r15.2).bind fun r17 =>
 ifP (bo P .add 9 (.tmp 17) (.const (Go.Value.string { data := #[32] })) r15.1 (Go.Value.string { data := #[32] }) r17.2 = some (r16.1, r17.2) ∧ ld P 36 r13.1 r17.2 = some (r14.1, r17.2) ∧ fa P 38 r4.1 3 r17.2 = some (r13.1, r17.2) ∧ ld P 3 r11.1 r17.2 = some (r12.1, r17.2) ∧ fa P 38 r4.1 2 r17.2 = some (r11.1, r17.2) ∧ ld P 3 r9.1 r17.2 = some (r10.1, r17.2) ∧ fa P 38 r4.1 1 r17.2 = some (r9.1, r17.2) ∧ True ∧ True ∧ True) <|
 (ia P 52 r17.1 r10.1 r17.2).bind fun r18 =>
 ifP (r18.2 = r17.2) <|
 (ld P 9 r18.1 r17.2).bind fun r19 =>
 ifP (r19.2 = r17.2) <|
 (bo P .add 9 (.tmp 18) (.tmp 23) r16.1 r19.1 r17.2).bind fun r20 =>
 ifP (r20.2 = r17.2) <|
 (bo P .add 9 (.tmp 24) (.const (Go.Value.string { data := #[32] })) r20.1 (Go.Value.string { data := #[32] }) r17.2).bind fun r21 =>
 ifP (r21.2 = r17.2) <|
 (EV P 19 #[r12.1] r17.2).bind fun r22 =>
 ifP (bo P .add 9 (.tmp 24) (.const (Go.Value.string { data := #[32] })) r20.1 (Go.Value.string { data := #[32] }) r22.2 = some (r21.1, r22.2) ∧ bo P .add 9 (.tmp 18) (.tmp 23) r16.1 r19.1 r22.2 = some (r20.1, r22.2) ∧ ld P 9 r18.1 r22.2 = some (r19.1, r22.2) ∧ ia P 52 r17.1 r10.1 r22.2 = some (r18.1, r22.2) ∧ bo P .add 9 (.tmp 17) (.const (Go.Value.string { data := #[32] })) r15.1 (Go.Value.string { data := #[32] }) r22.2 = some (r16.1, r22.2) ∧ ld P 36 r13.1 r22.2 = some (r14.1, r22.2) ∧ fa P 38 r4.1 3 r22.2 = some (r13.1, r22.2) ∧ True ∧ True ∧ ld P 3 r9.1 r22.2 = some (r10.1, r22.2) ∧ fa P 38 r4.1 1 r22.2 = some (r9.1, r22.2) ∧ True ∧ True ∧ True) <|
 (bo P .add 9 (.tmp 25) (.tmp 28) r21.1 r22.1 r22.2).bind fun r23 =>
 ifP (r23.2 = r22.2) <|
 (bo P .add 9 (.tmp 29) (.const (Go.Value.string { data := #[32] })) r23.1 (Go.Value.string { data := #[32] }) r22.2).bind fun r24 =>
 ifP (r24.2 = r22.2) <|
 (EV P 21 #[r14.1] r22.2).bind fun r25 =>
 ifP (bo P .add 9 (.tmp 29) (.const (Go.Value.string { data := #[32] })) r23.1 (Go.Value.string { data := #[32] }) r25.2 = some (r24.1, r25.2) ∧ bo P .add 9 (.tmp 25) (.tmp 28) r21.1 r22.1 r25.2 = some (r23.1, r25.2) ∧ bo P .add 9 (.tmp 24) (.const (Go.Value.string { data := #[32] })) r20.1 (Go.Value.string { data := #[32] }) r25.2 = some (r21.1, r25.2) ∧ bo P .add 9 (.tmp 18) (.tmp 23) r16.1 r19.1 r25.2 = some (r20.1, r25.2) ∧ ld P 9 r18.1 r25.2 = some (r19.1, r25.2) ∧ ia P 52 r17.1 r10.1 r25.2 = some (r18.1, r25.2) ∧ bo P .add 9 (.tmp 17) (.const (Go.Value.string { data := #[32] })) r15.1 (Go.Value.string { data := #[32] }) r25.2 = some (r16.1, r25.2) ∧ True ∧ True ∧ True ∧ True ∧ ld P 3 r9.1 r25.2 = some (r10.1, r25.2) ∧ fa P 38 r4.1 1 r25.2 = some (r9.1, r25.2) ∧ True ∧ True ∧ True) <|
 (bo P .add 9 (.tmp 30) (.tmp 33) r24.1 r25.1 r25.2).bind fun r26 =>
 ifP (r26.2 = r25.2) <|
 (bo P .add 9 (.tmp 34) (.const (Go.Value.string { data := #[10] })) r26.1 (Go.Value.string { data := #[10] }) r25.2).bind fun r27 =>
 ifP (r27.2 = r25.2) <|
 (EV P 18 #[(e 3), r27.1] r25.2).bind fun r28 =>
 ifP (True ∧ True ∧ True ∧ True ∧ True ∧ True ∧ True ∧ True ∧ True ∧ True ∧ True ∧ True ∧ True ∧ True ∧ True ∧ True ∧ True ∧ True) <|
 (bo P .add 3 (.tmp 11) (.const (.int .i64 1)) (e 11) (.int .i64 1) r28.2).bind fun r29 =>
 (vl r29.1 r29.2).bind fun r30 =>
 impl_HistPut_l1 (ups e [(12, r1.1), (13, r2.1), (14, r3.1), (5, r4.1), (15, r7.1), (16, r8.1), (20, r9.1), (21, r10.1), (26, r11.1), (27, r12.1), (31, r13.1), (32, r14.1), (17, r15.1), (18, r16.1), (19, r17.1), (22, r18.1), (23, r19.1), (24, r20.1), (25, r21.1), (28, r22.1), (29, r23.1), (30, r24.1), (33, r25.1), (34, r26.1), (35, r27.1), (36, r28.1), (37, r29.1), (11, r30.1)]) r30.2) (
 (EV P 22 #[(e 3)] r1.2).bind fun r31 =>
 (vl r31.1 r31.2).bind fun r32 =>
 some (r32.1, r32.2)) := (exC_loop P (EV P) 8 39 (cA (cA (cB (cA (cB (cB (cB (bodyOf P 8)))))))) e w (kBlock 0 (kSeq P (EV P) 8 39 (cB (cB (cB (cB (bodyOf P 8))))) (kFn P (fnOf P 8))))).trans (by kernel_rfl)
theorem impl_HistPut_fn (x0 : Value) (w : World) : fnC P (EV P) 8 #[x0] w =
 (vl (Go.Value.string { data := #[] }) w).bind fun r1 =>
 (vl x0 r1.2).bind fun r2 =>
 (EV P 17 #[r2.1] r2.2).bind fun r3 =>
 (uo P .not r3.1 r3.2).bind fun r4 =>
 cnd r4.1 (
 (vl (Go.Value.string { data := #[] }) r4.2).bind fun r5 =>
 some (r5.1, r5.2)) (
 (al P 46 r4.2).bind fun r6 =>
 (vl x0 r6.2).bind fun r7 =>
 (b_len P #[25] 3 #[r7.1] r7.2).bind fun r8 =>
 (vl (.int .i64 0) r8.2).bind fun r9 =>
 impl_HistPut_l1 (ups (env0 #[x0]) [(2, r1.1), (6, r2.1), (7, r3.1), (8, r4.1), (3, r6.1), (9, r7.1), (10, r8.1), (11, r9.1)]) r9.2) := by kernel_rfl
noncomputable def laws_eqDoneS_l1 (e : Env) (w : World) : Option (Value × World) := exC P (EV P) 9 27 (.loop (cA (cA (cB (cA (cB (cB (bodyOf P 9)))))))) e w (kBlock 0 (kSeq P (EV P) 9 27 (cB (cB (cB (bodyOf P 9)))) (kFn P (fnOf P 9))))
theorem laws_eqDoneS_l1_eq (e : Env) (w : World) : laws_eqDoneS_l1 e w =
 (vl (e 5) w).bind fun r1 =>
 (vl (e 0) r1.2).bind fun r2 =>
 (b_len P #[25] 3 #[r2.1] r2.2).bind fun r3 =>
 (bo P .lss 3 (.tmp 11) (.tmp 13) r1.1 r3.1 r3.2).bind fun r4 =>
 cnd r4.1 (
 (vl (e 0) (dw r4.2)).bind fun r6 =>
 ifP (r6.2 = (dw r4.2)) <|
 (vl (e 5) (dw r4.2)).bind fun r7 =>
 ifP (r7.2 = (dw r4.2)) <|
 (ia P 25 r6.1 r7.1 (dw r4.2)).bind fun r8 =>
 ifP (r8.2 = (dw r4.2)) <|
 (ld P 38 r8.1 (dw r4.2)).bind fun r9 =>
 ifP (r9.2 = (dw r4.2)) <|
 (vl (e 1) (dw r4.2)).bind fun r10 =>
 ifP (r10.2 = (dw r4.2)) <|
 (vl (e 5) (dw r4.2)).bind fun r11 =>
 ifP (r11.2 = (dw r4.2)) <|
 (ia P 25 r10.1 r11.1 (dw r4.2)).bind fun r12 =>
 ifP (r12.2 = (dw r4.2)) <|
 (ld P 38 r12.1 (dw r4.2)).bind fun r13 =>
 ifP (r13.2 = (dw r4.2)) <|
 (EV P 23 #[r9.1, r13.1] (dw r4.2)).bind fun r14 =>
 ifP (True ∧ True ∧ True ∧ True ∧ True) <|
 (uo P .not r14.1 r14.2).bind fun r15 =>
 ifP (r15.2 = r14.2) <|
 cnd r15.1 (
 (vl (.bool false) r14.2).bind fun r16 =>
 some (r16.1, r16.2)) (
 (vl (e 5) r14.2).bind fun r17 =>
 (bo P .add 3 (.tmp 15) (.const (.int .i64 1)) r17.1 (.int .i64 1) r17.2).bind fun r18 =>
 (vl r18.1 r18.2).bind fun r19 =>
 laws_eqDoneS_l1 (ups e [(11, r1.1), (12, r2.1), (13, r3.1), (14, r4.1), (17, r6.1), (18, r7.1), (19, r8.1), (20, r9.1), (21, r10.1), (22, r11.1), (23, r12.1), (24, r13.1), (25, r14.1), (26, r15.1), (15, r17.1), (16, r18.1), (5, r19.1)]) r19.2)) (
 (vl (.bool true) r4.2).bind fun r20 =>
 some (r20.1, r20.2)) := (exC_loop P (EV P) 9 27 (cA (cA (cB (cA (cB (cB (bodyOf P 9))))))) e w (kBlock 0 (kSeq P (EV P) 9 27 (cB (cB (cB (bodyOf P 9)))) (kFn P (fnOf P 9))))).trans (by kernel_rfl)
theorem laws_eqDoneS_fn (x0 x1 : Value) (w : World) : fnC P (EV P) 9 #[x0, x1] w =
 (vl (.bool false) w).bind fun r1 =>
 (vl x0 r1.2).bind fun r2 =>
 (b_len P #[25] 3 #[r2.1] r2.2).bind fun r3 =>
 (vl x1 r3.2).bind fun r4 =>
 (b_len P #[25] 3 #[r4.1] r4.2).bind fun r5 =>
 (bo P .neq 3 (.tmp 7) (.tmp 9) r3.1 r5.1 r5.2).bind fun r6 =>
 cnd r6.1 (
 (vl (.bool false) r6.2).bind fun r7 =>
 some (r7.1, r7.2)) (
 (vl (.int .i64 0) r6.2).bind fun r8 =>
 laws_eqDoneS_l1 (ups (env0 #[x0, x1]) [(4, r1.1), (6, r2.1), (7, r3.1), (8, r4.1), (9, r5.1), (10, r6.1), (5, r8.1)]) r8.2) := by kernel_rfl
noncomputable def spec_HistGet_l1 (e : Env) (w : World) : Option (Value × World) := exC P (EV P) 10 102 (.loop (cA (cA (cB (cA (cB (cB (cB (cB (cB (bodyOf P 10))))))))))) e w (kBlock 0 (kSeq P (EV P) 10 102 (cB (cB (cB (cB (cB (cB (bodyOf P 10))))))) (kFn P (fnOf P 10))))
noncomputable def spec_HistGet_a1 (e : Env) (w : World) : Option (Value × World) := exC P (EV P) 10 102 (cA (cB (cB (cB (cA (cA (cB (cA (cA (cB (cA (cB (cB (cB (cB (cB (bodyOf P 10))))))))))))))))) e w (kSeq P (EV P) 10 102 (cB (cB (cB (cB (cA (cA (cB (cA (cA (cB (cA (cB (cB (cB (cB (cB (bodyOf P 10))))))))))))))))) (kBlock 1 (kSeq P (EV P) 10 102 (cB (cB (cA (cA (cB (cA (cB (cB (cB (cB (cB (bodyOf P 10)))))))))))) (kLoop P (EV P) 10 102 (cA (cA (cB (cA (cB (cB (cB (cB (cB (bodyOf P 10)))))))))) (kBlock 0 (kSeq P (EV P) 10 102 (cB (cB (cB (cB (cB (cB (bodyOf P 10))))))) (kFn P (fnOf P 10))))))))
noncomputable def spec_HistGet_j1 (e : Env) (w : World) : Option (Value × World) := exC P (EV P) 10 102 (cB (cB (cB (cB (cA (cA (cB (cA (cA (cB (cA (cB (cB (cB (cB (cB (bodyOf P 10))))))))))))))))) e w (kBlock 1 (kSeq P (EV P) 10 102 (cB (cB (cA (cA (cB (cA (cB (cB (cB (cB (cB (bodyOf P 10)))))))))))) (kLoop P (EV P) 10 102 (cA (cA (cB (cA (cB (cB (cB (cB (cB (bodyOf P 10)))))))))) (kBlock 0 (kSeq P (EV P) 10 102 (cB (cB (cB (cB (cB (cB (bodyOf P 10))))))) (kFn P (fnOf P 10)))))))
noncomputable def spec_HistGet_l2 (e : Env) (w : World) : Option (Value × World) := exC P (EV P) 10 102 (.loop (cA (cA (cB (cA (cB (cB (cB (cB (cA (cA (cB (cA (cA (cB (cA (cB (cB (cB (cB (cB (bodyOf P 10)))))))))))))))))))))) e w (kBlock 2 (kSeq P (EV P) 10 102 (cB (cB (cB (cB (cB (cA (cA (cB (cA (cA (cB (cA (cB (cB (cB (cB (cB (bodyOf P 10)))))))))))))))))) (kBlock 1 (kSeq P (EV P) 10 102 (cB (cB (cA (cA (cB (cA (cB (cB (cB (cB (cB (bodyOf P 10)))))))))))) (kLoop P (EV P) 10 102 (cA (cA (cB (cA (cB (cB (cB (cB (cB (bodyOf P 10)))))))))) (kBlock 0 (kSeq P (EV P) 10 102 (cB (cB (cB (cB (cB (cB (bodyOf P 10))))))) (kFn P (fnOf P 10)))))))))
noncomputable def spec_HistGet_j2 (e : Env) (w : World) : Option (Value × World) := exC P (EV P) 10 102 (cB (cB (cA (cA (cB (cA (cB (cB (cB (cB (cA (cA (cB (cA (cA (cB (cA (cB (cB (cB (cB (cB (bodyOf P 10))))))))))))))))))))))) e w (kLoop P (EV P) 10 102 (cA (cA (cB (cA (cB (cB (cB (cB (cA (cA (cB (cA (cA (cB (cA (cB (cB (cB (cB (cB (bodyOf P 10))))))))))))))))))))) (kBlock 2 (kSeq P (EV P) 10 102 (cB (cB (cB (cB (cB (cA (cA (cB (cA (cA (cB (cA (cB (cB (cB (cB (cB (bodyOf P 10)))))))))))))))))) (kBlock 1 (kSeq P (EV P) 10 102 (cB (cB (cA (cA (cB (cA (cB (cB (cB (cB (cB (bodyOf P 10)))))))))))) (kLoop P (EV P) 10 102 (cA (cA (cB (cA (cB (cB (cB (cB (cB (bodyOf P 10)))))))))) (kBlock 0 (kSeq P (EV P) 10 102 (cB (cB (cB (cB (cB (cB (bodyOf P 10))))))) (kFn P (fnOf P 10))))))))))
theorem spec_HistGet_l1_eq (e : Env) (w : World) : spec_HistGet_l1 e w =
 (vl (e 6) w).bind fun r1 =>
 (vl (e 5) r1.2).bind fun r2 =>
 (b_len P #[52] 3 #[r2.1] r2.2).bind fun r3 =>
 (bo P .lss 3 (.tmp 30) (.tmp 32) r1.1 r3.1 r3.2).bind fun r4 =>
 (vl r4.1 r4.2).bind fun r5 =>
 (gif r5.1 true (vl (e 6) r5.2) r5.2).bind fun r6 =>
 (gif r5.1 true (bo P .leq 3 (.tmp 35) (.const (.int .i64 80)) r6.1 (.int .i64 80) r6.2) r6.2).bind fun r7 =>
 (pickV r5.1 r7.1 (.bool false) r7.2).bind fun r8 =>
 cnd r8.1 (
 (vl (e 5) r8.2).bind fun r9 =>
 (vl (e 6) r9.2).bind fun r10 =>
 (ia P 52 r9.1 r10.1 r10.2).bind fun r11 =>
 (ld P 9 r11.1 r11.2).bind fun r12 =>
 (EV P 24 #[r12.1, (.int .u8 32), (.int .i64 4)] r12.2).bind fun r13 =>
 (vl r13.1 r13.2).bind fun r14 =>
 (vl r14.1 r14.2).bind fun r15 =>
 (b_len P #[52] 3 #[r15.1] r15.2).bind fun r16 =>
 (bo P .neq 3 (.tmp 46) (.const (.int .i64 4)) r16.1 (.int .i64 4) r16.2).bind fun r17 =>
 cnd r17.1 (
 (vl (Go.Value.slice none 0 0) r17.2).bind fun r18 =>
 (vl (.bool false) r18.2).bind fun r19 =>
 some (.tuple #[r18.1, r19.1], r19.2)) (
 (vl r14.1 r17.2).bind fun r20 =>
 (ia P 52 r20.1 (.int .i64 3) r20.2).bind fun r21 =>
 (ld P 9 r21.1 r21.2).bind fun r22 =>
 (EV P 25 #[r22.1] r22.2).bind fun r23 =>
 (vl r23.1 r23.2).bind fun r24 =>
 (xt P r24.1 0 r24.2).bind fun r25 =>
 (xt P r24.1 1 r25.2).bind fun r26 =>
 (al P 36 r26.2).bind fun r27 =>
 (st P 36 r27.1 r25.1 r27.2).bind fun r28 =>
 (vl r26.1 r28.2).bind fun r29 =>
 spec_HistGet_a1 (ups e [(30, r1.1), (31, r2.1), (32, r3.1), (33, r4.1), (34, r5.1), (35, r6.1), (36, r7.1), (37, r8.1), (40, r9.1), (41, r10.1), (42, r11.1), (43, r12.1), (44, r13.1), (7, r14.1), (45, r15.1), (46, r16.1), (47, r17.1), (49, r20.1), (50, r21.1), (51, r22.1), (52, r23.1), (48, r24.1), (53, r25.1), (54, r26.1), (8, r27.1), (9, r29.1)]) r29.2)) (
 (vl (e 4) r8.2).bind fun r30 =>
 (EV P 14 #[r30.1] r30.2).bind fun r31 =>
 (uo P .not r31.1 r31.2).bind fun r32 =>
 cnd r32.1 (
 (vl (Go.Value.slice none 0 0) r32.2).bind fun r33 =>
 (vl (.bool false) r33.2).bind fun r34 =>
 some (.tuple #[r33.1, r34.1], r34.2)) (
 (vl (e 4) r32.2).bind fun r35 =>
 (vl r35.1 r35.2).bind fun r36 =>
 (vl (.bool true) r36.2).bind fun r37 =>
 some (.tuple #[r36.1, r37.1], r37.2))) := (exC_loop P (EV P) 10 102 (cA (cA (cB (cA (cB (cB (cB (cB (cB (bodyOf P 10)))))))))) e w (kBlock 0 (kSeq P (EV P) 10 102 (cB (cB (cB (cB (cB (cB (bodyOf P 10))))))) (kFn P (fnOf P 10))))).trans (by kernel_rfl)
theorem spec_HistGet_a1_any (e : Env) (w : World) {Q : Value × World → Prop} (h :
 (Ret (vl (e 7) (dw w)) fun r1 => r1.2 = (dw w) ∧
 (Ret (ia P 52 r1.1 (.int .i64 0) (dw w)) fun r2 => r2.2 = (dw w) ∧
 (Ret (ld P 9 r2.1 (dw w)) fun r3 => r3.2 = (dw w) ∧
 (Ret (vl (e 7) (dw w)) fun r4 => r4.2 = (dw w) ∧
 (Ret (ia P 52 r4.1 (.int .i64 2) (dw w)) fun r5 => r5.2 = (dw w) ∧
 (Ret (ld P 9 r5.1 (dw w)) fun r6 => r6.2 = (dw w) ∧
 (Ret (ld P 36 (e 8) (dw w)) fun r7 => r7.2 = (dw w) ∧
 ((Ret (EV P 26 #[r3.1] (dw w)) fun r8 => (ld P 36 (e 8) r8.2 = some (r7.1, r8.2) ∧ ld P 9 r5.1 r8.2 = some (r6.1, r8.2) ∧ ia P 52 r4.1 (.int .i64 2) r8.2 = some (r5.1, r8.2) ∧ True ∧ True ∧ True) ∧
 ((Ret (EV P 26 #[r6.1] r8.2) fun r9 => (ld P 36 (e 8) r9.2 = some (r7.1, r9.2) ∧ True ∧ True ∧ True ∧ True ∧ True) ∧
 (Ret (bd P 38 #[(0, r8.1), (2, r9.1), (3, r7.1)] r9.2) fun r10 => r10.2 = r9.2 ∧
 ((Ret (al P 38 r9.2) fun r11 => (bd P 38 #[(0, r8.1), (2, r9.1), (3, r7.1)] r11.2 = some (r10.1, r11.2) ∧ ld P 36 (e 8) r11.2 = some (r7.1, r11.2) ∧ ld P 9 r5.1 r11.2 = some (r6.1, r11.2) ∧ ia P 52 r4.1 (.int .i64 2) r11.2 = some (r5.1, r11.2) ∧ ld P 9 r2.1 r11.2 = some (r3.1, r11.2) ∧ ia P 52 r1.1 (.int .i64 0) r11.2 = some (r2.1, r11.2) ∧ True) ∧
 ((Ret (st P 38 r11.1 r10.1 r11.2) fun r12 => (True ∧ True ∧ True ∧ True ∧ True ∧ True ∧ True) ∧
 Ret (spec_HistGet_j1 (ups e [(55, r1.1), (56, r2.1), (57, r3.1), (59, r4.1), (60, r5.1), (61, r6.1), (63, r7.1), (58, r8.1), (62, r9.1), (64, r10.1), (10, r11.1)]) r12.2) Q)))))) ∧
 (Ret (al P 38 r8.2) fun r13 => (ld P 36 (e 8) r13.2 = some (r7.1, r13.2) ∧ ld P 9 r5.1 r13.2 = some (r6.1, r13.2) ∧ ia P 52 r4.1 (.int .i64 2) r13.2 = some (r5.1, r13.2) ∧ ld P 9 r2.1 r13.2 = some (r3.1, r13.2) ∧ ia P 52 r1.1 (.int .i64 0) r13.2 = some (r2.1, r13.2) ∧ True) ∧
 ((Ret (EV P 26 #[r6.1] r13.2) fun r14 => (ld P 36 (e 8) r14.2 = some (r7.1, r14.2) ∧ True ∧ True ∧ True ∧ True ∧ True) ∧
 (Ret (bd P 38 #[(0, r8.1), (2, r14.1), (3, r7.1)] r14.2) fun r15 => r15.2 = r14.2 ∧
 ((Ret (st P 38 r13.1 r15.1 r14.2) fun r16 => (True ∧ True ∧ True ∧ True ∧ True ∧ True ∧ True) ∧
 Ret (spec_HistGet_j1 (ups e [(55, r1.1), (56, r2.1), (57, r3.1), (59, r4.1), (60, r5.1), (61, r6.1), (63, r7.1), (58, r8.1), (10, r13.1), (62, r14.1), (64, r15.1)]) r16.2) Q)))))))) ∧
 (Ret (al P 38 (dw w)) fun r17 => (ld P 36 (e 8) r17.2 = some (r7.1, r17.2) ∧ ld P 9 r5.1 r17.2 = some (r6.1, r17.2) ∧ ia P 52 r4.1 (.int .i64 2) r17.2 = some (r5.1, r17.2) ∧ ld P 9 r2.1 r17.2 = some (r3.1, r17.2) ∧ ia P 52 r1.1 (.int .i64 0) r17.2 = some (r2.1, r17.2) ∧ True) ∧
 ((Ret (EV P 26 #[r3.1] r17.2) fun r18 => (ld P 36 (e 8) r18.2 = some (r7.1, r18.2) ∧ ld P 9 r5.1 r18.2 = some (r6.1, r18.2) ∧ ia P 52 r4.1 (.int .i64 2) r18.2 = some (r5.1, r18.2) ∧ True ∧ True ∧ True) ∧
 ((Ret (EV P 26 #[r6.1] r18.2) fun r19 => (ld P 36 (e 8) r19.2 = some (r7.1, r19.2) ∧ True ∧ True ∧ True ∧ True ∧ True) ∧
 (Ret (bd P 38 #[(0, r18.1), (2, r19.1), (3, r7.1)] r19.2) fun r20 => r20.2 = r19.2 ∧
 ((Ret (st P 38 r17.1 r20.1 r19.2) fun r21 => (True ∧ True ∧ True ∧ True ∧ True ∧ True ∧ True) ∧
 Ret (spec_HistGet_j1 (ups e [(55, r1.1), (56, r2.1), (57, r3.1), (59, r4.1), (60, r5.1), (61, r6.1), (63, r7.1), (10, r17.1), (58, r18.1), (62, r19.1), (64, r20.1)]) r21.2) Q))))))))))))))))) : Ret (spec_HistGet_a1 e w) Q := exC_any (id := 14) (ops := opsOf (cA (cB (cB (cB (cA (cA (cB (cA (cA (cB (cA (cB (cB (cB (cB (cB (bodyOf P 10)))))))))))))))))) (by kernel_rfl) (by kernel_rfl) (Eq.mpr (by kernel_rfl) h)
theorem spec_HistGet_j1_eq (e : Env) (w : World) : spec_HistGet_j1 e w =
 (vl (.int .i64 1) w).bind fun r1 =>
 spec_HistGet_l2 (ups e [(11, r1.1)]) r1.2 := by kernel_rfl
theorem spec_HistGet_l2_eq (e : Env) (w : World) : spec_HistGet_l2 e w =
 (vl (e 11) w).bind fun r1 =>
 (EV P 27 #[] r1.2).bind fun r2 =>
 (b_len P #[52] 3 #[r2.1] r2.2).bind fun r3 =>
 (bo P .lss 3 (.tmp 65) (.tmp 67) r1.1 r3.1 r3.2).bind fun r4 =>
 cnd r4.1 (
 (vl (e 11) (dw r4.2)).bind fun r6 =>
 ifP (r6.2 = (dw r4.2)) <|
 (vl (e 7) (dw r4.2)).bind fun r7 =>
 ifP (r7.2 = (dw r4.2)) <|
 (ia P 52 r7.1 (.int .i64 1) (dw r4.2)).bind fun r8 =>
 ifP (r8.2 = (dw r4.2)) <|
 (ld P 9 r8.1 (dw r4.2)).bind fun r9 =>
 ifP (r9.2 = (dw r4.2)) <|
 (EV P 27 #[] (dw r4.2)).bind fun r10 =>
 ifP (ld P 9 r8.1 r10.2 = some (r9.1, r10.2) ∧ ia P 52 r7.1 (.int .i64 1) r10.2 = some (r8.1, r10.2) ∧ True) <|
 (ia P 52 r10.1 r6.1 r10.2).bind fun r11 =>
 ifP (r11.2 = r10.2) <|
 (ld P 9 r11.1 r10.2).bind fun r12 =>
 ifP (r12.2 = r10.2) <|
 (bo P .eql 9 (.tmp 74) (.tmp 77) r12.1 r9.1 r10.2).bind fun r13 =>
 ifP (r13.2 = r10.2) <|
 cnd r13.1 (
 (vl (e 11) r10.2).bind fun r14 =>
 (fa P 38 (e 10) 1 r14.2).bind fun r15 =>
 (st P 3 r15.1 r14.1 r15.2).bind fun r16 =>
 spec_HistGet_j2 (ups e [(65, r1.1), (66, r2.1), (67, r3.1), (68, r4.1), (72, r6.1), (75, r7.1), (76, r8.1), (77, r9.1), (71, r10.1), (73, r11.1), (74, r12.1), (78, r13.1), (79, r14.1), (80, r15.1)]) r16.2) (
 spec_HistGet_j2 (ups e [(65, r1.1), (66, r2.1), (67, r3.1), (68, r4.1), (72, r6.1), (75, r7.1), (76, r8.1), (77, r9.1), (71, r10.1), (73, r11.1), (74, r12.1), (78, r13.1)]) r10.2)) (
 (ld P 38 (e 10) (dw r4.2)).bind fun r18 =>
 ifP (r18.2 = (dw r4.2)) <|
 (EV P 28 #[r18.1] (dw r4.2)).bind fun r19 =>
 ifP (True ∧ True) <|
 (uo P .not r19.1 r19.2).bind fun r20 =>
 ifP (r20.2 = r19.2) <|
 (vl r20.1 r19.2).bind fun r21 =>
 ifP (r21.2 = r19.2) <|
 (gif r21.1 false (ld P 38 (e 10) r19.2) r19.2).bind fun r22 =>
 ifP (r22.2 = r19.2) <|
 (gif r21.1 false (vl (e 5) r19.2) r19.2).bind fun r23 =>
 ifP (r23.2 = r19.2) <|
 (gif r21.1 false (vl (e 6) r19.2) r19.2).bind fun r24 =>
 ifP (r24.2 = r19.2) <|
 (gif r21.1 false (ia P 52 r23.1 r24.1 r19.2) r19.2).bind fun r25 =>
 ifP (r25.2 = r19.2) <|
 (gif r21.1 false (ld P 9 r25.1 r19.2) r19.2).bind fun r26 =>
 ifP (r26.2 = r19.2) <|
 (gif r21.1 false (bo P .add 9 (.tmp 90) (.const (Go.Value.string { data := #[10] })) r26.1 (Go.Value.string { data := #[10] }) r19.2) r19.2).bind fun r27 =>
 ifP (r27.2 = r19.2) <|
 (gif r21.1 false (EV P 15 #[r22.1] r19.2) r19.2).bind fun r28 =>
 ifP (gif r21.1 false (bo P .add 9 (.tmp 90) (.const (Go.Value.string { data := #[10] })) r26.1 (Go.Value.string { data := #[10] }) r28.2) r28.2 = some (r27.1, r28.2) ∧ gif r21.1 false (ld P 9 r25.1 r28.2) r28.2 = some (r26.1, r28.2) ∧ gif r21.1 false (ia P 52 r23.1 r24.1 r28.2) r28.2 = some (r25.1, r28.2) ∧ True ∧ True ∧ True ∧ True) <|
 (gif r21.1 false (bo P .neq 9 (.tmp 86) (.tmp 91) r28.1 r27.1 r28.2) r28.2).bind fun r29 =>
 ifP (r29.2 = r28.2) <|
 (pickV r21.1 (.bool true) r29.1 r28.2).bind fun r30 =>
 ifP (r30.2 = r28.2) <|
 cnd r30.1 (
 (vl (Go.Value.slice none 0 0) r28.2).bind fun r31 =>
 (vl (.bool false) r31.2).bind fun r32 =>
 some (.tuple #[r31.1, r32.1], r32.2)) (
 (vl (e 4) r28.2).bind fun r33 =>
 (ld P 38 (e 10) r33.2).bind fun r34 =>
 (bs P 25 1 #[(0, r34.1)] r34.2).bind fun r35 =>
 (b_append P #[25, 25] 25 #[r33.1, r35.1] r35.2).bind fun r36 =>
 (vl r36.1 r36.2).bind fun r37 =>
 (vl (e 6) r37.2).bind fun r38 =>
 (bo P .add 3 (.tmp 38) (.const (.int .i64 1)) r38.1 (.int .i64 1) r38.2).bind fun r39 =>
 (vl r39.1 r39.2).bind fun r40 =>
 spec_HistGet_l1 (ups e [(65, r1.1), (66, r2.1), (67, r3.1), (68, r4.1), (81, r18.1), (82, r19.1), (83, r20.1), (84, r21.1), (85, r22.1), (87, r23.1), (88, r24.1), (89, r25.1), (90, r26.1), (91, r27.1), (86, r28.1), (92, r29.1), (93, r30.1), (94, r33.1), (95, r34.1), (96, r35.1), (97, r36.1), (4, r37.1), (38, r38.1), (39, r39.1), (6, r40.1)]) r40.2)) := (exC_loop P (EV P) 10 102 (cA (cA (cB (cA (cB (cB (cB (cB (cA (cA (cB (cA (cA (cB (cA (cB (cB (cB (cB (cB (bodyOf P 10))))))))))))))))))))) e w (kBlock 2 (kSeq P (EV P) 10 102 (cB (cB (cB (cB (cB (cA (cA (cB (cA (cA (cB (cA (cB (cB (cB (cB (cB (bodyOf P 10)))))))))))))))))) (kBlock 1 (kSeq P (EV P) 10 102 (cB (cB (cA (cA (cB (cA (cB (cB (cB (cB (cB (bodyOf P 10)))))))))))) (kLoop P (EV P) 10 102 (cA (cA (cB (cA (cB (cB (cB (cB (cB (bodyOf P 10)))))))))) (kBlock 0 (kSeq P (EV P) 10 102 (cB (cB (cB (cB (cB (cB (bodyOf P 10))))))) (kFn P (fnOf P 10)))))))))).trans (by kernel_rfl)
theorem spec_HistGet_j2_eq (e : Env) (w : World) : spec_HistGet_j2 e w =
 (vl (e 11) w).bind fun r1 =>
 (bo P .add 3 (.tmp 69) (.const (.int .i64 1)) r1.1 (.int .i64 1) r1.2).bind fun r2 =>
 (vl r2.1 r2.2).bind fun r3 =>
 spec_HistGet_l2 (ups e [(69, r1.1), (70, r2.1), (11, r3.1)]) r3.2 := by kernel_rfl
theorem spec_HistGet_fn (x0 : Value) (w : World) : fnC P (EV P) 10 #[x0] w =
 (vl (Go.Value.slice none 0 0) w).bind fun r1 =>
 (vl (.bool false) r1.2).bind fun r2 =>
 (bs P 25 0 #[] r2.2).bind fun r3 =>
 (vl r3.1 r3.2).bind fun r4 =>
 (vl x0 r4.2).bind fun r5 =>
 (bo P .eql 9 (.tmp 13) (.const (Go.Value.string { data := #[] })) r5.1 (Go.Value.string { data := #[] }) r5.2).bind fun r6 =>
 cnd r6.1 (
 (vl r4.1 r6.2).bind fun r7 =>
 (vl r7.1 r7.2).bind fun r8 =>
 (vl (.bool true) r8.2).bind fun r9 =>
 some (.tuple #[r8.1, r9.1], r9.2)) (
 (vl x0 r6.2).bind fun r10 =>
 (vl x0 r10.2).bind fun r11 =>
 (b_len P #[9] 3 #[r11.1] r11.2).bind fun r12 =>
 (bo P .sub 3 (.tmp 18) (.const (.int .i64 1)) r12.1 (.int .i64 1) r12.2).bind fun r13 =>
 (ix P 9 r10.1 r13.1 r13.2).bind fun r14 =>
 (bo P .neq 5 (.tmp 20) (.const (.int .u8 10)) r14.1 (.int .u8 10) r14.2).bind fun r15 =>
 cnd r15.1 (
 (vl (Go.Value.slice none 0 0) r15.2).bind fun r16 =>
 (vl (.bool false) r16.2).bind fun r17 =>
 some (.tuple #[r16.1, r17.1], r17.2)) (
 (vl x0 r15.2).bind fun r18 =>
 (vl x0 r18.2).bind fun r19 =>
 (b_len P #[9] 3 #[r19.1] r19.2).bind fun r20 =>
 (bo P .sub 3 (.tmp 24) (.const (.int .i64 1)) r20.1 (.int .i64 1) r20.2).bind fun r21 =>
 (sl P 9 r18.1 none (some r21.1) none r21.2).bind fun r22 =>
 (vl x0 r22.2).bind fun r23 =>
 (b_len P #[9] 3 #[r23.1] r23.2).bind fun r24 =>
 (EV P 24 #[r22.1, (.int .u8 10), r24.1] r24.2).bind fun r25 =>
 (vl r25.1 r25.2).bind fun r26 =>
 (vl (.int .i64 0) r26.2).bind fun r27 =>
 spec_HistGet_l1 (ups (env0 #[x0]) [(2, r1.1), (3, r2.1), (12, r3.1), (4, r4.1), (13, r5.1), (14, r6.1), (16, r10.1), (17, r11.1), (18, r12.1), (19, r13.1), (20, r14.1), (21, r15.1), (22, r18.1), (23, r19.1), (24, r20.1), (25, r21.1), (26, r22.1), (27, r23.1), (28, r24.1), (29, r25.1), (5, r26.1), (6, r27.1)]) r27.2)) := by kernel_rfl
noncomputable def impl_HistGet_l1 (e : Env) (w : World) : Option (Value × World) := exC P (EV P) 11 49 (.loop (cA (cA (cB (cA (cB (cB (bodyOf P 11)))))))) e w (kBlock 0 (kSeq P (EV P) 11 49 (cB (cB (cB (bodyOf P 11)))) (kFn P (fnOf P 11))))
theorem impl_HistGet_l1_eq (e : Env) (w : World) : impl_HistGet_l1 e w =
 (vl (e 5) w).bind fun r1 =>
 (bo P .neq 9 (.tmp 13) (.const (Go.Value.string { data := #[] })) r1.1 (Go.Value.string { data := #[] }) r1.2).bind fun r2 =>
 (vl r2.1 r2.2).bind fun r3 =>
 (gif r3.1 true (vl (e 4) r3.2) r3.2).bind fun r4 =>
 (gif r3.1 true (b_len P #[25] 3 #[r4.1] r4.2) r4.2).bind fun r5 =>
 (gif r3.1 true (bo P .leq 3 (.tmp 17) (.const (.int .i64 80)) r5.1 (.int .i64 80) r5.2) r5.2).bind fun r6 =>
 (pickV r3.1 r6.1 (.bool false) r6.2).bind fun r7 =>
 cnd r7.1 (
 (vl (e 5) r7.2).bind fun r8 =>
 (EV P 29 #[r8.1, (Go.Value.string { data := #[10] })] r8.2).bind fun r9 =>
 (vl r9.1 r9.2).bind fun r10 =>
 (xt P r10.1 0 r10.2).bind fun r11 =>
 (xt P r10.1 1 r11.2).bind fun r12 =>
 (xt P r10.1 2 r12.2).bind fun r13 =>
 (vl r11.1 r13.2).bind fun r14 =>
 (vl r12.1 r14.2).bind fun r15 =>
 (vl r13.1 r15.2).bind fun r16 =>
 (vl r14.1 r16.2).bind fun r17 =>
 (EV P 30 #[r17.1] r17.2).bind fun r18 =>
 (vl r18.1 r18.2).bind fun r19 =>
 (xt P r19.1 0 r19.2).bind fun r20 =>
 (xt P r19.1 1 r20.2).bind fun r21 =>
 (al P 38 r21.2).bind fun r22 =>
 (st P 38 r22.1 r20.1 r22.2).bind fun r23 =>
 (vl r21.1 r23.2).bind fun r24 =>
 (vl r24.1 r24.2).bind fun r25 =>
 (uo P .not r25.1 r25.2).bind fun r26 =>
 cnd r26.1 (
 (vl (Go.Value.slice none 0 0) r26.2).bind fun r27 =>
 (vl (.bool false) r27.2).bind fun r28 =>
 some (.tuple #[r27.1, r28.1], r28.2)) (
 (vl (e 4) r26.2).bind fun r29 =>
 (ld P 38 r22.1 r29.2).bind fun r30 =>
 (bs P 25 1 #[(0, r30.1)] r30.2).bind fun r31 =>
 (b_append P #[25, 25] 25 #[r29.1, r31.1] r31.2).bind fun r32 =>
 (vl r32.1 r32.2).bind fun r33 =>
 (vl r15.1 r33.2).bind fun r34 =>
 (vl r34.1 r34.2).bind fun r35 =>
 impl_HistGet_l1 (ups e [(13, r1.1), (14, r2.1), (15, r3.1), (16, r4.1), (17, r5.1), (18, r6.1), (19, r7.1), (21, r8.1), (22, r9.1), (20, r10.1), (23, r11.1), (24, r12.1), (25, r13.1), (6, r14.1), (7, r15.1), (8, r16.1), (27, r17.1), (28, r18.1), (26, r19.1), (29, r20.1), (30, r21.1), (9, r22.1), (10, r24.1), (31, r25.1), (32, r26.1), (33, r29.1), (34, r30.1), (35, r31.1), (36, r32.1), (4, r33.1), (37, r34.1), (5, r35.1)]) r35.2)) (
 (vl (e 4) r7.2).bind fun r36 =>
 (EV P 17 #[r36.1] r36.2).bind fun r37 =>
 (uo P .not r37.1 r37.2).bind fun r38 =>
 (vl r38.1 r38.2).bind fun r39 =>
 (gif r39.1 false (vl (e 4) r39.2) r39.2).bind fun r40 =>
 (gif r39.1 false (EV P 8 #[r40.1] r40.2) r40.2).bind fun r41 =>
 (gif r39.1 false (vl (e 0) r41.2) r41.2).bind fun r42 =>
 (gif r39.1 false (bo P .neq 9 (.tmp 43) (.tmp 44) r41.1 r42.1 r42.2) r42.2).bind fun r43 =>
 (pickV r39.1 (.bool true) r43.1 r43.2).bind fun r44 =>
 cnd r44.1 (
 (vl (Go.Value.slice none 0 0) r44.2).bind fun r45 =>
 (vl (.bool false) r45.2).bind fun r46 =>
 some (.tuple #[r45.1, r46.1], r46.2)) (
 (vl (e 4) r44.2).bind fun r47 =>
 (EV P 31 #[r47.1] r47.2).bind fun r48 =>
 (vl r48.1 r48.2).bind fun r49 =>
 (vl (.bool true) r49.2).bind fun r50 =>
 some (.tuple #[r49.1, r50.1], r50.2))) := (exC_loop P (EV P) 11 49 (cA (cA (cB (cA (cB (cB (bodyOf P 11))))))) e w (kBlock 0 (kSeq P (EV P) 11 49 (cB (cB (cB (bodyOf P 11)))) (kFn P (fnOf P 11))))).trans (by kernel_rfl)
theorem impl_HistGet_fn (x0 : Value) (w : World) : fnC P (EV P) 11 #[x0] w =
 (vl (Go.Value.slice none 0 0) w).bind fun r1 =>
 (vl (.bool false) r1.2).bind fun r2 =>
 (bs P 25 0 #[] r2.2).bind fun r3 =>
 (vl r3.1 r3.2).bind fun r4 =>
 (vl x0 r4.2).bind fun r5 =>
 (vl r5.1 r5.2).bind fun r6 =>
 impl_HistGet_l1 (ups (env0 #[x0]) [(2, r1.1), (3, r2.1), (11, r3.1), (4, r4.1), (12, r5.1), (5, r6.1)]) r6.2 := by kernel_rfl
noncomputable def laws_markDoneS_l1 (e : Env) (w : World) : Option (Value × World) := exC P (EV P) 12 50 (.loop (cA (cA (cB (cA (cB (bodyOf P 12))))))) e w (kBlock 0 (kSeq P (EV P) 12 50 (cB (cB (bodyOf P 12))) (kFn P (fnOf P 12))))
theorem laws_markDoneS_l1_eq (e : Env) (w : World) : laws_markDoneS_l1 e w =
 (vl (e 5) w).bind fun r1 =>
 (vl (e 0) r1.2).bind fun r2 =>
 (b_len P #[25] 3 #[r2.1] r2.2).bind fun r3 =>
 (bo P .lss 3 (.tmp 6) (.tmp 8) r1.1 r3.1 r3.2).bind fun r4 =>
 cnd r4.1 (
 (vl (e 0) r4.2).bind fun r5 =>
 (vl (e 5) r5.2).bind fun r6 =>
 (vl (e 1) r6.2).bind fun r7 =>
 (ia P 25 r5.1 r6.1 r7.2).bind fun r8 =>
 (fa P 38 r8.1 0 r8.2).bind fun r9 =>
 (st P 3 r9.1 r7.1 r9.2).bind fun r10 =>
 (vl (e 1) r10.2).bind fun r11 =>
 (bo P .add 3 (.tmp 17) (.const (.int .i64 1)) r11.1 (.int .i64 1) r11.2).bind fun r12 =>
 (vl r12.1 r12.2).bind fun r13 =>
 (vl (e 0) r13.2).bind fun r14 =>
 (vl (e 5) r14.2).bind fun r15 =>
 (vl r13.1 r15.2).bind fun r16 =>
 (ia P 25 r14.1 r15.1 r16.2).bind fun r17 =>
 (fa P 38 r17.1 1 r17.2).bind fun r18 =>
 (st P 3 r18.1 r16.1 r18.2).bind fun r19 =>
 (vl r13.1 r19.2).bind fun r20 =>
 (bo P .add 3 (.tmp 24) (.const (.int .i64 1)) r20.1 (.int .i64 1) r20.2).bind fun r21 =>
 (vl r21.1 r21.2).bind fun r22 =>
 (vl (e 0) r22.2).bind fun r23 =>
 (vl (e 5) r23.2).bind fun r24 =>
 (vl r22.1 r24.2).bind fun r25 =>
 (ia P 25 r23.1 r24.1 r25.2).bind fun r26 =>
 (fa P 38 r26.1 2 r26.2).bind fun r27 =>
 (st P 3 r27.1 r25.1 r27.2).bind fun r28 =>
 (vl r22.1 r28.2).bind fun r29 =>
 (bo P .add 3 (.tmp 31) (.const (.int .i64 1)) r29.1 (.int .i64 1) r29.2).bind fun r30 =>
 (vl r30.1 r30.2).bind fun r31 =>
 (vl (e 0) r31.2).bind fun r32 =>
 (vl (e 5) r32.2).bind fun r33 =>
 (vl r31.1 r33.2).bind fun r34 =>
 (ia P 25 r32.1 r33.1 r34.2).bind fun r35 =>
 (fa P 38 r35.1 3 r35.2).bind fun r36 =>
 (fa P 36 r36.1 0 r36.2).bind fun r37 =>
 (st P 3 r37.1 r34.1 r37.2).bind fun r38 =>
 (vl r31.1 r38.2).bind fun r39 =>
 (bo P .add 3 (.tmp 39) (.const (.int .i64 1)) r39.1 (.int .i64 1) r39.2).bind fun r40 =>
 (vl r40.1 r40.2).bind fun r41 =>
 (vl (e 0) r41.2).bind fun r42 =>
 (vl (e 5) r42.2).bind fun r43 =>
 (vl r41.1 r43.2).bind fun r44 =>
 (ia P 25 r42.1 r43.1 r44.2).bind fun r45 =>
 (fa P 38 r45.1 3 r45.2).bind fun r46 =>
 (fa P 36 r46.1 1 r46.2).bind fun r47 =>
 (st P 3 r47.1 r44.1 r47.2).bind fun r48 =>
 (vl r41.1 r48.2).bind fun r49 =>
 (bo P .add 3 (.tmp 47) (.const (.int .i64 1)) r49.1 (.int .i64 1) r49.2).bind fun r50 =>
 (vl r50.1 r50.2).bind fun r51 =>
 (vl (e 5) r51.2).bind fun r52 =>
 (bo P .add 3 (.tmp 10) (.const (.int .i64 1)) r52.1 (.int .i64 1) r52.2).bind fun r53 =>
 (vl r53.1 r53.2).bind fun r54 =>
 laws_markDoneS_l1 (ups e [(6, r1.1), (7, r2.1), (8, r3.1), (9, r4.1), (12, r5.1), (13, r6.1), (14, r7.1), (15, r8.1), (16, r9.1), (17, r11.1), (18, r12.1), (1, r13.1), (19, r14.1), (20, r15.1), (21, r16.1), (22, r17.1), (23, r18.1), (24, r20.1), (25, r21.1), (1, r22.1), (26, r23.1), (27, r24.1), (28, r25.1), (29, r26.1), (30, r27.1), (31, r29.1), (32, r30.1), (1, r31.1), (33, r32.1), (34, r33.1), (35, r34.1), (36, r35.1), (37, r36.1), (38, r37.1), (39, r39.1), (40, r40.1), (1, r41.1), (41, r42.1), (42, r43.1), (43, r44.1), (44, r45.1), (45, r46.1), (46, r47.1), (47, r49.1), (48, r50.1), (1, r51.1), (10, r52.1), (11, r53.1), (5, r54.1)]) r54.2) (
 (vl (e 1) r4.2).bind fun r55 =>
 (vl r55.1 r55.2).bind fun r56 =>
 some (r56.1, r56.2)) := (exC_loop P (EV P) 12 50 (cA (cA (cB (cA (cB (bodyOf P 12)))))) e w (kBlock 0 (kSeq P (EV P) 12 50 (cB (cB (bodyOf P 12))) (kFn P (fnOf P 12))))).trans (by kernel_rfl)
theorem laws_markDoneS_fn (x0 x1 : Value) (w : World) : fnC P (EV P) 12 #[x0, x1] w =
 (vl (.int .i64 0) w).bind fun r1 =>
 (vl (.int .i64 0) r1.2).bind fun r2 =>
 laws_markDoneS_l1 (ups (env0 #[x0, x1]) [(4, r1.1), (5, r2.1)]) r2.2 := by kernel_rfl
noncomputable def laws_heldDoneS_l1 (e : Env) (w : World) : Option (Value × World) := exC P (EV P) 13 60 (.loop (cA (cA (cB (cA (cB (bodyOf P 13))))))) e w (kBlock 0 (kSeq P (EV P) 13 60 (cB (cB (bodyOf P 13))) (kFn P (fnOf P 13))))
theorem laws_heldDoneS_l1_eq (e : Env) (w : World) : laws_heldDoneS_l1 e w =
 (vl (e 5) w).bind fun r1 =>
 (vl (e 0) r1.2).bind fun r2 =>
 (b_len P #[25] 3 #[r2.1] r2.2).bind fun r3 =>
 (bo P .lss 3 (.tmp 6) (.tmp 8) r1.1 r3.1 r3.2).bind fun r4 =>
 cnd r4.1 (
 (vl (e 0) r4.2).bind fun r5 =>
 (vl (e 5) r5.2).bind fun r6 =>
 (ia P 25 r5.1 r6.1 r6.2).bind fun r7 =>
 (fa P 38 r7.1 0 r7.2).bind fun r8 =>
 (ld P 3 r8.1 r8.2).bind fun r9 =>
 (vl (e 1) r9.2).bind fun r10 =>
 (bo P .neq 3 (.tmp 16) (.tmp 17) r9.1 r10.1 r10.2).bind fun r11 =>
 cnd r11.1 (
 (vl (.int .i64 (-1)) r11.2).bind fun r12 =>
 some (r12.1, r12.2)) (
 (vl (e 1) r11.2).bind fun r13 =>
 (bo P .add 3 (.tmp 19) (.const (.int .i64 1)) r13.1 (.int .i64 1) r13.2).bind fun r14 =>
 (vl r14.1 r14.2).bind fun r15 =>
 (vl (e 0) r15.2).bind fun r16 =>
 (vl (e 5) r16.2).bind fun r17 =>
 (ia P 25 r16.1 r17.1 r17.2).bind fun r18 =>
 (fa P 38 r18.1 1 r18.2).bind fun r19 =>
 (ld P 3 r19.1 r19.2).bind fun r20 =>
 (vl r15.1 r20.2).bind fun r21 =>
 (bo P .neq 3 (.tmp 25) (.tmp 26) r20.1 r21.1 r21.2).bind fun r22 =>
 cnd r22.1 (
 (vl (.int .i64 (-1)) r22.2).bind fun r23 =>
 some (r23.1, r23.2)) (
 (vl r15.1 r22.2).bind fun r24 =>
 (bo P .add 3 (.tmp 28) (.const (.int .i64 1)) r24.1 (.int .i64 1) r24.2).bind fun r25 =>
 (vl r25.1 r25.2).bind fun r26 =>
 (vl (e 0) r26.2).bind fun r27 =>
 (vl (e 5) r27.2).bind fun r28 =>
 (ia P 25 r27.1 r28.1 r28.2).bind fun r29 =>
 (fa P 38 r29.1 2 r29.2).bind fun r30 =>
 (ld P 3 r30.1 r30.2).bind fun r31 =>
 (vl r26.1 r31.2).bind fun r32 =>
 (bo P .neq 3 (.tmp 34) (.tmp 35) r31.1 r32.1 r32.2).bind fun r33 =>
 cnd r33.1 (
 (vl (.int .i64 (-1)) r33.2).bind fun r34 =>
 some (r34.1, r34.2)) (
 (vl r26.1 r33.2).bind fun r35 =>
 (bo P .add 3 (.tmp 37) (.const (.int .i64 1)) r35.1 (.int .i64 1) r35.2).bind fun r36 =>
 (vl r36.1 r36.2).bind fun r37 =>
 (vl (e 0) r37.2).bind fun r38 =>
 (vl (e 5) r38.2).bind fun r39 =>
 (ia P 25 r38.1 r39.1 r39.2).bind fun r40 =>
 (fa P 38 r40.1 3 r40.2).bind fun r41 =>
 (fa P 36 r41.1 0 r41.2).bind fun r42 =>
 (ld P 3 r42.1 r42.2).bind fun r43 =>
 (vl r37.1 r43.2).bind fun r44 =>
 (bo P .neq 3 (.tmp 44) (.tmp 45) r43.1 r44.1 r44.2).bind fun r45 =>
 cnd r45.1 (
 (vl (.int .i64 (-1)) r45.2).bind fun r46 =>
 some (r46.1, r46.2)) (
 (vl r37.1 r45.2).bind fun r47 =>
 (bo P .add 3 (.tmp 47) (.const (.int .i64 1)) r47.1 (.int .i64 1) r47.2).bind fun r48 =>
 (vl r48.1 r48.2).bind fun r49 =>
 (vl (e 0) r49.2).bind fun r50 =>
 (vl (e 5) r50.2).bind fun r51 =>
 (ia P 25 r50.1 r51.1 r51.2).bind fun r52 =>
 (fa P 38 r52.1 3 r52.2).bind fun r53 =>
 (fa P 36 r53.1 1 r53.2).bind fun r54 =>
 (ld P 3 r54.1 r54.2).bind fun r55 =>
 (vl r49.1 r55.2).bind fun r56 =>
 (bo P .neq 3 (.tmp 54) (.tmp 55) r55.1 r56.1 r56.2).bind fun r57 =>
 cnd r57.1 (
 (vl (.int .i64 (-1)) r57.2).bind fun r58 =>
 some (r58.1, r58.2)) (
 (vl r49.1 r57.2).bind fun r59 =>
 (bo P .add 3 (.tmp 57) (.const (.int .i64 1)) r59.1 (.int .i64 1) r59.2).bind fun r60 =>
 (vl r60.1 r60.2).bind fun r61 =>
 (vl (e 5) r61.2).bind fun r62 =>
 (bo P .add 3 (.tmp 10) (.const (.int .i64 1)) r62.1 (.int .i64 1) r62.2).bind fun r63 =>
 (vl r63.1 r63.2).bind fun r64 =>
 laws_heldDoneS_l1 (ups e [(6, r1.1), (7, r2.1), (8, r3.1), (9, r4.1), (12, r5.1), (13, r6.1), (14, r7.1), (15, r8.1), (16, r9.1), (17, r10.1), (18, r11.1), (19, r13.1), (20, r14.1), (1, r15.1), (21, r16.1), (22, r17.1), (23, r18.1), (24, r19.1), (25, r20.1), (26, r21.1), (27, r22.1), (28, r24.1), (29, r25.1), (1, r26.1), (30, r27.1), (31, r28.1), (32, r29.1), (33, r30.1), (34, r31.1), (35, r32.1), (36, r33.1), (37, r35.1), (38, r36.1), (1, r37.1), (39, r38.1), (40, r39.1), (41, r40.1), (42, r41.1), (43, r42.1), (44, r43.1), (45, r44.1), (46, r45.1), (47, r47.1), (48, r48.1), (1, r49.1), (49, r50.1), (50, r51.1), (51, r52.1), (52, r53.1), (53, r54.1), (54, r55.1), (55, r56.1), (56, r57.1), (57, r59.1), (58, r60.1), (1, r61.1), (10, r62.1), (11, r63.1), (5, r64.1)]) r64.2)))))) (
 (vl (e 1) r4.2).bind fun r65 =>
 (vl r65.1 r65.2).bind fun r66 =>
 some (r66.1, r66.2)) := (exC_loop P (EV P) 13 60 (cA (cA (cB (cA (cB (bodyOf P 13)))))) e w (kBlock 0 (kSeq P (EV P) 13 60 (cB (cB (bodyOf P 13))) (kFn P (fnOf P 13))))).trans (by kernel_rfl)
theorem laws_heldDoneS_fn (x0 x1 : Value) (w : World) : fnC P (EV P) 13 #[x0, x1] w =
 (vl (.int .i64 0) w).bind fun r1 =>
 (vl (.int .i64 0) r1.2).bind fun r2 =>
 laws_heldDoneS_l1 (ups (env0 #[x0, x1]) [(4, r1.1), (5, r2.1)]) r2.2 := by kernel_rfl
noncomputable def spec_l6Form_l1 (e : Env) (w : World) : Option (Value × World) := exC P (EV P) 14 19 (.loop (cA (cA (cB (cA (cB (bodyOf P 14))))))) e w (kBlock 0 (kSeq P (EV P) 14 19 (cB (cB (bodyOf P 14))) (kFn P (fnOf P 14))))
theorem spec_l6Form_l1_eq (e : Env) (w : World) : spec_l6Form_l1 e w =
 (vl (e 3) w).bind fun r1 =>
 (vl (e 0) r1.2).bind fun r2 =>
 (b_len P #[25] 3 #[r2.1] r2.2).bind fun r3 =>
 (bo P .lss 3 (.tmp 4) (.tmp 6) r1.1 r3.1 r3.2).bind fun r4 =>
 cnd r4.1 (
 (vl (e 0) r4.2).bind fun r5 =>
 (vl (e 3) r5.2).bind fun r6 =>
 (ia P 25 r5.1 r6.1 r6.2).bind fun r7 =>
 (ld P 38 r7.1 r7.2).bind fun r8 =>
 (EV P 28 #[r8.1] r8.2).bind fun r9 =>
 (uo P .not r9.1 r9.2).bind fun r10 =>
 cnd r10.1 (
 (vl (.bool false) r10.2).bind fun r11 =>
 some (r11.1, r11.2)) (
 (vl (e 3) r10.2).bind fun r12 =>
 (bo P .add 3 (.tmp 8) (.const (.int .i64 1)) r12.1 (.int .i64 1) r12.2).bind fun r13 =>
 (vl r13.1 r13.2).bind fun r14 =>
 spec_l6Form_l1 (ups e [(4, r1.1), (5, r2.1), (6, r3.1), (7, r4.1), (10, r5.1), (11, r6.1), (12, r7.1), (13, r8.1), (14, r9.1), (15, r10.1), (8, r12.1), (9, r13.1), (3, r14.1)]) r14.2)) (
 (vl (e 0) r4.2).bind fun r15 =>
 (b_len P #[25] 3 #[r15.1] r15.2).bind fun r16 =>
 (bo P .leq 3 (.tmp 17) (.const (.int .i64 80)) r16.1 (.int .i64 80) r16.2).bind fun r17 =>
 (vl r17.1 r17.2).bind fun r18 =>
 some (r18.1, r18.2)) := (exC_loop P (EV P) 14 19 (cA (cA (cB (cA (cB (bodyOf P 14)))))) e w (kBlock 0 (kSeq P (EV P) 14 19 (cB (cB (bodyOf P 14))) (kFn P (fnOf P 14))))).trans (by kernel_rfl)
theorem spec_l6Form_fn (x0 : Value) (w : World) : fnC P (EV P) 14 #[x0] w =
 (vl (.bool false) w).bind fun r1 =>
 (vl (.int .i64 0) r1.2).bind fun r2 =>
 spec_l6Form_l1 (ups (env0 #[x0]) [(2, r1.1), (3, r2.1)]) r2.2 := by kernel_rfl
theorem spec_l6Line_fn (x0 : Value) (w : World) : fnC P (EV P) 15 #[x0] w =
 (bx P 38 x0 w).bind fun r1 =>
 (vl (Go.Value.string { data := #[] }) r1.2).bind fun r2 =>
 (fa P 38 r1.1 0 (dw r2.2)).bind fun r4 =>
 ifP (r4.2 = (dw r2.2)) <|
 (ld P 3 r4.1 (dw r2.2)).bind fun r5 =>
 ifP (r5.2 = (dw r2.2)) <|
 (fa P 38 r1.1 1 (dw r2.2)).bind fun r6 =>
 ifP (r6.2 = (dw r2.2)) <|
 (ld P 3 r6.1 (dw r2.2)).bind fun r7 =>
 ifP (r7.2 = (dw r2.2)) <|
 (fa P 38 r1.1 2 (dw r2.2)).bind fun r8 =>
 ifP (r8.2 = (dw r2.2)) <|
 (ld P 3 r8.1 (dw r2.2)).bind fun r9 =>
 ifP (r9.2 = (dw r2.2)) <|
 (fa P 38 r1.1 3 (dw r2.2)).bind fun r10 =>
 ifP (r10.2 = (dw r2.2)) <|
 (ld P 36 r10.1 (dw r2.2)).bind fun r11 =>
 ifP (r11.2 = (dw r2.2)) <|
 (EV P 32 #[r5.1] (dw r2.2)).bind fun r12 =>
 ifP (ld P 36 r10.1 r12.2 = some (r11.1, r12.2) ∧ fa P 38 r1.1 3 r12.2 = some (r10.1, r12.2) ∧ ld P 3 r8.1 r12.2 = some (r9.1, r12.2) ∧ fa P 38 r1.1 2 r12.2 = some (r8.1, r12.2) ∧ ld P 3 r6.1 r12.2 = some (r7.1, r12.2) ∧ fa P 38 r1.1 1 r12.2 = some (r6.1, r12.2) ∧ True ∧ True ∧ True) <|
 (bo P .add 9 (.tmp 5) (.const (Go.Value.string { data := #[32] })) r12.1 (Go.Value.string { data := #[32] }) r12.2).bind fun r13 =>
 ifP (r13.2 = r12.2) <|
 (EV P 27 #[] r12.2).bind fun r14 =>
 ifP (bo P .add 9 (.tmp 5) (.const (Go.Value.string { data := #[32] })) r12.1 (Go.Value.string { data := #[32] }) r14.2 = some (r13.1, r14.2) ∧ ld P 36 r10.1 r14.2 = some (r11.1, r14.2) ∧ fa P 38 r1.1 3 r14.2 = some (r10.1, r14.2) ∧ ld P 3 r8.1 r14.2 = some (r9.1, r14.2) ∧ fa P 38 r1.1 2 r14.2 = some (r8.1, r14.2) ∧ ld P 3 r6.1 r14.2 = some (r7.1, r14.2) ∧ fa P 38 r1.1 1 r14.2 = some (r6.1, r14.2) ∧ True ∧ True ∧ True) <|
 (ia P 52 r14.1 r7.1 r14.2).bind fun r15 =>
 ifP (r15.2 = r14.2) <|
 (ld P 9 r15.1 r14.2).bind fun r16 =>
 ifP (r16.2 = r14.2) <|
 (bo P .add 9 (.tmp 6) (.tmp 11) r13.1 r16.1 r14.2).bind fun r17 =>
 ifP (r17.2 = r14.2) <|
 (bo P .add 9 (.tmp 12) (.const (Go.Value.string { data := #[32] })) r17.1 (Go.Value.string { data := #[32] }) r14.2).bind fun r18 =>
 ifP (r18.2 = r14.2) <|
 (EV P 32 #[r9.1] r14.2).bind fun r19 =>
 ifP (bo P .add 9 (.tmp 12) (.const (Go.Value.string { data := #[32] })) r17.1 (Go.Value.string { data := #[32] }) r19.2 = some (r18.1, r19.2) ∧ bo P .add 9 (.tmp 6) (.tmp 11) r13.1 r16.1 r19.2 = some (r17.1, r19.2) ∧ ld P 9 r15.1 r19.2 = some (r16.1, r19.2) ∧ ia P 52 r14.1 r7.1 r19.2 = some (r15.1, r19.2) ∧ bo P .add 9 (.tmp 5) (.const (Go.Value.string { data := #[32] })) r12.1 (Go.Value.string { data := #[32] }) r19.2 = some (r13.1, r19.2) ∧ ld P 36 r10.1 r19.2 = some (r11.1, r19.2) ∧ fa P 38 r1.1 3 r19.2 = some (r10.1, r19.2) ∧ True ∧ True ∧ ld P 3 r6.1 r19.2 = some (r7.1, r19.2) ∧ fa P 38 r1.1 1 r19.2 = some (r6.1, r19.2) ∧ True ∧ True ∧ True) <|
 (bo P .add 9 (.tmp 13) (.tmp 16) r18.1 r19.1 r19.2).bind fun r20 =>
 ifP (r20.2 = r19.2) <|
 (bo P .add 9 (.tmp 17) (.const (Go.Value.string { data := #[32] })) r20.1 (Go.Value.string { data := #[32] }) r19.2).bind fun r21 =>
 ifP (r21.2 = r19.2) <|
 (EV P 33 #[r11.1] r19.2).bind fun r22 =>
 ifP (bo P .add 9 (.tmp 17) (.const (Go.Value.string { data := #[32] })) r20.1 (Go.Value.string { data := #[32] }) r22.2 = some (r21.1, r22.2) ∧ bo P .add 9 (.tmp 13) (.tmp 16) r18.1 r19.1 r22.2 = some (r20.1, r22.2) ∧ bo P .add 9 (.tmp 12) (.const (Go.Value.string { data := #[32] })) r17.1 (Go.Value.string { data := #[32] }) r22.2 = some (r18.1, r22.2) ∧ bo P .add 9 (.tmp 6) (.tmp 11) r13.1 r16.1 r22.2 = some (r17.1, r22.2) ∧ ld P 9 r15.1 r22.2 = some (r16.1, r22.2) ∧ ia P 52 r14.1 r7.1 r22.2 = some (r15.1, r22.2) ∧ bo P .add 9 (.tmp 5) (.const (Go.Value.string { data := #[32] })) r12.1 (Go.Value.string { data := #[32] }) r22.2 = some (r13.1, r22.2) ∧ True ∧ True ∧ True ∧ True ∧ ld P 3 r6.1 r22.2 = some (r7.1, r22.2) ∧ fa P 38 r1.1 1 r22.2 = some (r6.1, r22.2) ∧ True ∧ True ∧ True) <|
 (bo P .add 9 (.tmp 18) (.tmp 21) r21.1 r22.1 r22.2).bind fun r23 =>
 ifP (r23.2 = r22.2) <|
 (bo P .add 9 (.tmp 22) (.const (Go.Value.string { data := #[10] })) r23.1 (Go.Value.string { data := #[10] }) r22.2).bind fun r24 =>
 ifP (r24.2 = r22.2) <|
 (vl r24.1 r22.2).bind fun r25 =>
 ifP (r25.2 = r22.2) <|
 some (r25.1, r22.2) := by kernel_rfl
theorem impl_formed_fn (x0 : Value) (w : World) : fnC P (EV P) 17 #[x0] w =
 (vl (.bool false) w).bind fun r1 =>
 (vl x0 r1.2).bind fun r2 =>
 (b_len P #[25] 3 #[r2.1] r2.2).bind fun r3 =>
 (bo P .leq 3 (.tmp 4) (.const (.int .i64 80)) r3.1 (.int .i64 80) r3.2).bind fun r4 =>
 (vl r4.1 r4.2).bind fun r5 =>
 (gif r5.1 true (vl x0 r5.2) r5.2).bind fun r6 =>
 (gif r5.1 true (EV P 35 #[r6.1, (.func (.func 36) #[] #[])] r6.2) r6.2).bind fun r7 =>
 (gif r5.1 true (uo P .not r7.1 r7.2) r7.2).bind fun r8 =>
 (pickV r5.1 r8.1 (.bool false) r8.2).bind fun r9 =>
 (vl r9.1 r9.2).bind fun r10 =>
 some (r10.1, r10.2) := by kernel_rfl
theorem strings_Builder_WriteString_fn (x0 x1 : Value) (w : World) : fnC P (EV P) 18 #[x0, x1] w =
 (vl (.int .i64 0) w).bind fun r1 =>
 (vl Go.Value.nilIface r1.2).bind fun r2 =>
 (vl x0 r2.2).bind fun r3 =>
 (EV P 40 #[r3.1] r3.2).bind fun r4 =>
 (vl x0 r4.2).bind fun r5 =>
 (vl x0 r5.2).bind fun r6 =>
 (nk P r6.1 r6.2).bind fun r7 =>
 (fa P 46 r7.1 1 r7.2).bind fun r8 =>
 (ld P 44 r8.1 r8.2).bind fun r9 =>
 (vl x1 r9.2).bind fun r10 =>
 (b_append P #[44, 9] 44 #[r9.1, r10.1] r10.2).bind fun r11 =>
 (nk P r5.1 r11.2).bind fun r12 =>
 (fa P 46 r12.1 1 r12.2).bind fun r13 =>
 (st P 44 r13.1 r11.1 r13.2).bind fun r14 =>
 (vl x1 r14.2).bind fun r15 =>
 (b_len P #[9] 3 #[r15.1] r15.2).bind fun r16 =>
 (vl r16.1 r16.2).bind fun r17 =>
 (vl Go.Value.nilIface r17.2).bind fun r18 =>
 some (.tuple #[r17.1, r18.1], r18.2) := by kernel_rfl
theorem strconv_Itoa_fn (x0 : Value) (w : World) : fnC P (EV P) 19 #[x0] w =
 (vl (Go.Value.string { data := #[] }) w).bind fun r1 =>
 (vl x0 r1.2).bind fun r2 =>
 (EV P 41 #[r2.1] r2.2).bind fun r3 =>
 (vl r3.1 r3.2).bind fun r4 =>
 some (r4.1, r4.2) := by kernel_rfl
theorem impl_doneNames_fn (w : World) : fnC P (EV P) 20 #[] w =
 (vl (Go.Value.slice none 0 0) w).bind fun r1 =>
 (bs P 52 4 #[(0, (Go.Value.string { data := #[] })), (1, (Go.Value.string { data := #[119, 114, 105, 116, 101] })), (2, (Go.Value.string { data := #[114, 101, 97, 100] })), (3, (Go.Value.string { data := #[115, 117, 114, 101] }))] r1.2).bind fun r2 =>
 (vl r2.1 r2.2).bind fun r3 =>
 some (r3.1, r3.2) := by kernel_rfl
theorem impl_Tag_text_fn (x0 : Value) (w : World) : fnC P (EV P) 21 #[x0] w =
 (bx P 36 x0 w).bind fun r1 =>
 (vl (Go.Value.string { data := #[] }) r1.2).bind fun r2 =>
 (fa P 36 r1.1 0 (dw r2.2)).bind fun r4 =>
 ifP (r4.2 = (dw r2.2)) <|
 (ld P 3 r4.1 (dw r2.2)).bind fun r5 =>
 ifP (r5.2 = (dw r2.2)) <|
 (fa P 36 r1.1 1 (dw r2.2)).bind fun r6 =>
 ifP (r6.2 = (dw r2.2)) <|
 (ld P 3 r6.1 (dw r2.2)).bind fun r7 =>
 ifP (r7.2 = (dw r2.2)) <|
 (EV P 19 #[r5.1] (dw r2.2)).bind fun r8 =>
 ifP (ld P 3 r6.1 r8.2 = some (r7.1, r8.2) ∧ fa P 36 r1.1 1 r8.2 = some (r6.1, r8.2) ∧ True ∧ True ∧ True) <|
 (bo P .add 9 (.tmp 5) (.const (Go.Value.string { data := #[46] })) r8.1 (Go.Value.string { data := #[46] }) r8.2).bind fun r9 =>
 ifP (r9.2 = r8.2) <|
 (EV P 19 #[r7.1] r8.2).bind fun r10 =>
 ifP (bo P .add 9 (.tmp 5) (.const (Go.Value.string { data := #[46] })) r8.1 (Go.Value.string { data := #[46] }) r10.2 = some (r9.1, r10.2) ∧ True ∧ True ∧ True ∧ True ∧ True) <|
 (bo P .add 9 (.tmp 6) (.tmp 9) r9.1 r10.1 r10.2).bind fun r11 =>
 ifP (r11.2 = r10.2) <|
 (vl r11.1 r10.2).bind fun r12 =>
 ifP (r12.2 = r10.2) <|
 some (r12.1, r10.2) := by kernel_rfl
theorem strings_Builder_String_fn (x0 : Value) (w : World) : fnC P (EV P) 22 #[x0] w =
 (vl (Go.Value.string { data := #[] }) w).bind fun r1 =>
 (vl x0 (dw r1.2)).bind fun r3 =>
 ifP (r3.2 = (dw r1.2)) <|
 (nk P r3.1 (dw r1.2)).bind fun r4 =>
 ifP (r4.2 = (dw r1.2)) <|
 (fa P 46 r4.1 1 (dw r1.2)).bind fun r5 =>
 ifP (r5.2 = (dw r1.2)) <|
 (ld P 44 r5.1 (dw r1.2)).bind fun r6 =>
 ifP (r6.2 = (dw r1.2)) <|
 (vl x0 (dw r1.2)).bind fun r7 =>
 ifP (r7.2 = (dw r1.2)) <|
 (nk P r7.1 (dw r1.2)).bind fun r8 =>
 ifP (r8.2 = (dw r1.2)) <|
 (fa P 46 r8.1 1 (dw r1.2)).bind fun r9 =>
 ifP (r9.2 = (dw r1.2)) <|
 (ld P 44 r9.1 (dw r1.2)).bind fun r10 =>
 ifP (r10.2 = (dw r1.2)) <|
 (b_len P #[44] 3 #[r10.1] (dw r1.2)).bind fun r11 =>
 ifP (r11.2 = (dw r1.2)) <|
 (gn P { dst := (some 7), op := (Go.Op.call { callee := (Go.Callee.builtin Go.Builtin.unsafeSliceData), args := #[(Go.Operand.tmp 6)], argTypes := #[44] }), type := 72, pos := "builder.go:47", after := #[{ on := 3, ground := Go.Ground.data }], guard := none } (ups (env0 #[x0]) [(2, r1.1), (3, r3.1), (4, r4.1), (5, r5.1), (6, r6.1), (8, r7.1), (9, r8.1), (10, r9.1), (11, r10.1), (12, r11.1)]) (dw r1.2)).bind fun r12 =>
 ifP (b_len P #[44] 3 #[r10.1] r12.2 = some (r11.1, r12.2) ∧ ld P 44 r9.1 r12.2 = some (r10.1, r12.2) ∧ fa P 46 r8.1 1 r12.2 = some (r9.1, r12.2) ∧ nk P r7.1 r12.2 = some (r8.1, r12.2) ∧ True ∧ True ∧ True ∧ True) <|
 (gn P { dst := (some 13), op := (Go.Op.call { callee := (Go.Callee.builtin Go.Builtin.unsafeString), args := #[(Go.Operand.tmp 7), (Go.Operand.tmp 12)], argTypes := #[72, 3] }), type := 9, pos := "builder.go:47", after := #[{ on := 4, ground := Go.Ground.data }, { on := 9, ground := Go.Ground.data }], guard := none } (ups (env0 #[x0]) [(2, r1.1), (3, r3.1), (4, r4.1), (5, r5.1), (6, r6.1), (8, r7.1), (9, r8.1), (10, r9.1), (11, r10.1), (12, r11.1), (7, r12.1)]) r12.2).bind fun r13 =>
 ifP (True ∧ True ∧ True ∧ True ∧ True ∧ True ∧ True ∧ True) <|
 (vl r13.1 r13.2).bind fun r14 =>
 ifP (r14.2 = r13.2) <|
 some (r14.1, r13.2) := by kernel_rfl
theorem laws_eqDone_fn (x0 x1 : Value) (w : World) : fnC P (EV P) 23 #[x0, x1] w =
 (bx P 38 x0 w).bind fun r1 =>
 (bx P 38 x1 r1.2).bind fun r2 =>
 (vl (.bool false) r2.2).bind fun r3 =>
 (fa P 38 r1.1 0 r3.2).bind fun r4 =>
 (ld P 3 r4.1 r4.2).bind fun r5 =>
 (fa P 38 r2.1 0 r5.2).bind fun r6 =>
 (ld P 3 r6.1 r6.2).bind fun r7 =>
 (bo P .neq 3 (.tmp 6) (.tmp 8) r5.1 r7.1 r7.2).bind fun r8 =>
 cnd r8.1 (
 (vl (.bool false) r8.2).bind fun r9 =>
 some (r9.1, r9.2)) (
 (fa P 38 r1.1 1 r8.2).bind fun r10 =>
 (ld P 3 r10.1 r10.2).bind fun r11 =>
 (fa P 38 r2.1 1 r11.2).bind fun r12 =>
 (ld P 3 r12.1 r12.2).bind fun r13 =>
 (bo P .neq 3 (.tmp 11) (.tmp 13) r11.1 r13.1 r13.2).bind fun r14 =>
 cnd r14.1 (
 (vl (.bool false) r14.2).bind fun r15 =>
 some (r15.1, r15.2)) (
 (fa P 38 r1.1 2 r14.2).bind fun r16 =>
 (ld P 3 r16.1 r16.2).bind fun r17 =>
 (fa P 38 r2.1 2 r17.2).bind fun r18 =>
 (ld P 3 r18.1 r18.2).bind fun r19 =>
 (bo P .neq 3 (.tmp 16) (.tmp 18) r17.1 r19.1 r19.2).bind fun r20 =>
 cnd r20.1 (
 (vl (.bool false) r20.2).bind fun r21 =>
 some (r21.1, r21.2)) (
 (fa P 38 r1.1 3 r20.2).bind fun r22 =>
 (ld P 36 r22.1 r22.2).bind fun r23 =>
 (fa P 38 r2.1 3 r23.2).bind fun r24 =>
 (ld P 36 r24.1 r24.2).bind fun r25 =>
 (EV P 42 #[r23.1, r25.1] r25.2).bind fun r26 =>
 (uo P .not r26.1 r26.2).bind fun r27 =>
 cnd r27.1 (
 (vl (.bool false) r27.2).bind fun r28 =>
 some (r28.1, r28.2)) (
 (vl (.bool true) r27.2).bind fun r29 =>
 some (r29.1, r29.2))))) := by kernel_rfl
noncomputable def spec_l1Cut_l1 (e : Env) (w : World) : Option (Value × World) := exC P (EV P) 24 43 (.loop (cA (cA (cB (cA (cB (cB (cB (bodyOf P 24))))))))) e w (kBlock 0 (kSeq P (EV P) 24 43 (cB (cB (cB (cB (bodyOf P 24))))) (kFn P (fnOf P 24))))
noncomputable def spec_l1Cut_j1 (e : Env) (w : World) : Option (Value × World) := exC P (EV P) 24 43 (cB (cB (cA (cA (cB (cA (cB (cB (cB (bodyOf P 24)))))))))) e w (kLoop P (EV P) 24 43 (cA (cA (cB (cA (cB (cB (cB (bodyOf P 24)))))))) (kBlock 0 (kSeq P (EV P) 24 43 (cB (cB (cB (cB (bodyOf P 24))))) (kFn P (fnOf P 24)))))
theorem spec_l1Cut_l1_eq (e : Env) (w : World) : spec_l1Cut_l1 e w =
 (vl (e 9) w).bind fun r1 =>
 (vl (e 0) r1.2).bind fun r2 =>
 (b_len P #[9] 3 #[r2.1] r2.2).bind fun r3 =>
 (bo P .lss 3 (.tmp 11) (.tmp 13) r1.1 r3.1 r3.2).bind fun r4 =>
 (vl r4.1 r4.2).bind fun r5 =>
 (gif r5.1 true (vl (e 7) r5.2) r5.2).bind fun r6 =>
 (gif r5.1 true (b_len P #[52] 3 #[r6.1] r6.2) r6.2).bind fun r7 =>
 (gif r5.1 true (vl (e 2) r7.2) r7.2).bind fun r8 =>
 (gif r5.1 true (bo P .lss 3 (.tmp 17) (.tmp 18) r7.1 r8.1 r8.2) r8.2).bind fun r9 =>
 (pickV r5.1 r9.1 (.bool false) r9.2).bind fun r10 =>
 cnd r10.1 (
 (vl (e 0) r10.2).bind fun r11 =>
 (vl (e 9) r11.2).bind fun r12 =>
 (ix P 9 r11.1 r12.1 r12.2).bind fun r13 =>
 (vl (e 1) r13.2).bind fun r14 =>
 (bo P .eql 5 (.tmp 25) (.tmp 26) r13.1 r14.1 r14.2).bind fun r15 =>
 cnd r15.1 (
 (vl (e 7) r15.2).bind fun r16 =>
 (vl (e 0) r16.2).bind fun r17 =>
 (vl (e 8) r17.2).bind fun r18 =>
 (vl (e 9) r18.2).bind fun r19 =>
 (sl P 9 r17.1 (some r18.1) (some r19.1) none r19.2).bind fun r20 =>
 (bs P 52 1 #[(0, r20.1)] r20.2).bind fun r21 =>
 (b_append P #[52, 52] 52 #[r16.1, r21.1] r21.2).bind fun r22 =>
 (vl r22.1 r22.2).bind fun r23 =>
 (vl (e 9) r23.2).bind fun r24 =>
 (bo P .add 3 (.tmp 35) (.const (.int .i64 1)) r24.1 (.int .i64 1) r24.2).bind fun r25 =>
 (vl r25.1 r25.2).bind fun r26 =>
 spec_l1Cut_j1 (ups e [(11, r1.1), (12, r2.1), (13, r3.1), (14, r4.1), (15, r5.1), (16, r6.1), (17, r7.1), (18, r8.1), (19, r9.1), (20, r10.1), (23, r11.1), (24, r12.1), (25, r13.1), (26, r14.1), (27, r15.1), (28, r16.1), (29, r17.1), (30, r18.1), (31, r19.1), (32, r20.1), (33, r21.1), (34, r22.1), (7, r23.1), (35, r24.1), (36, r25.1), (8, r26.1)]) r26.2) (
 spec_l1Cut_j1 (ups e [(11, r1.1), (12, r2.1), (13, r3.1), (14, r4.1), (15, r5.1), (16, r6.1), (17, r7.1), (18, r8.1), (19, r9.1), (20, r10.1), (23, r11.1), (24, r12.1), (25, r13.1), (26, r14.1), (27, r15.1)]) r15.2)) (
 (vl (e 7) r10.2).bind fun r27 =>
 (vl (e 0) r27.2).bind fun r28 =>
 (vl (e 8) r28.2).bind fun r29 =>
 (sl P 9 r28.1 (some r29.1) none none r29.2).bind fun r30 =>
 (bs P 52 1 #[(0, r30.1)] r30.2).bind fun r31 =>
 (b_append P #[52, 52] 52 #[r27.1, r31.1] r31.2).bind fun r32 =>
 (vl r32.1 r32.2).bind fun r33 =>
 some (r33.1, r33.2)) := (exC_loop P (EV P) 24 43 (cA (cA (cB (cA (cB (cB (cB (bodyOf P 24)))))))) e w (kBlock 0 (kSeq P (EV P) 24 43 (cB (cB (cB (cB (bodyOf P 24))))) (kFn P (fnOf P 24))))).trans (by kernel_rfl)
theorem spec_l1Cut_j1_eq (e : Env) (w : World) : spec_l1Cut_j1 e w =
 (vl (e 9) w).bind fun r1 =>
 (bo P .add 3 (.tmp 21) (.const (.int .i64 1)) r1.1 (.int .i64 1) r1.2).bind fun r2 =>
 (vl r2.1 r2.2).bind fun r3 =>
 spec_l1Cut_l1 (ups e [(21, r1.1), (22, r2.1), (9, r3.1)]) r3.2 := by kernel_rfl
theorem spec_l1Cut_fn (x0 x1 x2 : Value) (w : World) : fnC P (EV P) 24 #[x0, x1, x2] w =
 (vl (Go.Value.slice none 0 0) w).bind fun r1 =>
 (bs P 52 0 #[] r1.2).bind fun r2 =>
 (vl r2.1 r2.2).bind fun r3 =>
 (vl (.int .i64 0) r3.2).bind fun r4 =>
 (vl (.int .i64 0) r4.2).bind fun r5 =>
 spec_l1Cut_l1 (ups (env0 #[x0, x1, x2]) [(6, r1.1), (10, r2.1), (7, r3.1), (8, r4.1), (9, r5.1)]) r5.2 := by kernel_rfl
noncomputable def spec_TagGet_a1 (e : Env) (w : World) : Option (Value × World) := exC P (EV P) 25 32 (cA (cB (cB (cB (bodyOf P 25))))) e w (kSeq P (EV P) 25 32 (cB (cB (cB (cB (bodyOf P 25))))) (kFn P (fnOf P 25)))
noncomputable def spec_TagGet_j1 (e : Env) (w : World) : Option (Value × World) := exC P (EV P) 25 32 (cB (cB (cB (cB (bodyOf P 25))))) e w (kFn P (fnOf P 25))
theorem spec_TagGet_a1_any (e : Env) (w : World) {Q : Value × World → Prop} (h :
 (Ret (vl (e 4) (dw w)) fun r1 => r1.2 = (dw w) ∧
 (Ret (ia P 52 r1.1 (.int .i64 0) (dw w)) fun r2 => r2.2 = (dw w) ∧
 (Ret (ld P 9 r2.1 (dw w)) fun r3 => r3.2 = (dw w) ∧
 (Ret (vl (e 4) (dw w)) fun r4 => r4.2 = (dw w) ∧
 (Ret (ia P 52 r4.1 (.int .i64 1) (dw w)) fun r5 => r5.2 = (dw w) ∧
 (Ret (ld P 9 r5.1 (dw w)) fun r6 => r6.2 = (dw w) ∧
 ((Ret (EV P 26 #[r3.1] (dw w)) fun r7 => (ld P 9 r5.1 r7.2 = some (r6.1, r7.2) ∧ ia P 52 r4.1 (.int .i64 1) r7.2 = some (r5.1, r7.2) ∧ True ∧ True ∧ True) ∧
 ((Ret (EV P 26 #[r6.1] r7.2) fun r8 => (True ∧ True ∧ True ∧ True ∧ True) ∧
 (Ret (bd P 36 #[(0, r7.1), (1, r8.1)] r8.2) fun r9 => r9.2 = r8.2 ∧
 ((Ret (al P 36 r8.2) fun r10 => (bd P 36 #[(0, r7.1), (1, r8.1)] r10.2 = some (r9.1, r10.2) ∧ ld P 9 r5.1 r10.2 = some (r6.1, r10.2) ∧ ia P 52 r4.1 (.int .i64 1) r10.2 = some (r5.1, r10.2) ∧ ld P 9 r2.1 r10.2 = some (r3.1, r10.2) ∧ ia P 52 r1.1 (.int .i64 0) r10.2 = some (r2.1, r10.2) ∧ True) ∧
 ((Ret (st P 36 r10.1 r9.1 r10.2) fun r11 => (True ∧ True ∧ True ∧ True ∧ True ∧ True) ∧
 Ret (spec_TagGet_j1 (ups e [(12, r1.1), (13, r2.1), (14, r3.1), (16, r4.1), (17, r5.1), (18, r6.1), (15, r7.1), (19, r8.1), (20, r9.1), (5, r10.1)]) r11.2) Q)))))) ∧
 (Ret (al P 36 r7.2) fun r12 => (ld P 9 r5.1 r12.2 = some (r6.1, r12.2) ∧ ia P 52 r4.1 (.int .i64 1) r12.2 = some (r5.1, r12.2) ∧ ld P 9 r2.1 r12.2 = some (r3.1, r12.2) ∧ ia P 52 r1.1 (.int .i64 0) r12.2 = some (r2.1, r12.2) ∧ True) ∧
 ((Ret (EV P 26 #[r6.1] r12.2) fun r13 => (True ∧ True ∧ True ∧ True ∧ True) ∧
 (Ret (bd P 36 #[(0, r7.1), (1, r13.1)] r13.2) fun r14 => r14.2 = r13.2 ∧
 ((Ret (st P 36 r12.1 r14.1 r13.2) fun r15 => (True ∧ True ∧ True ∧ True ∧ True ∧ True) ∧
 Ret (spec_TagGet_j1 (ups e [(12, r1.1), (13, r2.1), (14, r3.1), (16, r4.1), (17, r5.1), (18, r6.1), (15, r7.1), (5, r12.1), (19, r13.1), (20, r14.1)]) r15.2) Q)))))))) ∧
 (Ret (al P 36 (dw w)) fun r16 => (ld P 9 r5.1 r16.2 = some (r6.1, r16.2) ∧ ia P 52 r4.1 (.int .i64 1) r16.2 = some (r5.1, r16.2) ∧ ld P 9 r2.1 r16.2 = some (r3.1, r16.2) ∧ ia P 52 r1.1 (.int .i64 0) r16.2 = some (r2.1, r16.2) ∧ True) ∧
 ((Ret (EV P 26 #[r3.1] r16.2) fun r17 => (ld P 9 r5.1 r17.2 = some (r6.1, r17.2) ∧ ia P 52 r4.1 (.int .i64 1) r17.2 = some (r5.1, r17.2) ∧ True ∧ True ∧ True) ∧
 ((Ret (EV P 26 #[r6.1] r17.2) fun r18 => (True ∧ True ∧ True ∧ True ∧ True) ∧
 (Ret (bd P 36 #[(0, r17.1), (1, r18.1)] r18.2) fun r19 => r19.2 = r18.2 ∧
 ((Ret (st P 36 r16.1 r19.1 r18.2) fun r20 => (True ∧ True ∧ True ∧ True ∧ True ∧ True) ∧
 Ret (spec_TagGet_j1 (ups e [(12, r1.1), (13, r2.1), (14, r3.1), (16, r4.1), (17, r5.1), (18, r6.1), (5, r16.1), (15, r17.1), (19, r18.1), (20, r19.1)]) r20.2) Q)))))))))))))))) : Ret (spec_TagGet_a1 e w) Q := exC_any (id := 4) (ops := opsOf (cA (cB (cB (cB (bodyOf P 25)))))) (by kernel_rfl) (by kernel_rfl) (Eq.mpr (by kernel_rfl) h)
theorem spec_TagGet_j1_eq (e : Env) (w : World) : spec_TagGet_j1 e w =
 (ld P 36 (e 5) w).bind fun r1 =>
 (EV P 43 #[r1.1] r1.2).bind fun r2 =>
 (uo P .not r2.1 r2.2).bind fun r3 =>
 (vl r3.1 r3.2).bind fun r4 =>
 (gif r4.1 false (ld P 36 (e 5) r4.2) r4.2).bind fun r5 =>
 (gif r4.1 false (EV P 33 #[r5.1] r5.2) r5.2).bind fun r6 =>
 (gif r4.1 false (vl (e 0) r6.2) r6.2).bind fun r7 =>
 (gif r4.1 false (bo P .neq 9 (.tmp 26) (.tmp 27) r6.1 r7.1 r7.2) r7.2).bind fun r8 =>
 (pickV r4.1 (.bool true) r8.1 r8.2).bind fun r9 =>
 cnd r9.1 (
 (bd P 36 #[] r9.2).bind fun r10 =>
 (st P 36 (e 2) r10.1 r10.2).bind fun r11 =>
 (vl (.bool false) r11.2).bind fun r12 =>
 ((ld P 36 (e 2) r12.2).bind fun r13 => ifP (r13.2 = r12.2) (some r13.1)).bind fun v14 =>
 some (.tuple #[v14, r12.1], r12.2)) (
 (ld P 36 (e 5) r9.2).bind fun r15 =>
 (st P 36 (e 2) r15.1 r15.2).bind fun r16 =>
 (vl (.bool true) r16.2).bind fun r17 =>
 ((ld P 36 (e 2) r17.2).bind fun r18 => ifP (r18.2 = r17.2) (some r18.1)).bind fun v19 =>
 some (.tuple #[v19, r17.1], r17.2)) := by kernel_rfl
theorem spec_TagGet_fn (x0 : Value) (w : World) : fnC P (EV P) 25 #[x0] w =
 (al P 36 w).bind fun r1 =>
 (vl (.bool false) r1.2).bind fun r2 =>
 (vl x0 r2.2).bind fun r3 =>
 (EV P 24 #[r3.1, (.int .u8 46), (.int .i64 2)] r3.2).bind fun r4 =>
 (vl r4.1 r4.2).bind fun r5 =>
 (vl r5.1 r5.2).bind fun r6 =>
 (b_len P #[52] 3 #[r6.1] r6.2).bind fun r7 =>
 (bo P .neq 3 (.tmp 9) (.const (.int .i64 2)) r7.1 (.int .i64 2) r7.2).bind fun r8 =>
 cnd r8.1 (
 (bd P 36 #[] r8.2).bind fun r9 =>
 (st P 36 r1.1 r9.1 r9.2).bind fun r10 =>
 (vl (.bool false) r10.2).bind fun r11 =>
 ((ld P 36 r1.1 r11.2).bind fun r12 => ifP (r12.2 = r11.2) (some r12.1)).bind fun v13 =>
 some (.tuple #[v13, r11.1], r11.2)) (
 spec_TagGet_a1 (ups (env0 #[x0]) [(2, r1.1), (3, r2.1), (6, r3.1), (7, r4.1), (4, r5.1), (8, r6.1), (9, r7.1), (10, r8.1)]) r8.2) := by kernel_rfl
noncomputable def spec_l1Num_l1 (e : Env) (w : World) : Option (Value × World) := exC P (EV P) 26 47 (.loop (cA (cA (cB (cA (cB (cB (bodyOf P 26)))))))) e w (kBlock 0 (kSeq P (EV P) 26 47 (cB (cB (cB (bodyOf P 26)))) (kFn P (fnOf P 26))))
theorem spec_l1Num_l1_eq (e : Env) (w : World) : spec_l1Num_l1 e w =
 (vl (e 4) w).bind fun r1 =>
 (vl (e 0) r1.2).bind fun r2 =>
 (b_len P #[9] 3 #[r2.1] r2.2).bind fun r3 =>
 (bo P .lss 3 (.tmp 5) (.tmp 7) r1.1 r3.1 r3.2).bind fun r4 =>
 cnd r4.1 (
 (vl (e 0) r4.2).bind fun r5 =>
 (vl (e 4) r5.2).bind fun r6 =>
 (ix P 9 r5.1 r6.1 r6.2).bind fun r7 =>
 (bo P .lss 5 (.tmp 13) (.const (.int .u8 48)) r7.1 (.int .u8 48) r7.2).bind fun r8 =>
 (vl r8.1 r8.2).bind fun r9 =>
 (gif r9.1 false (vl (e 0) r9.2) r9.2).bind fun r10 =>
 (gif r9.1 false (vl (e 4) r10.2) r10.2).bind fun r11 =>
 (gif r9.1 false (ix P 9 r10.1 r11.1 r11.2) r11.2).bind fun r12 =>
 (gif r9.1 false (bo P .gtr 5 (.tmp 18) (.const (.int .u8 57)) r12.1 (.int .u8 57) r12.2) r12.2).bind fun r13 =>
 (pickV r9.1 (.bool true) r13.1 r13.2).bind fun r14 =>
 (vl r14.1 r14.2).bind fun r15 =>
 (gif r15.1 false (vl (e 4) r15.2) r15.2).bind fun r16 =>
 (gif r15.1 false (bo P .geq 3 (.tmp 22) (.const (.int .i64 6)) r16.1 (.int .i64 6) r16.2) r16.2).bind fun r17 =>
 (pickV r15.1 (.bool true) r17.1 r17.2).bind fun r18 =>
 cnd r18.1 (
 (vl (.int .i64 (-1)) r18.2).bind fun r19 =>
 some (r19.1, r19.2)) (
 (vl (e 3) r18.2).bind fun r20 =>
 (bo P .mul 3 (.tmp 25) (.const (.int .i64 10)) r20.1 (.int .i64 10) r20.2).bind fun r21 =>
 (vl (e 0) r21.2).bind fun r22 =>
 (vl (e 4) r22.2).bind fun r23 =>
 (ix P 9 r22.1 r23.1 r23.2).bind fun r24 =>
 (bo P .sub 5 (.tmp 29) (.const (.int .u8 48)) r24.1 (.int .u8 48) r24.2).bind fun r25 =>
 (cv P 5 3 r25.1 r25.2).bind fun r26 =>
 (bo P .add 3 (.tmp 26) (.tmp 31) r21.1 r26.1 r26.2).bind fun r27 =>
 (vl r27.1 r27.2).bind fun r28 =>
 (vl (e 4) r28.2).bind fun r29 =>
 (bo P .add 3 (.tmp 9) (.const (.int .i64 1)) r29.1 (.int .i64 1) r29.2).bind fun r30 =>
 (vl r30.1 r30.2).bind fun r31 =>
 spec_l1Num_l1 (ups e [(5, r1.1), (6, r2.1), (7, r3.1), (8, r4.1), (11, r5.1), (12, r6.1), (13, r7.1), (14, r8.1), (15, r9.1), (16, r10.1), (17, r11.1), (18, r12.1), (19, r13.1), (20, r14.1), (21, r15.1), (22, r16.1), (23, r17.1), (24, r18.1), (25, r20.1), (26, r21.1), (27, r22.1), (28, r23.1), (29, r24.1), (30, r25.1), (31, r26.1), (32, r27.1), (3, r28.1), (9, r29.1), (10, r30.1), (4, r31.1)]) r31.2)) (
 (vl (e 0) r4.2).bind fun r32 =>
 (b_len P #[9] 3 #[r32.1] r32.2).bind fun r33 =>
 (bo P .eql 3 (.tmp 34) (.const (.int .i64 0)) r33.1 (.int .i64 0) r33.2).bind fun r34 =>
 (vl r34.1 r34.2).bind fun r35 =>
 (gif r35.1 false (vl (e 0) r35.2) r35.2).bind fun r36 =>
 (gif r35.1 false (b_len P #[9] 3 #[r36.1] r36.2) r36.2).bind fun r37 =>
 (gif r35.1 false (bo P .gtr 3 (.tmp 38) (.const (.int .i64 1)) r37.1 (.int .i64 1) r37.2) r37.2).bind fun r38 =>
 (gif r35.1 false (vl r38.1 r38.2) r38.2).bind fun r39 =>
 (gif r39.1 true (vl (e 0) r39.2) r39.2).bind fun r40 =>
 (gif r39.1 true (ix P 9 r40.1 (.int .i64 0) r40.2) r40.2).bind fun r41 =>
 (gif r39.1 true (bo P .eql 5 (.tmp 42) (.const (.int .u8 48)) r41.1 (.int .u8 48) r41.2) r41.2).bind fun r42 =>
 (gif r35.1 false (pickV r39.1 r42.1 (.bool false) r42.2) r42.2).bind fun r43 =>
 (pickV r35.1 (.bool true) r43.1 r43.2).bind fun r44 =>
 cnd r44.1 (
 (vl (.int .i64 (-1)) r44.2).bind fun r45 =>
 some (r45.1, r45.2)) (
 (vl (e 3) r44.2).bind fun r46 =>
 (vl r46.1 r46.2).bind fun r47 =>
 some (r47.1, r47.2))) := (exC_loop P (EV P) 26 47 (cA (cA (cB (cA (cB (cB (bodyOf P 26))))))) e w (kBlock 0 (kSeq P (EV P) 26 47 (cB (cB (cB (bodyOf P 26)))) (kFn P (fnOf P 26))))).trans (by kernel_rfl)
theorem spec_l1Num_fn (x0 : Value) (w : World) : fnC P (EV P) 26 #[x0] w =
 (vl (.int .i64 0) w).bind fun r1 =>
 (vl (.int .i64 0) r1.2).bind fun r2 =>
 (vl (.int .i64 0) r2.2).bind fun r3 =>
 spec_l1Num_l1 (ups (env0 #[x0]) [(2, r1.1), (3, r2.1), (4, r3.1)]) r3.2 := by kernel_rfl
theorem spec_l6Words_fn (w : World) : fnC P (EV P) 27 #[] w =
 (vl (Go.Value.slice none 0 0) w).bind fun r1 =>
 (bs P 52 4 #[(0, (Go.Value.string { data := #[] })), (1, (Go.Value.string { data := #[119, 114, 105, 116, 101] })), (2, (Go.Value.string { data := #[114, 101, 97, 100] })), (3, (Go.Value.string { data := #[115, 117, 114, 101] }))] r1.2).bind fun r2 =>
 (vl r2.1 r2.2).bind fun r3 =>
 some (r3.1, r3.2) := by kernel_rfl
theorem spec_l5OpOk_fn (x0 : Value) (w : World) : fnC P (EV P) 28 #[x0] w =
 (bx P 38 x0 w).bind fun r1 =>
 (vl (.bool false) r1.2).bind fun r2 =>
 (fa P 38 r1.1 0 r2.2).bind fun r3 =>
 (ld P 3 r3.1 r3.2).bind fun r4 =>
 (EV P 44 #[r4.1, (.int .i64 0), (.int .i64 3)] r4.2).bind fun r5 =>
 (vl r5.1 r5.2).bind fun r6 =>
 (gif r6.1 true (fa P 38 r1.1 1 r6.2) r6.2).bind fun r7 =>
 (gif r6.1 true (ld P 3 r7.1 r7.2) r7.2).bind fun r8 =>
 (gif r6.1 true (EV P 44 #[r8.1, (.int .i64 1), (.int .i64 3)] r8.2) r8.2).bind fun r9 =>
 (pickV r6.1 r9.1 (.bool false) r9.2).bind fun r10 =>
 (vl r10.1 r10.2).bind fun r11 =>
 (gif r11.1 true (fa P 38 r1.1 2 r11.2) r11.2).bind fun r12 =>
 (gif r11.1 true (ld P 3 r12.1 r12.2) r12.2).bind fun r13 =>
 (gif r11.1 true (EV P 44 #[r13.1, (.int .i64 0), (.int .i64 3)] r13.2) r13.2).bind fun r14 =>
 (pickV r11.1 r14.1 (.bool false) r14.2).bind fun r15 =>
 (vl r15.1 r15.2).bind fun r16 =>
 (gif r16.1 true (fa P 38 r1.1 3 r16.2) r16.2).bind fun r17 =>
 (gif r16.1 true (ld P 36 r17.1 r17.2) r17.2).bind fun r18 =>
 (gif r16.1 true (EV P 43 #[r18.1] r18.2) r18.2).bind fun r19 =>
 (pickV r16.1 r19.1 (.bool false) r19.2).bind fun r20 =>
 (vl r20.1 r20.2).bind fun r21 =>
 (gif r21.1 true (fa P 38 r1.1 1 r21.2) r21.2).bind fun r22 =>
 (gif r21.1 true (ld P 3 r22.1 r22.2) r22.2).bind fun r23 =>
 (gif r21.1 true (bo P .eql 3 (.tmp 23) (.const (.int .i64 2)) r23.1 (.int .i64 2) r23.2) r23.2).bind fun r24 =>
 (gif r21.1 true (vl r24.1 r24.2) r24.2).bind fun r25 =>
 (gif r25.1 false (fa P 38 r1.1 3 r25.2) r25.2).bind fun r26 =>
 (gif r25.1 false (fa P 36 r26.1 0 r26.2) r26.2).bind fun r27 =>
 (gif r25.1 false (ld P 3 r27.1 r27.2) r27.2).bind fun r28 =>
 (gif r25.1 false (bo P .gtr 3 (.tmp 28) (.const (.int .i64 0)) r28.1 (.int .i64 0) r28.2) r28.2).bind fun r29 =>
 (gif r21.1 true (pickV r25.1 (.bool true) r29.1 r29.2) r29.2).bind fun r30 =>
 (pickV r21.1 r30.1 (.bool false) r30.2).bind fun r31 =>
 (vl r31.1 r31.2).bind fun r32 =>
 some (r32.1, r32.2) := by kernel_rfl
theorem strings_Cut_fn (x0 x1 : Value) (w : World) : fnC P (EV P) 29 #[x0, x1] w =
 (vl (Go.Value.string { data := #[] }) w).bind fun r1 =>
 (vl (Go.Value.string { data := #[] }) r1.2).bind fun r2 =>
 (vl (.bool false) r2.2).bind fun r3 =>
 (vl x0 r3.2).bind fun r4 =>
 (vl x1 r4.2).bind fun r5 =>
 (EV P 45 #[r4.1, r5.1] r5.2).bind fun r6 =>
 (xt P r6.1 0 r6.2).bind fun r7 =>
 (xt P r6.1 1 r7.2).bind fun r8 =>
 (xt P r6.1 2 r8.2).bind fun r9 =>
 (vl r7.1 r9.2).bind fun r10 =>
 (vl r8.1 r10.2).bind fun r11 =>
 (vl r9.1 r11.2).bind fun r12 =>
 some (.tuple #[r10.1, r11.1, r12.1], r12.2) := by kernel_rfl
theorem impl_readDone_fn (x0 : Value) (w : World) : fnC P (EV P) 30 #[x0] w =
 (al P 38 w).bind fun r1 =>
 (vl (.bool false) r1.2).bind fun r2 =>
 (vl x0 r2.2).bind fun r3 =>
 (EV P 46 #[r3.1, (Go.Value.string { data := #[32] })] r3.2).bind fun r4 =>
 (vl r4.1 r4.2).bind fun r5 =>
 (vl r5.1 r5.2).bind fun r6 =>
 (b_len P #[52] 3 #[r6.1] r6.2).bind fun r7 =>
 (bo P .neq 3 (.tmp 14) (.const (.int .i64 4)) r7.1 (.int .i64 4) r7.2).bind fun r8 =>
 cnd r8.1 (
 (bd P 38 #[] r8.2).bind fun r9 =>
 (st P 38 r1.1 r9.1 r9.2).bind fun r10 =>
 (vl (.bool false) r10.2).bind fun r11 =>
 ((ld P 38 r1.1 r11.2).bind fun r12 => ifP (r12.2 = r11.2) (some r12.1)).bind fun v13 =>
 some (.tuple #[v13, r11.1], r11.2)) (
 (vl r5.1 r8.2).bind fun r14 =>
 (ia P 52 r14.1 (.int .i64 0) r14.2).bind fun r15 =>
 (ld P 9 r15.1 r15.2).bind fun r16 =>
 (EV P 47 #[r16.1] r16.2).bind fun r17 =>
 (vl r17.1 r17.2).bind fun r18 =>
 (xt P r18.1 0 r18.2).bind fun r19 =>
 (xt P r18.1 1 r19.2).bind fun r20 =>
 (vl r19.1 r20.2).bind fun r21 =>
 (vl r20.1 r21.2).bind fun r22 =>
 (vl r5.1 r22.2).bind fun r23 =>
 (ia P 52 r23.1 (.int .i64 2) r23.2).bind fun r24 =>
 (ld P 9 r24.1 r24.2).bind fun r25 =>
 (EV P 47 #[r25.1] r25.2).bind fun r26 =>
 (vl r26.1 r26.2).bind fun r27 =>
 (xt P r27.1 0 r27.2).bind fun r28 =>
 (xt P r27.1 1 r28.2).bind fun r29 =>
 (vl r28.1 r29.2).bind fun r30 =>
 (vl r29.1 r30.2).bind fun r31 =>
 (vl r5.1 r31.2).bind fun r32 =>
 (ia P 52 r32.1 (.int .i64 3) r32.2).bind fun r33 =>
 (ld P 9 r33.1 r33.2).bind fun r34 =>
 (EV P 48 #[r34.1] r34.2).bind fun r35 =>
 (vl r35.1 r35.2).bind fun r36 =>
 (xt P r36.1 0 r36.2).bind fun r37 =>
 (xt P r36.1 1 r37.2).bind fun r38 =>
 (al P 36 r38.2).bind fun r39 =>
 (st P 36 r39.1 r37.1 r39.2).bind fun r40 =>
 (vl r38.1 r40.2).bind fun r41 =>
 (vl r21.1 (dw r41.2)).bind fun r43 =>
 ifP (r43.2 = (dw r41.2)) <|
 (vl r5.1 (dw r41.2)).bind fun r44 =>
 ifP (r44.2 = (dw r41.2)) <|
 (ia P 52 r44.1 (.int .i64 1) (dw r41.2)).bind fun r45 =>
 ifP (r45.2 = (dw r41.2)) <|
 (ld P 9 r45.1 (dw r41.2)).bind fun r46 =>
 ifP (r46.2 = (dw r41.2)) <|
 (vl r30.1 (dw r41.2)).bind fun r47 =>
 ifP (r47.2 = (dw r41.2)) <|
 (ld P 36 r39.1 (dw r41.2)).bind fun r48 =>
 ifP (r48.2 = (dw r41.2)) <|
 (vl r22.1 (dw r41.2)).bind fun r49 =>
 ifP (r49.2 = (dw r41.2)) <|
 (bo P .eql 48 (.tmp 47) (.const Go.Value.nilIface) r49.1 Go.Value.nilIface (dw r41.2)).bind fun r50 =>
 ifP (r50.2 = (dw r41.2)) <|
 (EV P 20 #[] (dw r41.2)).bind fun r51 =>
 ifP (bo P .eql 48 (.tmp 47) (.const Go.Value.nilIface) r49.1 Go.Value.nilIface r51.2 = some (r50.1, r51.2) ∧ ld P 36 r39.1 r51.2 = some (r48.1, r51.2) ∧ ld P 9 r45.1 r51.2 = some (r46.1, r51.2) ∧ ia P 52 r44.1 (.int .i64 1) r51.2 = some (r45.1, r51.2) ∧ True) <|
 (EV P 49 #[r51.1, r46.1] r51.2).bind fun r52 =>
 ifP (bo P .eql 48 (.tmp 47) (.const Go.Value.nilIface) r49.1 Go.Value.nilIface r52.2 = some (r50.1, r52.2) ∧ ld P 36 r39.1 r52.2 = some (r48.1, r52.2) ∧ True ∧ True ∧ True) <|
 (bd P 38 #[(0, r43.1), (1, r52.1), (2, r47.1), (3, r48.1)] r52.2).bind fun r53 =>
 ifP (r53.2 = r52.2) <|
 (vl r50.1 r52.2).bind fun r54 =>
 ifP (r54.2 = r52.2) <|
 (gif r54.1 true (vl r31.1 r52.2) r52.2).bind fun r55 =>
 ifP (r55.2 = r52.2) <|
 (gif r54.1 true (bo P .eql 48 (.tmp 50) (.const Go.Value.nilIface) r55.1 Go.Value.nilIface r52.2) r52.2).bind fun r56 =>
 ifP (r56.2 = r52.2) <|
 (pickV r54.1 r56.1 (.bool false) r52.2).bind fun r57 =>
 ifP (r57.2 = r52.2) <|
 (vl r57.1 r52.2).bind fun r58 =>
 ifP (r58.2 = r52.2) <|
 (gif r58.1 true (vl r41.1 r52.2) r52.2).bind fun r59 =>
 ifP (r59.2 = r52.2) <|
 (pickV r58.1 r59.1 (.bool false) r52.2).bind fun r60 =>
 ifP (r60.2 = r52.2) <|
 (st P 38 r1.1 r53.1 r52.2).bind fun r61 =>
 ifP (True ∧ True ∧ True ∧ True ∧ True ∧ True ∧ True) <|
 (vl r60.1 r61.2).bind fun r62 =>
 ifP (r62.2 = r61.2) <|
 ((ld P 38 r1.1 r61.2).bind fun r63 => ifP (r63.2 = r61.2) (some r63.1)).bind fun v64 =>
 some (.tuple #[v64, r62.1], r61.2)) := by kernel_rfl
theorem slices_Clip_Done_fn (x0 : Value) (w : World) : fnC P (EV P) 31 #[x0] w =
 (vl (Go.Value.slice none 0 0) w).bind fun r1 =>
 (vl x0 r1.2).bind fun r2 =>
 (vl x0 r2.2).bind fun r3 =>
 (b_len P #[25] 3 #[r3.1] r3.2).bind fun r4 =>
 (vl x0 r4.2).bind fun r5 =>
 (b_len P #[25] 3 #[r5.1] r5.2).bind fun r6 =>
 (sl P 25 r2.1 none (some r4.1) (some r6.1) r6.2).bind fun r7 =>
 (vl r7.1 r7.2).bind fun r8 =>
 some (r8.1, r8.2) := by kernel_rfl
noncomputable def spec_l1Dec_a1 (e : Env) (w : World) : Option (Value × World) := exC P (EV P) 32 28 (cA (cB (cB (cB (cB (bodyOf P 32)))))) e w (kSeq P (EV P) 32 28 (cB (cB (cB (cB (cB (bodyOf P 32)))))) (kFn P (fnOf P 32)))
noncomputable def spec_l1Dec_j1 (e : Env) (w : World) : Option (Value × World) := exC P (EV P) 32 28 (cB (cB (cB (cB (cB (bodyOf P 32)))))) e w (kFn P (fnOf P 32))
theorem spec_l1Dec_a1_any (e : Env) (w : World) {Q : Value × World → Prop} (h :
 (Ret (vl (e 0) (dw w)) fun r1 => r1.2 = (dw w) ∧
 (Ret (bo P .quo 3 (.tmp 18) (.const (.int .i64 10)) r1.1 (.int .i64 10) (dw w)) fun r2 => r2.2 = (dw w) ∧
 (Ret (vl (e 0) (dw w)) fun r3 => r3.2 = (dw w) ∧
 (Ret (bo P .rem 3 (.tmp 21) (.const (.int .i64 10)) r3.1 (.int .i64 10) (dw w)) fun r4 => r4.2 = (dw w) ∧
 (Ret (bo P .add 3 (.const (.int .i64 48)) (.tmp 22) (.int .i64 48) r4.1 (dw w)) fun r5 => r5.2 = (dw w) ∧
 (Ret (cv P 3 5 r5.1 (dw w)) fun r6 => r6.2 = (dw w) ∧
 ((Ret (EV P 32 #[r2.1] (dw w)) fun r7 => (cv P 3 5 r5.1 r7.2 = some (r6.1, r7.2) ∧ bo P .add 3 (.const (.int .i64 48)) (.tmp 22) (.int .i64 48) r4.1 r7.2 = some (r5.1, r7.2) ∧ bo P .rem 3 (.tmp 21) (.const (.int .i64 10)) r3.1 (.int .i64 10) r7.2 = some (r4.1, r7.2) ∧ True ∧ True) ∧
 ((Ret (bs P 44 1 #[(0, r6.1)] r7.2) fun r8 => (True ∧ True ∧ True ∧ bo P .quo 3 (.tmp 18) (.const (.int .i64 10)) r1.1 (.int .i64 10) r8.2 = some (r2.1, r8.2) ∧ True) ∧
 (Ret (cv P 44 9 r8.1 r8.2) fun r9 => r9.2 = r8.2 ∧
 (Ret (bo P .add 9 (.tmp 20) (.tmp 26) r7.1 r9.1 r8.2) fun r10 => r10.2 = r8.2 ∧
 (Ret (vl r10.1 r8.2) fun r11 => r11.2 = r8.2 ∧
 Ret (spec_l1Dec_j1 (ups e [(18, r1.1), (19, r2.1), (21, r3.1), (22, r4.1), (23, r5.1), (24, r6.1), (20, r7.1), (25, r8.1), (26, r9.1), (27, r10.1), (2, r11.1)]) r8.2) Q)))))) ∧
 (Ret (bs P 44 1 #[(0, r6.1)] (dw w)) fun r12 => (True ∧ True ∧ True ∧ bo P .quo 3 (.tmp 18) (.const (.int .i64 10)) r1.1 (.int .i64 10) r12.2 = some (r2.1, r12.2) ∧ True) ∧
 (Ret (cv P 44 9 r12.1 r12.2) fun r13 => r13.2 = r12.2 ∧
 ((Ret (EV P 32 #[r2.1] r12.2) fun r14 => (cv P 44 9 r12.1 r14.2 = some (r13.1, r14.2) ∧ cv P 3 5 r5.1 r14.2 = some (r6.1, r14.2) ∧ bo P .add 3 (.const (.int .i64 48)) (.tmp 22) (.int .i64 48) r4.1 r14.2 = some (r5.1, r14.2) ∧ bo P .rem 3 (.tmp 21) (.const (.int .i64 10)) r3.1 (.int .i64 10) r14.2 = some (r4.1, r14.2) ∧ True ∧ True) ∧
 (Ret (bo P .add 9 (.tmp 20) (.tmp 26) r14.1 r13.1 r14.2) fun r15 => r15.2 = r14.2 ∧
 (Ret (vl r15.1 r14.2) fun r16 => r16.2 = r14.2 ∧
 Ret (spec_l1Dec_j1 (ups e [(18, r1.1), (19, r2.1), (21, r3.1), (22, r4.1), (23, r5.1), (24, r6.1), (25, r12.1), (26, r13.1), (20, r14.1), (27, r15.1), (2, r16.1)]) r14.2) Q)))))))))))))) : Ret (spec_l1Dec_a1 e w) Q := exC_any (id := 7) (ops := opsOf (cA (cB (cB (cB (cB (bodyOf P 32))))))) (by kernel_rfl) (by kernel_rfl) (Eq.mpr (by kernel_rfl) h)
theorem spec_l1Dec_j1_eq (e : Env) (w : World) : spec_l1Dec_j1 e w =
 some ((e 2), w) := by kernel_rfl
theorem spec_l1Dec_fn (x0 : Value) (w : World) : fnC P (EV P) 32 #[x0] w =
 (vl (Go.Value.string { data := #[] }) w).bind fun r1 =>
 (vl x0 r1.2).bind fun r2 =>
 (bo P .lss 3 (.tmp 3) (.const (.int .i64 (-9223372036854775807))) r2.1 (.int .i64 (-9223372036854775807)) r2.2).bind fun r3 =>
 cnd r3.1 (
 (vl (Go.Value.string { data := #[45, 57, 50, 50, 51, 51, 55, 50, 48, 51, 54, 56, 53, 52, 55, 55, 53, 56, 48, 56] }) r3.2).bind fun r4 =>
 some (r4.1, r4.2)) (
 (vl x0 r3.2).bind fun r5 =>
 (bo P .lss 3 (.tmp 5) (.const (.int .i64 0)) r5.1 (.int .i64 0) r5.2).bind fun r6 =>
 cnd r6.1 (
 (vl x0 r6.2).bind fun r7 =>
 (uo P .neg r7.1 r7.2).bind fun r8 =>
 (EV P 32 #[r8.1] r8.2).bind fun r9 =>
 (bo P .add 9 (.const (Go.Value.string { data := #[45] })) (.tmp 9) (Go.Value.string { data := #[45] }) r9.1 r9.2).bind fun r10 =>
 (vl r10.1 r10.2).bind fun r11 =>
 some (r11.1, r11.2)) (
 (vl x0 r6.2).bind fun r12 =>
 (bo P .lss 3 (.tmp 11) (.const (.int .i64 10)) r12.1 (.int .i64 10) r12.2).bind fun r13 =>
 cnd r13.1 (
 (vl x0 r13.2).bind fun r14 =>
 (bo P .add 3 (.const (.int .i64 48)) (.tmp 13) (.int .i64 48) r14.1 r14.2).bind fun r15 =>
 (cv P 3 5 r15.1 r15.2).bind fun r16 =>
 (bs P 44 1 #[(0, r16.1)] r16.2).bind fun r17 =>
 (cv P 44 9 r17.1 r17.2).bind fun r18 =>
 (vl r18.1 r18.2).bind fun r19 =>
 some (r19.1, r19.2)) (
 spec_l1Dec_a1 (ups (env0 #[x0]) [(2, r1.1), (3, r2.1), (4, r3.1), (5, r5.1), (6, r6.1), (11, r12.1), (12, r13.1)]) r13.2))) := by kernel_rfl
theorem spec_l1Put_fn (x0 : Value) (w : World) : fnC P (EV P) 33 #[x0] w =
 (bx P 36 x0 w).bind fun r1 =>
 (vl (Go.Value.string { data := #[] }) r1.2).bind fun r2 =>
 (fa P 36 r1.1 0 (dw r2.2)).bind fun r4 =>
 ifP (r4.2 = (dw r2.2)) <|
 (ld P 3 r4.1 (dw r2.2)).bind fun r5 =>
 ifP (r5.2 = (dw r2.2)) <|
 (fa P 36 r1.1 1 (dw r2.2)).bind fun r6 =>
 ifP (r6.2 = (dw r2.2)) <|
 (ld P 3 r6.1 (dw r2.2)).bind fun r7 =>
 ifP (r7.2 = (dw r2.2)) <|
 (EV P 32 #[r5.1] (dw r2.2)).bind fun r8 =>
 ifP (ld P 3 r6.1 r8.2 = some (r7.1, r8.2) ∧ fa P 36 r1.1 1 r8.2 = some (r6.1, r8.2) ∧ True ∧ True ∧ True) <|
 (bo P .add 9 (.tmp 5) (.const (Go.Value.string { data := #[46] })) r8.1 (Go.Value.string { data := #[46] }) r8.2).bind fun r9 =>
 ifP (r9.2 = r8.2) <|
 (EV P 32 #[r7.1] r8.2).bind fun r10 =>
 ifP (bo P .add 9 (.tmp 5) (.const (Go.Value.string { data := #[46] })) r8.1 (Go.Value.string { data := #[46] }) r10.2 = some (r9.1, r10.2) ∧ True ∧ True ∧ True ∧ True ∧ True) <|
 (bo P .add 9 (.tmp 6) (.tmp 9) r9.1 r10.1 r10.2).bind fun r11 =>
 ifP (r11.2 = r10.2) <|
 (vl r11.1 r10.2).bind fun r12 =>
 ifP (r12.2 = r10.2) <|
 some (r12.1, r10.2) := by kernel_rfl
theorem slices_ContainsFunc_Done_fn (x0 x1 : Value) (w : World) : fnC P (EV P) 35 #[x0, x1] w =
 (vl (.bool false) w).bind fun r1 =>
 (vl x0 r1.2).bind fun r2 =>
 (vl x1 r2.2).bind fun r3 =>
 (EV P 50 #[r2.1, r3.1] r3.2).bind fun r4 =>
 (bo P .geq 3 (.tmp 7) (.const (.int .i64 0)) r4.1 (.int .i64 0) r4.2).bind fun r5 =>
 (vl r5.1 r5.2).bind fun r6 =>
 some (r6.1, r6.2) := by kernel_rfl
theorem impl_formed_1_fn (x0 : Value) (w : World) : fnC P (EV P) 36 #[x0] w =
 (bx P 38 x0 w).bind fun r1 =>
 (vl (.bool false) r1.2).bind fun r2 =>
 (fa P 38 r1.1 0 r2.2).bind fun r3 =>
 (ld P 3 r3.1 r3.2).bind fun r4 =>
 (EV P 37 #[r4.1, (.int .i64 0), (.int .i64 3)] r4.2).bind fun r5 =>
 (uo P .not r5.1 r5.2).bind fun r6 =>
 (vl r6.1 r6.2).bind fun r7 =>
 (gif r7.1 false (fa P 38 r1.1 1 r7.2) r7.2).bind fun r8 =>
 (gif r7.1 false (ld P 3 r8.1 r8.2) r8.2).bind fun r9 =>
 (gif r7.1 false (EV P 37 #[r9.1, (.int .i64 1), (.int .i64 3)] r9.2) r9.2).bind fun r10 =>
 (gif r7.1 false (uo P .not r10.1 r10.2) r10.2).bind fun r11 =>
 (pickV r7.1 (.bool true) r11.1 r11.2).bind fun r12 =>
 (vl r12.1 r12.2).bind fun r13 =>
 (gif r13.1 false (fa P 38 r1.1 2 r13.2) r13.2).bind fun r14 =>
 (gif r13.1 false (ld P 3 r14.1 r14.2) r14.2).bind fun r15 =>
 (gif r13.1 false (EV P 38 #[r15.1] r15.2) r15.2).bind fun r16 =>
 (gif r13.1 false (uo P .not r16.1 r16.2) r16.2).bind fun r17 =>
 (pickV r13.1 (.bool true) r17.1 r17.2).bind fun r18 =>
 (vl r18.1 r18.2).bind fun r19 =>
 (gif r19.1 false (fa P 38 r1.1 3 r19.2) r19.2).bind fun r20 =>
 (gif r19.1 false (ld P 36 r20.1 r20.2) r20.2).bind fun r21 =>
 (gif r19.1 false (EV P 39 #[r21.1] r21.2) r21.2).bind fun r22 =>
 (gif r19.1 false (uo P .not r22.1 r22.2) r22.2).bind fun r23 =>
 (pickV r19.1 (.bool true) r23.1 r23.2).bind fun r24 =>
 (vl r24.1 r24.2).bind fun r25 =>
 (gif r25.1 false (fa P 38 r1.1 3 r25.2) r25.2).bind fun r26 =>
 (gif r25.1 false (ld P 36 r26.1 r26.2) r26.2).bind fun r27 =>
 (gif r25.1 false (bd P 36 #[] r27.2) r27.2).bind fun r28 =>
 (gif r25.1 false (bo P .eql 36 (.tmp 27) (.tmp 28) r27.1 r28.1 r28.2) r28.2).bind fun r29 =>
 (gif r25.1 false (vl r29.1 r29.2) r29.2).bind fun r30 =>
 (gif r30.1 true (fa P 38 r1.1 1 r30.2) r30.2).bind fun r31 =>
 (gif r30.1 true (ld P 3 r31.1 r31.2) r31.2).bind fun r32 =>
 (gif r30.1 true (bo P .neq 3 (.tmp 32) (.const (.int .i64 2)) r32.1 (.int .i64 2) r32.2) r32.2).bind fun r33 =>
 (gif r25.1 false (pickV r30.1 r33.1 (.bool false) r33.2) r33.2).bind fun r34 =>
 (pickV r25.1 (.bool true) r34.1 r34.2).bind fun r35 =>
 (vl r35.1 r35.2).bind fun r36 =>
 some (r36.1, r36.2) := by kernel_rfl
theorem impl_within_fn (x0 x1 x2 : Value) (w : World) : fnC P (EV P) 37 #[x0, x1, x2] w =
 (vl (.bool false) w).bind fun r1 =>
 (vl x0 r1.2).bind fun r2 =>
 (vl x1 r2.2).bind fun r3 =>
 (bo P .geq 3 (.tmp 7) (.tmp 8) r2.1 r3.1 r3.2).bind fun r4 =>
 (vl r4.1 r4.2).bind fun r5 =>
 (gif r5.1 true (vl x0 r5.2) r5.2).bind fun r6 =>
 (gif r5.1 true (vl x2 r6.2) r6.2).bind fun r7 =>
 (gif r5.1 true (bo P .leq 3 (.tmp 11) (.tmp 12) r6.1 r7.1 r7.2) r7.2).bind fun r8 =>
 (pickV r5.1 r8.1 (.bool false) r8.2).bind fun r9 =>
 (vl r9.1 r9.2).bind fun r10 =>
 some (r10.1, r10.2) := by kernel_rfl
end Go.Proofs.YtkhbpmhagpljiaaDoor.X
