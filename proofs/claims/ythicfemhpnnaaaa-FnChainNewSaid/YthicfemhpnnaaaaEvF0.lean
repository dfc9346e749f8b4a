/- A part of the proof: an evaluator of the model, its laws, and contracts of functions; no condition. -/
import Derived.Test.YthicfemhpnnaaaaEvT
set_option linter.unusedVariables false
set_option maxRecDepth 100000
namespace Go.Proofs.Ythicfemhpnnaaaa.X
open Go Go.Ev
theorem laws_FnChainNew_fn (x0 : Value) (w : World) : fnC P (EV P) 4 #[x0] w =
 (vl (.bool false) w).bind fun r1 =>
 (vl x0 r1.2).bind fun r2 =>
 (b_len P #[29] 3 #[r2.1] r2.2).bind fun r3 =>
 (bo P .gtr 3 (.tmp 6) (.const (.int .i64 1048576)) r3.1 (.int .i64 1048576) r3.2).bind fun r4 =>
 cnd r4.1 (
 (vl (.bool true) r4.2).bind fun r5 =>
 some (r5.1, r5.2)) (
 (vl x0 r4.2).bind fun r6 =>
 (EV P 16 #[r6.1] r6.2).bind fun r7 =>
 (vl r7.1 r7.2).bind fun r8 =>
 (vl r8.1 r8.2).bind fun r9 =>
 (EV P 12 #[r9.1] r9.2).bind fun r10 =>
 (al P 24 r10.2).bind fun r11 =>
 (st P 24 r11.1 r10.1 r11.2).bind fun r12 =>
 (ld P 24 r11.1 (dw r12.2)).bind fun r14 =>
 ifP (r14.2 = (dw r12.2)) <|
 (vl r8.1 (dw r12.2)).bind fun r15 =>
 ifP (r15.2 = (dw r12.2)) <|
 (EV P 11 #[r15.1] (dw r12.2)).bind fun r16 =>
 ifP (ld P 24 r11.1 r16.2 = some (r14.1, r16.2) ∧ True) <|
 (EV P 17 #[r14.1, r16.1] r16.2).bind fun r17 =>
 ifP (True ∧ True) <|
 (uo P .not r17.1 r17.2).bind fun r18 =>
 ifP (r18.2 = r17.2) <|
 (vl r18.1 r17.2).bind fun r19 =>
 ifP (r19.2 = r17.2) <|
 (gif r19.1 false (fa P 24 r11.1 0 r17.2) r17.2).bind fun r20 =>
 ifP (r20.2 = r17.2) <|
 (gif r19.1 false (ld P 22 r20.1 r17.2) r17.2).bind fun r21 =>
 ifP (r21.2 = r17.2) <|
 (gif r19.1 false (b_len P #[22] 3 #[r21.1] r17.2) r17.2).bind fun r22 =>
 ifP (r22.2 = r17.2) <|
 (gif r19.1 false (bo P .eql 3 (.tmp 20) (.const (.int .i64 0)) r22.1 (.int .i64 0) r17.2) r17.2).bind fun r23 =>
 ifP (r23.2 = r17.2) <|
 (pickV r19.1 (.bool true) r23.1 r17.2).bind fun r24 =>
 ifP (r24.2 = r17.2) <|
 cnd r24.1 (
 (ld P 24 r11.1 (dw r17.2)).bind fun r26 =>
 ifP (r26.2 = (dw r17.2)) <|
 (vl r8.1 (dw r17.2)).bind fun r27 =>
 ifP (r27.2 = (dw r17.2)) <|
 (EV P 11 #[r27.1] (dw r17.2)).bind fun r28 =>
 ifP (ld P 24 r11.1 r28.2 = some (r26.1, r28.2) ∧ True) <|
 (EV P 17 #[r26.1, r28.1] r28.2).bind fun r29 =>
 ifP (True ∧ True) <|
 (vl r29.1 r29.2).bind fun r30 =>
 ifP (r30.2 = r29.2) <|
 (gif r30.1 true (vl r8.1 r29.2) r29.2).bind fun r31 =>
 ifP (r31.2 = r29.2) <|
 (gif r30.1 true (bo P .lss 3 (.tmp 28) (.const (.int .i64 1)) r31.1 (.int .i64 1) r29.2) r29.2).bind fun r32 =>
 ifP (r32.2 = r29.2) <|
 (gif r30.1 true (vl r32.1 r29.2) r29.2).bind fun r33 =>
 ifP (r33.2 = r29.2) <|
 (gif r33.1 false (vl r8.1 r29.2) r29.2).bind fun r34 =>
 ifP (r34.2 = r29.2) <|
 (gif r33.1 false (bo P .gtr 3 (.tmp 31) (.const (.int .i64 4)) r34.1 (.int .i64 4) r29.2) r29.2).bind fun r35 =>
 ifP (r35.2 = r29.2) <|
 (gif r30.1 true (pickV r33.1 (.bool true) r35.1 r29.2) r29.2).bind fun r36 =>
 ifP (r36.2 = r29.2) <|
 (pickV r30.1 r36.1 (.bool false) r29.2).bind fun r37 =>
 ifP (r37.2 = r29.2) <|
 (vl r37.1 r29.2).bind fun r38 =>
 ifP (r38.2 = r29.2) <|
 some (r38.1, r29.2)) (
 (ld P 24 r11.1 r17.2).bind fun r39 =>
 (EV P 18 #[r39.1] r39.2).bind fun r40 =>
 (vl r40.1 r40.2).bind fun r41 =>
 (gif r41.1 true (fa P 24 r11.1 0 r41.2) r41.2).bind fun r42 =>
 (gif r41.1 true (ld P 22 r42.1 r42.2) r42.2).bind fun r43 =>
 (gif r41.1 true (b_len P #[22] 3 #[r43.1] r43.2) r43.2).bind fun r44 =>
 (gif r41.1 true (vl r8.1 r44.2) r44.2).bind fun r45 =>
 (gif r41.1 true (bo P .eql 3 (.tmp 40) (.tmp 41) r44.1 r45.1 r45.2) r45.2).bind fun r46 =>
 (pickV r41.1 r46.1 (.bool false) r46.2).bind fun r47 =>
 (vl r47.1 r47.2).bind fun r48 =>
 (gif r48.1 true (ld P 24 r11.1 r48.2) r48.2).bind fun r49 =>
 (gif r48.1 true (EV P 20 #[r49.1] r49.2) r49.2).bind fun r50 =>
 (gif r48.1 true (EV P 21 #[] r50.2) r50.2).bind fun r51 =>
 (gif r48.1 true (EV P 19 #[r50.1, r51.1] r51.2) r51.2).bind fun r52 =>
 (pickV r48.1 r52.1 (.bool false) r52.2).bind fun r53 =>
 (vl r53.1 r53.2).bind fun r54 =>
 some (r54.1, r54.2))) := by kernel_rfl
noncomputable def spec_ChainNew_l1 (e : Env) (w : World) : Option (Value × World) := exC P (EV P) 11 23 (.loop (cA (cA (cB (cA (cB (cB (cB (bodyOf P 11))))))))) e w (kBlock 0 (kSeq P (EV P) 11 23 (cB (cB (cB (cB (bodyOf P 11))))) (kFn P (fnOf P 11))))
theorem spec_ChainNew_l1_eq (e : Env) (w : World) : spec_ChainNew_l1 e w =
 (vl (e 4) w).bind fun r1 =>
 (vl (e 0) r1.2).bind fun r2 =>
 (bo P .lss 3 (.tmp 10) (.tmp 11) r1.1 r2.1 r2.2).bind fun r3 =>
 cnd r3.1 (
 (fa P 24 (e 3) 0 (dw r3.2)).bind fun r5 =>
 ifP (r5.2 = (dw r3.2)) <|
 (ld P 22 r5.1 (dw r3.2)).bind fun r6 =>
 ifP (r6.2 = (dw r3.2)) <|
 (EV P 46 #[] (dw r3.2)).bind fun r7 =>
 ifP (ld P 22 r5.1 r7.2 = some (r6.1, r7.2) ∧ fa P 24 (e 3) 0 r7.2 = some (r5.1, r7.2) ∧ True) <|
 (bd P 59 #[(0, r7.1)] r7.2).bind fun r8 =>
 ifP (r8.2 = r7.2) <|
 (bs P 22 1 #[(0, r8.1)] r7.2).bind fun r9 =>
 ifP (True ∧ ld P 22 r5.1 r9.2 = some (r6.1, r9.2) ∧ fa P 24 (e 3) 0 r9.2 = some (r5.1, r9.2) ∧ True) <|
 (b_append P #[22, 22] 22 #[r6.1, r9.1] r9.2).bind fun r10 =>
 ifP (True ∧ True ∧ True ∧ True) <|
 (fa P 24 (e 3) 0 r10.2).bind fun r11 =>
 ifP (r11.2 = r10.2) <|
 (st P 22 r11.1 r10.1 r10.2).bind fun r12 =>
 ifP (True ∧ True ∧ True ∧ True ∧ True) <|
 (vl (e 4) r12.2).bind fun r13 =>
 (bo P .add 3 (.tmp 13) (.const (.int .i64 1)) r13.1 (.int .i64 1) r13.2).bind fun r14 =>
 (vl r14.1 r14.2).bind fun r15 =>
 spec_ChainNew_l1 (ups e [(10, r1.1), (11, r2.1), (12, r3.1), (15, r5.1), (16, r6.1), (17, r7.1), (18, r8.1), (19, r9.1), (20, r10.1), (21, r11.1), (13, r13.1), (14, r14.1), (4, r15.1)]) r15.2) (
 (ld P 24 (e 3) r3.2).bind fun r16 =>
 (st P 24 (e 2) r16.1 r16.2).bind fun r17 =>
 ((ld P 24 (e 2) r17.2).bind fun r18 => ifP (r18.2 = r17.2) (some r18.1)).bind fun v19 =>
 some (v19, r17.2)) := (exC_loop P (EV P) 11 23 (cA (cA (cB (cA (cB (cB (cB (bodyOf P 11)))))))) e w (kBlock 0 (kSeq P (EV P) 11 23 (cB (cB (cB (cB (bodyOf P 11))))) (kFn P (fnOf P 11))))).trans (by kernel_rfl)
theorem spec_ChainNew_fn (x0 : Value) (w : World) : fnC P (EV P) 11 #[x0] w =
 (al P 24 w).bind fun r1 =>
 (bd P 24 #[] r1.2).bind fun r2 =>
 (al P 24 r2.2).bind fun r3 =>
 (st P 24 r3.1 r2.1 r3.2).bind fun r4 =>
 (vl x0 r4.2).bind fun r5 =>
 (EV P 45 #[r5.1, (.int .i64 1), (.int .i64 4)] r5.2).bind fun r6 =>
 (uo P .not r6.1 r6.2).bind fun r7 =>
 cnd r7.1 (
 (ld P 24 r3.1 r7.2).bind fun r8 =>
 (st P 24 r1.1 r8.1 r8.2).bind fun r9 =>
 ((ld P 24 r1.1 r9.2).bind fun r10 => ifP (r10.2 = r9.2) (some r10.1)).bind fun v11 =>
 some (v11, r9.2)) (
 (vl (.int .i64 0) r7.2).bind fun r12 =>
 spec_ChainNew_l1 (ups (env0 #[x0]) [(2, r1.1), (5, r2.1), (3, r3.1), (6, r5.1), (7, r6.1), (8, r7.1), (4, r12.1)]) r12.2) := by kernel_rfl
noncomputable def impl_ChainNew_l1 (e : Env) (w : World) : Option (Value × World) := exC P (EV P) 12 23 (.loop (cA (cA (cB (cA (cB (cB (cB (bodyOf P 12))))))))) e w (kBlock 0 (kSeq P (EV P) 12 23 (cB (cB (cB (cB (bodyOf P 12))))) (kFn P (fnOf P 12))))
theorem impl_ChainNew_l1_eq (e : Env) (w : World) : impl_ChainNew_l1 e w =
 (bo P .lss 3 (.tmp 12) (.tmp 11) (e 12) (e 11) w).bind fun r1 =>
 cnd r1.1 (
 (fa P 24 (e 3) 0 (dw r1.2)).bind fun r3 =>
 ifP (r3.2 = (dw r1.2)) <|
 (ld P 22 r3.1 (dw r1.2)).bind fun r4 =>
 ifP (r4.2 = (dw r1.2)) <|
 (EV P 48 #[] (dw r1.2)).bind fun r5 =>
 ifP (ld P 22 r3.1 r5.2 = some (r4.1, r5.2) ∧ fa P 24 (e 3) 0 r5.2 = some (r3.1, r5.2) ∧ True) <|
 (bd P 59 #[(0, r5.1)] r5.2).bind fun r6 =>
 ifP (r6.2 = r5.2) <|
 (bs P 22 1 #[(0, r6.1)] r5.2).bind fun r7 =>
 ifP (True ∧ ld P 22 r3.1 r7.2 = some (r4.1, r7.2) ∧ fa P 24 (e 3) 0 r7.2 = some (r3.1, r7.2) ∧ True) <|
 (b_append P #[22, 22] 22 #[r4.1, r7.1] r7.2).bind fun r8 =>
 ifP (True ∧ True ∧ True ∧ True) <|
 (fa P 24 (e 3) 0 r8.2).bind fun r9 =>
 ifP (r9.2 = r8.2) <|
 (st P 22 r9.1 r8.1 r8.2).bind fun r10 =>
 ifP (True ∧ True ∧ True ∧ True ∧ True) <|
 (bo P .add 3 (.tmp 12) (.const (.int .i64 1)) (e 12) (.int .i64 1) r10.2).bind fun r11 =>
 (vl r11.1 r11.2).bind fun r12 =>
 impl_ChainNew_l1 (ups e [(13, r1.1), (14, r3.1), (15, r4.1), (16, r5.1), (17, r6.1), (18, r7.1), (19, r8.1), (20, r9.1), (21, r11.1), (12, r12.1)]) r12.2) (
 (ld P 24 (e 3) r1.2).bind fun r13 =>
 (st P 24 (e 2) r13.1 r13.2).bind fun r14 =>
 ((ld P 24 (e 2) r14.2).bind fun r15 => ifP (r15.2 = r14.2) (some r15.1)).bind fun v16 =>
 some (v16, r14.2)) := (exC_loop P (EV P) 12 23 (cA (cA (cB (cA (cB (cB (cB (bodyOf P 12)))))))) e w (kBlock 0 (kSeq P (EV P) 12 23 (cB (cB (cB (cB (bodyOf P 12))))) (kFn P (fnOf P 12))))).trans (by kernel_rfl)
theorem impl_ChainNew_fn (x0 : Value) (w : World) : fnC P (EV P) 12 #[x0] w =
 (al P 24 w).bind fun r1 =>
 (vl x0 r1.2).bind fun r2 =>
 (EV P 47 #[r2.1] r2.2).bind fun r3 =>
 (uo P .not r3.1 r3.2).bind fun r4 =>
 cnd r4.1 (
 (bd P 24 #[] r4.2).bind fun r5 =>
 (st P 24 r1.1 r5.1 r5.2).bind fun r6 =>
 ((ld P 24 r1.1 r6.2).bind fun r7 => ifP (r7.2 = r6.2) (some r7.1)).bind fun v8 =>
 some (v8, r6.2)) (
 (vl x0 r4.2).bind fun r9 =>
 (ms P 22 (.int .i64 0) r9.1 r9.2).bind fun r10 =>
 (bd P 24 #[(0, r10.1)] r10.2).bind fun r11 =>
 (al P 24 r11.2).bind fun r12 =>
 (st P 24 r12.1 r11.1 r12.2).bind fun r13 =>
 (vl x0 r13.2).bind fun r14 =>
 (vl (.int .i64 0) r14.2).bind fun r15 =>
 impl_ChainNew_l1 (ups (env0 #[x0]) [(2, r1.1), (4, r2.1), (5, r3.1), (6, r4.1), (8, r9.1), (9, r10.1), (10, r11.1), (3, r12.1), (11, r14.1), (12, r15.1)]) r15.2) := by kernel_rfl
theorem spec_DrawChainNew_fn (x0 : Value) (w : World) : fnC P (EV P) 16 #[x0] w =
 (vl (.int .i64 0) w).bind fun r1 =>
 (vl x0 r1.2).bind fun r2 =>
 (EV P 52 #[r2.1] r2.2).bind fun r3 =>
 (bs P 78 6 #[(0, (.int .i64 1)), (1, (.int .i64 2)), (2, (.int .i64 3)), (3, (.int .i64 4)), (4, (.int .i64 0)), (5, (.int .i64 5))] r3.2).bind fun r4 =>
 (EV P 53 #[r3.1, r4.1] r4.2).bind fun r5 =>
 (vl r5.1 r5.2).bind fun r6 =>
 some (r6.1, r6.2) := by kernel_rfl
noncomputable def laws_cfChain_l1 (e : Env) (w : World) : Option (Value × World) := exC P (EV P) 17 50 (.loop (cA (cA (cB (cA (cB (cB (bodyOf P 17)))))))) e w (kBlock 0 (kSeq P (EV P) 17 50 (cB (cB (cB (bodyOf P 17)))) (kFn P (fnOf P 17))))
theorem laws_cfChain_l1_eq (e : Env) (w : World) : laws_cfChain_l1 e w =
 (vl (e 5) w).bind fun r1 =>
 (fa P 24 (e 2) 0 r1.2).bind fun r2 =>
 (ld P 22 r2.1 r2.2).bind fun r3 =>
 (b_len P #[22] 3 #[r3.1] r3.2).bind fun r4 =>
 (bo P .lss 3 (.tmp 13) (.tmp 16) r1.1 r4.1 r4.2).bind fun r5 =>
 cnd r5.1 (
 (fa P 24 (e 2) 0 (dw r5.2)).bind fun r7 =>
 ifP (r7.2 = (dw r5.2)) <|
 (ld P 22 r7.1 (dw r5.2)).bind fun r8 =>
 ifP (r8.2 = (dw r5.2)) <|
 (vl (e 5) (dw r5.2)).bind fun r9 =>
 ifP (r9.2 = (dw r5.2)) <|
 (ia P 22 r8.1 r9.1 (dw r5.2)).bind fun r10 =>
 ifP (r10.2 = (dw r5.2)) <|
 (fa P 59 r10.1 0 (dw r5.2)).bind fun r11 =>
 ifP (r11.2 = (dw r5.2)) <|
 (ld P 57 r11.1 (dw r5.2)).bind fun r12 =>
 ifP (r12.2 = (dw r5.2)) <|
 (fa P 24 (e 3) 0 (dw r5.2)).bind fun r13 =>
 ifP (r13.2 = (dw r5.2)) <|
 (ld P 22 r13.1 (dw r5.2)).bind fun r14 =>
 ifP (r14.2 = (dw r5.2)) <|
 (vl (e 5) (dw r5.2)).bind fun r15 =>
 ifP (r15.2 = (dw r5.2)) <|
 (ia P 22 r14.1 r15.1 (dw r5.2)).bind fun r16 =>
 ifP (r16.2 = (dw r5.2)) <|
 (fa P 59 r16.1 0 (dw r5.2)).bind fun r17 =>
 ifP (r17.2 = (dw r5.2)) <|
 (ld P 57 r17.1 (dw r5.2)).bind fun r18 =>
 ifP (r18.2 = (dw r5.2)) <|
 (EV P 29 #[r12.1, r18.1] (dw r5.2)).bind fun r19 =>
 ifP (True ∧ True ∧ True ∧ True ∧ True ∧ True ∧ True ∧ True ∧ True ∧ True ∧ True) <|
 (uo P .not r19.1 r19.2).bind fun r20 =>
 ifP (r20.2 = r19.2) <|
 (vl r20.1 r19.2).bind fun r21 =>
 ifP (r21.2 = r19.2) <|
 (gif r21.1 false (fa P 24 (e 2) 0 r19.2) r19.2).bind fun r22 =>
 ifP (r22.2 = r19.2) <|
 (gif r21.1 false (ld P 22 r22.1 r19.2) r19.2).bind fun r23 =>
 ifP (r23.2 = r19.2) <|
 (gif r21.1 false (vl (e 5) r19.2) r19.2).bind fun r24 =>
 ifP (r24.2 = r19.2) <|
 (gif r21.1 false (ia P 22 r23.1 r24.1 r19.2) r19.2).bind fun r25 =>
 ifP (r25.2 = r19.2) <|
 (gif r21.1 false (fa P 59 r25.1 1 r19.2) r19.2).bind fun r26 =>
 ifP (r26.2 = r19.2) <|
 (gif r21.1 false (ld P 55 r26.1 r19.2) r19.2).bind fun r27 =>
 ifP (r27.2 = r19.2) <|
 (gif r21.1 false (fa P 24 (e 3) 0 r19.2) r19.2).bind fun r28 =>
 ifP (r28.2 = r19.2) <|
 (gif r21.1 false (ld P 22 r28.1 r19.2) r19.2).bind fun r29 =>
 ifP (r29.2 = r19.2) <|
 (gif r21.1 false (vl (e 5) r19.2) r19.2).bind fun r30 =>
 ifP (r30.2 = r19.2) <|
 (gif r21.1 false (ia P 22 r29.1 r30.1 r19.2) r19.2).bind fun r31 =>
 ifP (r31.2 = r19.2) <|
 (gif r21.1 false (fa P 59 r31.1 1 r19.2) r19.2).bind fun r32 =>
 ifP (r32.2 = r19.2) <|
 (gif r21.1 false (ld P 55 r32.1 r19.2) r19.2).bind fun r33 =>
 ifP (r33.2 = r19.2) <|
 (gif r21.1 false (EV P 54 #[r27.1, r33.1] r19.2) r19.2).bind fun r34 =>
 ifP (True ∧ True ∧ True ∧ True ∧ True ∧ True ∧ True ∧ True ∧ True ∧ True ∧ True ∧ True ∧ True ∧ True ∧ True ∧ True ∧ True ∧ True ∧ True ∧ True ∧ True ∧ True) <|
 (gif r21.1 false (uo P .not r34.1 r34.2) r34.2).bind fun r35 =>
 ifP (r35.2 = r34.2) <|
 (pickV r21.1 (.bool true) r35.1 r34.2).bind fun r36 =>
 ifP (r36.2 = r34.2) <|
 cnd r36.1 (
 (vl (.bool false) r34.2).bind fun r37 =>
 some (r37.1, r37.2)) (
 (vl (e 5) r34.2).bind fun r38 =>
 (bo P .add 3 (.tmp 18) (.const (.int .i64 1)) r38.1 (.int .i64 1) r38.2).bind fun r39 =>
 (vl r39.1 r39.2).bind fun r40 =>
 laws_cfChain_l1 (ups e [(13, r1.1), (14, r2.1), (15, r3.1), (16, r4.1), (17, r5.1), (20, r7.1), (21, r8.1), (22, r9.1), (23, r10.1), (24, r11.1), (25, r12.1), (26, r13.1), (27, r14.1), (28, r15.1), (29, r16.1), (30, r17.1), (31, r18.1), (32, r19.1), (33, r20.1), (34, r21.1), (35, r22.1), (36, r23.1), (37, r24.1), (38, r25.1), (39, r26.1), (40, r27.1), (41, r28.1), (42, r29.1), (43, r30.1), (44, r31.1), (45, r32.1), (46, r33.1), (47, r34.1), (48, r35.1), (49, r36.1), (18, r38.1), (19, r39.1), (5, r40.1)]) r40.2)) (
 (vl (.bool true) r5.2).bind fun r41 =>
 some (r41.1, r41.2)) := (exC_loop P (EV P) 17 50 (cA (cA (cB (cA (cB (cB (bodyOf P 17))))))) e w (kBlock 0 (kSeq P (EV P) 17 50 (cB (cB (cB (bodyOf P 17)))) (kFn P (fnOf P 17))))).trans (by kernel_rfl)
theorem laws_cfChain_fn (x0 x1 : Value) (w : World) : fnC P (EV P) 17 #[x0, x1] w =
 (bx P 24 x0 w).bind fun r1 =>
 (bx P 24 x1 r1.2).bind fun r2 =>
 (vl (.bool false) r2.2).bind fun r3 =>
 (fa P 24 r1.1 0 r3.2).bind fun r4 =>
 (ld P 22 r4.1 r4.2).bind fun r5 =>
 (b_len P #[22] 3 #[r5.1] r5.2).bind fun r6 =>
 (fa P 24 r2.1 0 r6.2).bind fun r7 =>
 (ld P 22 r7.1 r7.2).bind fun r8 =>
 (b_len P #[22] 3 #[r8.1] r8.2).bind fun r9 =>
 (bo P .neq 3 (.tmp 8) (.tmp 11) r6.1 r9.1 r9.2).bind fun r10 =>
 cnd r10.1 (
 (vl (.bool false) r10.2).bind fun r11 =>
 some (r11.1, r11.2)) (
 (vl (.int .i64 0) r10.2).bind fun r12 =>
 laws_cfChain_l1 (ups (env0 #[x0, x1]) [(2, r1.1), (3, r2.1), (4, r3.1), (6, r4.1), (7, r5.1), (8, r6.1), (9, r7.1), (10, r8.1), (11, r9.1), (12, r10.1), (5, r12.1)]) r12.2) := by kernel_rfl
noncomputable def impl_ChainOk_l1 (e : Env) (w : World) : Option (Value × World) := exC P (EV P) 18 71 (.loop (cA (cA (cB (cA (cB (cB (bodyOf P 18)))))))) e w (kBlock 0 (kSeq P (EV P) 18 71 (cB (cB (cB (bodyOf P 18)))) (kFn P (fnOf P 18))))
noncomputable def impl_ChainOk_l2 (e : Env) (w : World) : Option (Value × World) := exC P (EV P) 18 71 (.loop (cA (cA (cB (cA (cB (cB (cB (bodyOf P 18))))))))) e w (kBlock 2 (kSeq P (EV P) 18 71 (cB (cB (cB (cB (bodyOf P 18))))) (kFn P (fnOf P 18))))
theorem impl_ChainOk_l1_eq (e : Env) (w : World) : impl_ChainOk_l1 e w =
 (bo P .lss 3 (.tmp 15) (.tmp 14) (e 15) (e 14) w).bind fun r1 =>
 cnd r1.1 (
 (ia P 22 (e 13) (e 15) r1.2).bind fun r2 =>
 (ld P 59 r2.1 r2.2).bind fun r3 =>
 (al P 59 r3.2).bind fun r4 =>
 (st P 59 r4.1 r3.1 r4.2).bind fun r5 =>
 (fa P 59 r4.1 0 r5.2).bind fun r6 =>
 (ld P 57 r6.1 r6.2).bind fun r7 =>
 (EV P 55 #[r7.1] r7.2).bind fun r8 =>
 (uo P .not r8.1 r8.2).bind fun r9 =>
 (vl r9.1 r9.2).bind fun r10 =>
 (gif r10.1 false (fa P 59 r4.1 1 r10.2) r10.2).bind fun r11 =>
 (gif r10.1 false (ld P 55 r11.1 r11.2) r11.2).bind fun r12 =>
 (gif r10.1 false (b_len P #[55] 3 #[r12.1] r12.2) r12.2).bind fun r13 =>
 (gif r10.1 false (bo P .gtr 3 (.tmp 26) (.const (.int .i64 6)) r13.1 (.int .i64 6) r13.2) r13.2).bind fun r14 =>
 (pickV r10.1 (.bool true) r14.1 r14.2).bind fun r15 =>
 (vl r15.1 r15.2).bind fun r16 =>
 (gif r16.1 false (fa P 59 r4.1 1 r16.2) r16.2).bind fun r17 =>
 (gif r16.1 false (ld P 55 r17.1 r17.2) r17.2).bind fun r18 =>
 (gif r16.1 false (EV P 56 #[r18.1, (.func (.func 57) #[] #[])] r18.2) r18.2).bind fun r19 =>
 (pickV r16.1 (.bool true) r19.1 r19.2).bind fun r20 =>
 cnd r20.1 (
 (vl (.bool false) r20.2).bind fun r21 =>
 some (r21.1, r21.2)) (
 (bo P .add 3 (.tmp 15) (.const (.int .i64 1)) (e 15) (.int .i64 1) r20.2).bind fun r22 =>
 (vl r22.1 r22.2).bind fun r23 =>
 impl_ChainOk_l1 (ups e [(16, r1.1), (17, r2.1), (18, r3.1), (4, r4.1), (19, r6.1), (20, r7.1), (21, r8.1), (22, r9.1), (23, r10.1), (24, r11.1), (25, r12.1), (26, r13.1), (27, r14.1), (28, r15.1), (29, r16.1), (30, r17.1), (31, r18.1), (32, r19.1), (33, r20.1), (34, r22.1), (15, r23.1)]) r23.2)) (
 (fa P 24 (e 1) 0 r1.2).bind fun r24 =>
 (ld P 22 r24.1 r24.2).bind fun r25 =>
 (b_len P #[22] 3 #[r25.1] r25.2).bind fun r26 =>
 (vl (.int .i64 0) r26.2).bind fun r27 =>
 impl_ChainOk_l2 (ups e [(16, r1.1), (35, r24.1), (36, r25.1), (37, r26.1), (38, r27.1)]) r27.2) := (exC_loop P (EV P) 18 71 (cA (cA (cB (cA (cB (cB (bodyOf P 18))))))) e w (kBlock 0 (kSeq P (EV P) 18 71 (cB (cB (cB (bodyOf P 18)))) (kFn P (fnOf P 18))))).trans (by kernel_rfl)
theorem impl_ChainOk_l2_eq (e : Env) (w : World) : impl_ChainOk_l2 e w =
 (bo P .lss 3 (.tmp 38) (.tmp 37) (e 38) (e 37) w).bind fun r1 =>
 cnd r1.1 (
 (vl (e 38) r1.2).bind fun r2 =>
 (ia P 22 (e 36) (e 38) r2.2).bind fun r3 =>
 (ld P 59 r3.1 r3.2).bind fun r4 =>
 (al P 59 r4.2).bind fun r5 =>
 (vl r2.1 r5.2).bind fun r6 =>
 (st P 59 r5.1 r4.1 r6.2).bind fun r7 =>
 (ld P 24 (e 1) (dw r7.2)).bind fun r9 =>
 ifP (r9.2 = (dw r7.2)) <|
 (vl r6.1 (dw r7.2)).bind fun r10 =>
 ifP (r10.2 = (dw r7.2)) <|
 (EV P 58 #[r9.1, r10.1] (dw r7.2)).bind fun r11 =>
 ifP (True ∧ True) <|
 (vl r11.1 r11.2).bind fun r12 =>
 ifP (r12.2 = r11.2) <|
 (gif r12.1 true (fa P 59 r5.1 1 r11.2) r11.2).bind fun r13 =>
 ifP (r13.2 = r11.2) <|
 (gif r12.1 true (ld P 55 r13.1 r11.2) r11.2).bind fun r14 =>
 ifP (r14.2 = r11.2) <|
 (gif r12.1 true (b_len P #[55] 3 #[r14.1] r11.2) r11.2).bind fun r15 =>
 ifP (r15.2 = r11.2) <|
 (gif r12.1 true (bo P .gtr 3 (.tmp 49) (.const (.int .i64 0)) r15.1 (.int .i64 0) r11.2) r11.2).bind fun r16 =>
 ifP (r16.2 = r11.2) <|
 (pickV r12.1 r16.1 (.bool false) r11.2).bind fun r17 =>
 ifP (r17.2 = r11.2) <|
 (vl r17.1 r11.2).bind fun r18 =>
 ifP (r18.2 = r11.2) <|
 (gif r18.1 false (ld P 24 (e 1) r11.2) r11.2).bind fun r19 =>
 ifP (r19.2 = r11.2) <|
 (gif r18.1 false (vl r6.1 r11.2) r11.2).bind fun r20 =>
 ifP (r20.2 = r11.2) <|
 (gif r18.1 false (EV P 58 #[r19.1, r20.1] r11.2) r11.2).bind fun r21 =>
 ifP (True ∧ True ∧ True ∧ True ∧ True ∧ True ∧ True) <|
 (gif r18.1 false (uo P .not r21.1 r21.2) r21.2).bind fun r22 =>
 ifP (r22.2 = r21.2) <|
 (gif r18.1 false (vl r22.1 r21.2) r21.2).bind fun r23 =>
 ifP (r23.2 = r21.2) <|
 (gif r23.1 true (ld P 59 r5.1 r21.2) r21.2).bind fun r24 =>
 ifP (r24.2 = r21.2) <|
 (gif r23.1 true (fa P 24 (e 1) 0 r21.2) r21.2).bind fun r25 =>
 ifP (r25.2 = r21.2) <|
 (gif r23.1 true (ld P 22 r25.1 r21.2) r21.2).bind fun r26 =>
 ifP (r26.2 = r21.2) <|
 (gif r23.1 true (vl r6.1 r21.2) r21.2).bind fun r27 =>
 ifP (r27.2 = r21.2) <|
 (gif r23.1 true (bo P .add 3 (.tmp 61) (.const (.int .i64 1)) r27.1 (.int .i64 1) r21.2) r21.2).bind fun r28 =>
 ifP (r28.2 = r21.2) <|
 (gif r23.1 true (ia P 22 r26.1 r28.1 r21.2) r21.2).bind fun r29 =>
 ifP (r29.2 = r21.2) <|
 (gif r23.1 true (fa P 59 r29.1 0 r21.2) r21.2).bind fun r30 =>
 ifP (r30.2 = r21.2) <|
 (gif r23.1 true (ld P 57 r30.1 r21.2) r21.2).bind fun r31 =>
 ifP (r31.2 = r21.2) <|
 (gif r23.1 true (EV P 59 #[r24.1, r31.1] r21.2) r21.2).bind fun r32 =>
 ifP (True ∧ True ∧ True ∧ True ∧ True ∧ True ∧ True ∧ True ∧ True ∧ True ∧ True ∧ True ∧ True ∧ True ∧ True) <|
 (gif r23.1 true (uo P .not r32.1 r32.2) r32.2).bind fun r33 =>
 ifP (r33.2 = r32.2) <|
 (gif r18.1 false (pickV r23.1 r33.1 (.bool false) r32.2) r32.2).bind fun r34 =>
 ifP (r34.2 = r32.2) <|
 (pickV r18.1 (.bool true) r34.1 r32.2).bind fun r35 =>
 ifP (r35.2 = r32.2) <|
 cnd r35.1 (
 (vl (.bool false) r32.2).bind fun r36 =>
 some (r36.1, r36.2)) (
 (bo P .add 3 (.tmp 38) (.const (.int .i64 1)) (e 38) (.int .i64 1) r32.2).bind fun r37 =>
 (vl r37.1 r37.2).bind fun r38 =>
 impl_ChainOk_l2 (ups e [(39, r1.1), (40, r2.1), (41, r3.1), (42, r4.1), (6, r5.1), (5, r6.1), (43, r9.1), (44, r10.1), (45, r11.1), (46, r12.1), (47, r13.1), (48, r14.1), (49, r15.1), (50, r16.1), (51, r17.1), (52, r18.1), (53, r19.1), (54, r20.1), (55, r21.1), (56, r22.1), (57, r23.1), (58, r24.1), (59, r25.1), (60, r26.1), (61, r27.1), (62, r28.1), (63, r29.1), (64, r30.1), (65, r31.1), (66, r32.1), (67, r33.1), (68, r34.1), (69, r35.1), (70, r37.1), (38, r38.1)]) r38.2)) (
 (vl (.bool true) r1.2).bind fun r39 =>
 some (r39.1, r39.2)) := (exC_loop P (EV P) 18 71 (cA (cA (cB (cA (cB (cB (cB (bodyOf P 18)))))))) e w (kBlock 2 (kSeq P (EV P) 18 71 (cB (cB (cB (cB (bodyOf P 18))))) (kFn P (fnOf P 18))))).trans (by kernel_rfl)
theorem impl_ChainOk_fn (x0 : Value) (w : World) : fnC P (EV P) 18 #[x0] w =
 (bx P 24 x0 w).bind fun r1 =>
 (vl (.bool false) r1.2).bind fun r2 =>
 (fa P 24 r1.1 0 r2.2).bind fun r3 =>
 (ld P 22 r3.1 r3.2).bind fun r4 =>
 (b_len P #[22] 3 #[r4.1] r4.2).bind fun r5 =>
 (EV P 47 #[r5.1] r5.2).bind fun r6 =>
 (uo P .not r6.1 r6.2).bind fun r7 =>
 cnd r7.1 (
 (vl (.bool false) r7.2).bind fun r8 =>
 some (r8.1, r8.2)) (
 (fa P 24 r1.1 0 r7.2).bind fun r9 =>
 (ld P 22 r9.1 r9.2).bind fun r10 =>
 (b_len P #[22] 3 #[r10.1] r10.2).bind fun r11 =>
 (vl (.int .i64 0) r11.2).bind fun r12 =>
 impl_ChainOk_l1 (ups (env0 #[x0]) [(1, r1.1), (2, r2.1), (7, r3.1), (8, r4.1), (9, r5.1), (10, r6.1), (11, r7.1), (12, r9.1), (13, r10.1), (14, r11.1), (15, r12.1)]) r12.2) := by kernel_rfl
noncomputable def laws_cfPast_l1 (e : Env) (w : World) : Option (Value × World) := exC P (EV P) 19 31 (.loop (cA (cA (cB (cA (cB (cB (bodyOf P 19)))))))) e w (kBlock 0 (kSeq P (EV P) 19 31 (cB (cB (cB (bodyOf P 19)))) (kFn P (fnOf P 19))))
theorem laws_cfPast_l1_eq (e : Env) (w : World) : laws_cfPast_l1 e w =
 (vl (e 5) w).bind fun r1 =>
 (fa P 35 (e 2) 0 r1.2).bind fun r2 =>
 (ld P 33 r2.1 r2.2).bind fun r3 =>
 (b_len P #[33] 3 #[r3.1] r3.2).bind fun r4 =>
 (bo P .lss 3 (.tmp 13) (.tmp 16) r1.1 r4.1 r4.2).bind fun r5 =>
 cnd r5.1 (
 (fa P 35 (e 2) 0 (dw r5.2)).bind fun r7 =>
 ifP (r7.2 = (dw r5.2)) <|
 (ld P 33 r7.1 (dw r5.2)).bind fun r8 =>
 ifP (r8.2 = (dw r5.2)) <|
 (vl (e 5) (dw r5.2)).bind fun r9 =>
 ifP (r9.2 = (dw r5.2)) <|
 (ia P 33 r8.1 r9.1 (dw r5.2)).bind fun r10 =>
 ifP (r10.2 = (dw r5.2)) <|
 (ld P 46 r10.1 (dw r5.2)).bind fun r11 =>
 ifP (r11.2 = (dw r5.2)) <|
 (fa P 35 (e 3) 0 (dw r5.2)).bind fun r12 =>
 ifP (r12.2 = (dw r5.2)) <|
 (ld P 33 r12.1 (dw r5.2)).bind fun r13 =>
 ifP (r13.2 = (dw r5.2)) <|
 (vl (e 5) (dw r5.2)).bind fun r14 =>
 ifP (r14.2 = (dw r5.2)) <|
 (ia P 33 r13.1 r14.1 (dw r5.2)).bind fun r15 =>
 ifP (r15.2 = (dw r5.2)) <|
 (ld P 46 r15.1 (dw r5.2)).bind fun r16 =>
 ifP (r16.2 = (dw r5.2)) <|
 (bo P .neq 46 (.tmp 24) (.tmp 29) r11.1 r16.1 (dw r5.2)).bind fun r17 =>
 ifP (r17.2 = (dw r5.2)) <|
 cnd r17.1 (
 (vl (.bool false) (dw r5.2)).bind fun r18 =>
 some (r18.1, r18.2)) (
 (vl (e 5) (dw r5.2)).bind fun r19 =>
 (bo P .add 3 (.tmp 18) (.const (.int .i64 1)) r19.1 (.int .i64 1) r19.2).bind fun r20 =>
 (vl r20.1 r20.2).bind fun r21 =>
 laws_cfPast_l1 (ups e [(13, r1.1), (14, r2.1), (15, r3.1), (16, r4.1), (17, r5.1), (20, r7.1), (21, r8.1), (22, r9.1), (23, r10.1), (24, r11.1), (25, r12.1), (26, r13.1), (27, r14.1), (28, r15.1), (29, r16.1), (30, r17.1), (18, r19.1), (19, r20.1), (5, r21.1)]) r21.2)) (
 (vl (.bool true) r5.2).bind fun r22 =>
 some (r22.1, r22.2)) := (exC_loop P (EV P) 19 31 (cA (cA (cB (cA (cB (cB (bodyOf P 19))))))) e w (kBlock 0 (kSeq P (EV P) 19 31 (cB (cB (cB (bodyOf P 19)))) (kFn P (fnOf P 19))))).trans (by kernel_rfl)
theorem laws_cfPast_fn (x0 x1 : Value) (w : World) : fnC P (EV P) 19 #[x0, x1] w =
 (bx P 35 x0 w).bind fun r1 =>
 (bx P 35 x1 r1.2).bind fun r2 =>
 (vl (.bool false) r2.2).bind fun r3 =>
 (fa P 35 r1.1 0 r3.2).bind fun r4 =>
 (ld P 33 r4.1 r4.2).bind fun r5 =>
 (b_len P #[33] 3 #[r5.1] r5.2).bind fun r6 =>
 (fa P 35 r2.1 0 r6.2).bind fun r7 =>
 (ld P 33 r7.1 r7.2).bind fun r8 =>
 (b_len P #[33] 3 #[r8.1] r8.2).bind fun r9 =>
 (bo P .neq 3 (.tmp 8) (.tmp 11) r6.1 r9.1 r9.2).bind fun r10 =>
 cnd r10.1 (
 (vl (.bool false) r10.2).bind fun r11 =>
 some (r11.1, r11.2)) (
 (vl (.int .i64 0) r10.2).bind fun r12 =>
 laws_cfPast_l1 (ups (env0 #[x0, x1]) [(2, r1.1), (3, r2.1), (4, r3.1), (6, r4.1), (7, r5.1), (8, r6.1), (9, r7.1), (10, r8.1), (11, r9.1), (12, r10.1), (5, r12.1)]) r12.2) := by kernel_rfl
theorem impl_ChainStable_fn (x0 : Value) (w : World) : fnC P (EV P) 20 #[x0] w =
 (bx P 24 x0 w).bind fun r1 =>
 (al P 35 r1.2).bind fun r2 =>
 (ld P 24 r1.1 r2.2).bind fun r3 =>
 (EV P 18 #[r3.1] r3.2).bind fun r4 =>
 (uo P .not r4.1 r4.2).bind fun r5 =>
 cnd r5.1 (
 (bd P 35 #[] r5.2).bind fun r6 =>
 (st P 35 r2.1 r6.1 r6.2).bind fun r7 =>
 ((ld P 35 r2.1 r7.2).bind fun r8 => ifP (r8.2 = r7.2) (some r8.1)).bind fun v9 =>
 some (v9, r7.2)) (
 (EV P 60 #[r1.1] r5.2).bind fun r10 =>
 (EV P 61 #[r10.1] r10.2).bind fun r11 =>
 (st P 35 r2.1 r11.1 r11.2).bind fun r12 =>
 ((ld P 35 r2.1 r12.2).bind fun r13 => ifP (r13.2 = r12.2) (some r13.1)).bind fun v14 =>
 some (v14, r12.2)) := by kernel_rfl
theorem impl_PastNone_fn (w : World) : fnC P (EV P) 21 #[] w =
 (al P 35 w).bind fun r1 =>
 (ms P 33 (.int .i64 4) (.int .i64 4) r1.2).bind fun r2 =>
 (bd P 35 #[(0, r2.1)] r2.2).bind fun r3 =>
 (st P 35 r1.1 r3.1 r3.2).bind fun r4 =>
 ((ld P 35 r1.1 r4.2).bind fun r5 => ifP (r5.2 = r4.2) (some r5.1)).bind fun v6 =>
 some (v6, r4.2) := by kernel_rfl
theorem impl_VerOk_fn (x0 : Value) (w : World) : fnC P (EV P) 28 #[x0] w =
 (bx P 48 x0 w).bind fun r1 =>
 (vl (.bool false) r1.2).bind fun r2 =>
 (ld P 48 r1.1 (dw r2.2)).bind fun r4 =>
 ifP (r4.2 = (dw r2.2)) <|
 (EV P 74 #[r4.1] (dw r2.2)).bind fun r5 =>
 ifP (True ∧ True) <|
 (vl r5.1 r5.2).bind fun r6 =>
 ifP (r6.2 = r5.2) <|
 (gif r6.1 true (fa P 48 r1.1 1 r5.2) r5.2).bind fun r7 =>
 ifP (r7.2 = r5.2) <|
 (gif r6.1 true (ld P 46 r7.1 r5.2) r5.2).bind fun r8 =>
 ifP (r8.2 = r5.2) <|
 (gif r6.1 true (EV P 75 #[r8.1] r5.2) r5.2).bind fun r9 =>
 ifP (True ∧ True ∧ True ∧ True) <|
 (pickV r6.1 r9.1 (.bool false) r9.2).bind fun r10 =>
 ifP (r10.2 = r9.2) <|
 (vl r10.1 r9.2).bind fun r11 =>
 ifP (r11.2 = r9.2) <|
 (gif r11.1 true (fa P 48 r1.1 1 r9.2) r9.2).bind fun r12 =>
 ifP (r12.2 = r9.2) <|
 (gif r11.1 true (fa P 46 r12.1 0 r9.2) r9.2).bind fun r13 =>
 ifP (r13.2 = r9.2) <|
 (gif r11.1 true (ld P 3 r13.1 r9.2) r9.2).bind fun r14 =>
 ifP (r14.2 = r9.2) <|
 (gif r11.1 true (fa P 48 r1.1 2 r9.2) r9.2).bind fun r15 =>
 ifP (r15.2 = r9.2) <|
 (gif r11.1 true (ld P 35 r15.1 r9.2) r9.2).bind fun r16 =>
 ifP (r16.2 = r9.2) <|
 (gif r11.1 true (EV P 76 #[r16.1] r9.2) r9.2).bind fun r17 =>
 ifP (True ∧ True ∧ gif r11.1 true (ld P 3 r13.1 r17.2) r17.2 = some (r14.1, r17.2) ∧ gif r11.1 true (fa P 46 r12.1 0 r17.2) r17.2 = some (r13.1, r17.2) ∧ gif r11.1 true (fa P 48 r1.1 1 r17.2) r17.2 = some (r12.1, r17.2) ∧ True ∧ True ∧ True ∧ True) <|
 (gif r11.1 true (bo P .gtr 3 (.tmp 13) (.tmp 16) r14.1 r17.1 r17.2) r17.2).bind fun r18 =>
 ifP (r18.2 = r17.2) <|
 (pickV r11.1 r18.1 (.bool false) r17.2).bind fun r19 =>
 ifP (r19.2 = r17.2) <|
 (vl r19.1 r17.2).bind fun r20 =>
 ifP (r20.2 = r17.2) <|
 some (r20.1, r17.2) := by kernel_rfl
noncomputable def laws_cfStore_l1 (e : Env) (w : World) : Option (Value × World) := exC P (EV P) 29 32 (.loop (cA (cA (cB (cA (cB (cB (bodyOf P 29)))))))) e w (kBlock 0 (kSeq P (EV P) 29 32 (cB (cB (cB (bodyOf P 29)))) (kFn P (fnOf P 29))))
theorem laws_cfStore_l1_eq (e : Env) (w : World) : laws_cfStore_l1 e w =
 (vl (e 5) w).bind fun r1 =>
 (fa P 57 (e 2) 0 r1.2).bind fun r2 =>
 (ld P 55 r2.1 r2.2).bind fun r3 =>
 (b_len P #[55] 3 #[r3.1] r3.2).bind fun r4 =>
 (bo P .lss 3 (.tmp 13) (.tmp 16) r1.1 r4.1 r4.2).bind fun r5 =>
 cnd r5.1 (
 (fa P 57 (e 2) 0 (dw r5.2)).bind fun r7 =>
 ifP (r7.2 = (dw r5.2)) <|
 (ld P 55 r7.1 (dw r5.2)).bind fun r8 =>
 ifP (r8.2 = (dw r5.2)) <|
 (vl (e 5) (dw r5.2)).bind fun r9 =>
 ifP (r9.2 = (dw r5.2)) <|
 (ia P 55 r8.1 r9.1 (dw r5.2)).bind fun r10 =>
 ifP (r10.2 = (dw r5.2)) <|
 (ld P 48 r10.1 (dw r5.2)).bind fun r11 =>
 ifP (r11.2 = (dw r5.2)) <|
 (fa P 57 (e 3) 0 (dw r5.2)).bind fun r12 =>
 ifP (r12.2 = (dw r5.2)) <|
 (ld P 55 r12.1 (dw r5.2)).bind fun r13 =>
 ifP (r13.2 = (dw r5.2)) <|
 (vl (e 5) (dw r5.2)).bind fun r14 =>
 ifP (r14.2 = (dw r5.2)) <|
 (ia P 55 r13.1 r14.1 (dw r5.2)).bind fun r15 =>
 ifP (r15.2 = (dw r5.2)) <|
 (ld P 48 r15.1 (dw r5.2)).bind fun r16 =>
 ifP (r16.2 = (dw r5.2)) <|
 (EV P 77 #[r11.1, r16.1] (dw r5.2)).bind fun r17 =>
 ifP (True ∧ True ∧ True ∧ True ∧ True ∧ True ∧ True ∧ True ∧ True) <|
 (uo P .not r17.1 r17.2).bind fun r18 =>
 ifP (r18.2 = r17.2) <|
 cnd r18.1 (
 (vl (.bool false) r17.2).bind fun r19 =>
 some (r19.1, r19.2)) (
 (vl (e 5) r17.2).bind fun r20 =>
 (bo P .add 3 (.tmp 18) (.const (.int .i64 1)) r20.1 (.int .i64 1) r20.2).bind fun r21 =>
 (vl r21.1 r21.2).bind fun r22 =>
 laws_cfStore_l1 (ups e [(13, r1.1), (14, r2.1), (15, r3.1), (16, r4.1), (17, r5.1), (20, r7.1), (21, r8.1), (22, r9.1), (23, r10.1), (24, r11.1), (25, r12.1), (26, r13.1), (27, r14.1), (28, r15.1), (29, r16.1), (30, r17.1), (31, r18.1), (18, r20.1), (19, r21.1), (5, r22.1)]) r22.2)) (
 (vl (.bool true) r5.2).bind fun r23 =>
 some (r23.1, r23.2)) := (exC_loop P (EV P) 29 32 (cA (cA (cB (cA (cB (cB (bodyOf P 29))))))) e w (kBlock 0 (kSeq P (EV P) 29 32 (cB (cB (cB (bodyOf P 29)))) (kFn P (fnOf P 29))))).trans (by kernel_rfl)
theorem laws_cfStore_fn (x0 x1 : Value) (w : World) : fnC P (EV P) 29 #[x0, x1] w =
 (bx P 57 x0 w).bind fun r1 =>
 (bx P 57 x1 r1.2).bind fun r2 =>
 (vl (.bool false) r2.2).bind fun r3 =>
 (fa P 57 r1.1 0 r3.2).bind fun r4 =>
 (ld P 55 r4.1 r4.2).bind fun r5 =>
 (b_len P #[55] 3 #[r5.1] r5.2).bind fun r6 =>
 (fa P 57 r2.1 0 r6.2).bind fun r7 =>
 (ld P 55 r7.1 r7.2).bind fun r8 =>
 (b_len P #[55] 3 #[r8.1] r8.2).bind fun r9 =>
 (bo P .neq 3 (.tmp 8) (.tmp 11) r6.1 r9.1 r9.2).bind fun r10 =>
 cnd r10.1 (
 (vl (.bool false) r10.2).bind fun r11 =>
 some (r11.1, r11.2)) (
 (vl (.int .i64 0) r10.2).bind fun r12 =>
 laws_cfStore_l1 (ups (env0 #[x0, x1]) [(2, r1.1), (3, r2.1), (4, r3.1), (6, r4.1), (7, r5.1), (8, r6.1), (9, r7.1), (10, r8.1), (11, r9.1), (12, r10.1), (5, r12.1)]) r12.2) := by kernel_rfl
end Go.Proofs.Ythicfemhpnnaaaa.X
