/- A part of the proof: an evaluator of the model, its laws, and contracts of functions; no condition. -/
import Derived.Test.YtjagkbamkohnoaaEvT
set_option linter.unusedVariables false
set_option maxRecDepth 100000
namespace Go.Proofs.Ytjagkbamkohnoaa.X
open Go Go.Ev
theorem laws_FnStoreJoin_fn (x0 : Value) (w : World) : fnC P (EV P) 6 #[x0] w =
 (vl (.bool false) w).bind fun r1 =>
 (vl x0 r1.2).bind fun r2 =>
 (b_len P #[22] 3 #[r2.1] r2.2).bind fun r3 =>
 (bo P .gtr 3 (.tmp 7) (.const (.int .i64 1048576)) r3.1 (.int .i64 1048576) r3.2).bind fun r4 =>
 cnd r4.1 (
 (vl (.bool true) r4.2).bind fun r5 =>
 some (r5.1, r5.2)) (
 (vl x0 r4.2).bind fun r6 =>
 (EV P 26 #[r6.1] r6.2).bind fun r7 =>
 (vl r7.1 r7.2).bind fun r8 =>
 (xt P r8.1 0 r8.2).bind fun r9 =>
 (xt P r8.1 1 r9.2).bind fun r10 =>
 (al P 43 r10.2).bind fun r11 =>
 (al P 43 r11.2).bind fun r12 =>
 (st P 43 r11.1 r9.1 r12.2).bind fun r13 =>
 (st P 43 r12.1 r10.1 r13.2).bind fun r14 =>
 (ld P 43 r11.1 r14.2).bind fun r15 =>
 (ld P 43 r12.1 r15.2).bind fun r16 =>
 (EV P 27 #[r15.1, r16.1] r16.2).bind fun r17 =>
 (al P 43 r17.2).bind fun r18 =>
 (st P 43 r18.1 r17.1 r18.2).bind fun r19 =>
 (ld P 43 r18.1 (dw r19.2)).bind fun r21 =>
 ifP (r21.2 = (dw r19.2)) <|
 (ld P 43 r11.1 (dw r19.2)).bind fun r22 =>
 ifP (r22.2 = (dw r19.2)) <|
 (ld P 43 r12.1 (dw r19.2)).bind fun r23 =>
 ifP (r23.2 = (dw r19.2)) <|
 (EV P 28 #[r22.1, r23.1] (dw r19.2)).bind fun r24 =>
 ifP (True ∧ True ∧ ld P 43 r18.1 r24.2 = some (r21.1, r24.2) ∧ True) <|
 (EV P 15 #[r21.1, r24.1] r24.2).bind fun r25 =>
 ifP (True ∧ True ∧ True ∧ True) <|
 (uo P .not r25.1 r25.2).bind fun r26 =>
 ifP (r26.2 = r25.2) <|
 (vl r26.1 r25.2).bind fun r27 =>
 ifP (r27.2 = r25.2) <|
 (gif r27.1 false (ld P 43 r11.1 r25.2) r25.2).bind fun r28 =>
 ifP (r28.2 = r25.2) <|
 (gif r27.1 false (EV P 22 #[r28.1] r25.2) r25.2).bind fun r29 =>
 ifP (True ∧ True ∧ True ∧ True ∧ True ∧ True) <|
 (gif r27.1 false (uo P .not r29.1 r29.2) r29.2).bind fun r30 =>
 ifP (r30.2 = r29.2) <|
 (pickV r27.1 (.bool true) r30.1 r29.2).bind fun r31 =>
 ifP (r31.2 = r29.2) <|
 (vl r31.1 r29.2).bind fun r32 =>
 ifP (r32.2 = r29.2) <|
 (gif r32.1 false (ld P 43 r12.1 r29.2) r29.2).bind fun r33 =>
 ifP (r33.2 = r29.2) <|
 (gif r32.1 false (EV P 22 #[r33.1] r29.2) r29.2).bind fun r34 =>
 ifP (True ∧ True ∧ True ∧ True ∧ True ∧ True ∧ True ∧ True) <|
 (gif r32.1 false (uo P .not r34.1 r34.2) r34.2).bind fun r35 =>
 ifP (r35.2 = r34.2) <|
 (pickV r32.1 (.bool true) r35.1 r34.2).bind fun r36 =>
 ifP (r36.2 = r34.2) <|
 cnd r36.1 (
 (ld P 43 r18.1 (dw r34.2)).bind fun r38 =>
 ifP (r38.2 = (dw r34.2)) <|
 (ld P 43 r11.1 (dw r34.2)).bind fun r39 =>
 ifP (r39.2 = (dw r34.2)) <|
 (ld P 43 r12.1 (dw r34.2)).bind fun r40 =>
 ifP (r40.2 = (dw r34.2)) <|
 (EV P 28 #[r39.1, r40.1] (dw r34.2)).bind fun r41 =>
 ifP (True ∧ True ∧ ld P 43 r18.1 r41.2 = some (r38.1, r41.2) ∧ True) <|
 (EV P 15 #[r38.1, r41.1] r41.2).bind fun r42 =>
 ifP (True ∧ True ∧ True ∧ True) <|
 (vl r42.1 r42.2).bind fun r43 =>
 ifP (r43.2 = r42.2) <|
 some (r43.1, r42.2)) (
 (ld P 43 r18.1 (dw r34.2)).bind fun r45 =>
 ifP (r45.2 = (dw r34.2)) <|
 (EV P 22 #[r45.1] (dw r34.2)).bind fun r46 =>
 ifP (True ∧ True) <|
 (vl r46.1 r46.2).bind fun r47 =>
 ifP (r47.2 = r46.2) <|
 (gif r47.1 true (ld P 43 r18.1 r46.2) r46.2).bind fun r48 =>
 ifP (r48.2 = r46.2) <|
 (gif r47.1 true (ld P 43 r11.1 r46.2) r46.2).bind fun r49 =>
 ifP (r49.2 = r46.2) <|
 (gif r47.1 true (ld P 43 r12.1 r46.2) r46.2).bind fun r50 =>
 ifP (r50.2 = r46.2) <|
 (gif r47.1 true (EV P 24 #[r48.1] r46.2) r46.2).bind fun r51 =>
 ifP (gif r47.1 true (ld P 43 r12.1 r51.2) r51.2 = some (r50.1, r51.2) ∧ gif r47.1 true (ld P 43 r11.1 r51.2) r51.2 = some (r49.1, r51.2) ∧ True ∧ True ∧ True) <|
 (gif r47.1 true (EV P 24 #[r49.1] r51.2) r51.2).bind fun r52 =>
 ifP (gif r47.1 true (ld P 43 r12.1 r52.2) r52.2 = some (r50.1, r52.2) ∧ True ∧ True ∧ True ∧ True) <|
 (gif r47.1 true (EV P 24 #[r50.1] r52.2) r52.2).bind fun r53 =>
 ifP (True ∧ True ∧ True ∧ True ∧ True) <|
 (gif r47.1 true (EV P 30 #[r52.1, r53.1] r53.2) r53.2).bind fun r54 =>
 ifP (True ∧ True ∧ True ∧ True ∧ True) <|
 (gif r47.1 true (EV P 29 #[r51.1, r54.1] r54.2) r54.2).bind fun r55 =>
 ifP (True ∧ True ∧ True ∧ True ∧ True) <|
 (pickV r47.1 r55.1 (.bool false) r55.2).bind fun r56 =>
 ifP (r56.2 = r55.2) <|
 (vl r56.1 r55.2).bind fun r57 =>
 ifP (r57.2 = r55.2) <|
 (gif r57.1 true (ld P 43 r11.1 r55.2) r55.2).bind fun r58 =>
 ifP (r58.2 = r55.2) <|
 (gif r57.1 true (ld P 43 r11.1 r55.2) r55.2).bind fun r59 =>
 ifP (r59.2 = r55.2) <|
 (gif r57.1 true (ld P 43 r11.1 r55.2) r55.2).bind fun r60 =>
 ifP (r60.2 = r55.2) <|
 (gif r57.1 true (EV P 27 #[r58.1, r59.1] r55.2) r55.2).bind fun r61 =>
 ifP (gif r57.1 true (ld P 43 r11.1 r61.2) r61.2 = some (r60.1, r61.2) ∧ True ∧ True ∧ True ∧ True ∧ True ∧ True ∧ True) <|
 (gif r57.1 true (EV P 15 #[r61.1, r60.1] r61.2) r61.2).bind fun r62 =>
 ifP (True ∧ True ∧ True ∧ True ∧ True ∧ True ∧ True ∧ True) <|
 (pickV r57.1 r62.1 (.bool false) r62.2).bind fun r63 =>
 ifP (r63.2 = r62.2) <|
 (vl r63.1 r62.2).bind fun r64 =>
 ifP (r64.2 = r62.2) <|
 (gif r64.1 true (ld P 43 r11.1 r62.2) r62.2).bind fun r65 =>
 ifP (r65.2 = r62.2) <|
 (gif r64.1 true (ld P 43 r11.1 r62.2) r62.2).bind fun r66 =>
 ifP (r66.2 = r62.2) <|
 (gif r64.1 true (EV P 31 #[] r62.2) r62.2).bind fun r67 =>
 ifP (gif r64.1 true (ld P 43 r11.1 r67.2) r67.2 = some (r66.1, r67.2) ∧ gif r64.1 true (ld P 43 r11.1 r67.2) r67.2 = some (r65.1, r67.2) ∧ True ∧ True ∧ True ∧ True ∧ True ∧ True ∧ True ∧ True) <|
 (gif r64.1 true (EV P 27 #[r65.1, r67.1] r67.2) r67.2).bind fun r68 =>
 ifP (gif r64.1 true (ld P 43 r11.1 r68.2) r68.2 = some (r66.1, r68.2) ∧ True ∧ True ∧ True ∧ True ∧ True ∧ True ∧ True ∧ True ∧ True) <|
 (gif r64.1 true (EV P 15 #[r68.1, r66.1] r68.2) r68.2).bind fun r69 =>
 ifP (True ∧ True ∧ True ∧ True ∧ True ∧ True ∧ True ∧ True ∧ True ∧ True) <|
 (pickV r64.1 r69.1 (.bool false) r69.2).bind fun r70 =>
 ifP (r70.2 = r69.2) <|
 (vl r70.1 r69.2).bind fun r71 =>
 ifP (r71.2 = r69.2) <|
 some (r71.1, r69.2))) := by kernel_rfl
theorem impl_VerOk_fn (x0 : Value) (w : World) : fnC P (EV P) 14 #[x0] w =
 (bx P 32 x0 w).bind fun r1 =>
 (vl (.bool false) r1.2).bind fun r2 =>
 (ld P 32 r1.1 (dw r2.2)).bind fun r4 =>
 ifP (r4.2 = (dw r2.2)) <|
 (EV P 55 #[r4.1] (dw r2.2)).bind fun r5 =>
 ifP (True ∧ True) <|
 (vl r5.1 r5.2).bind fun r6 =>
 ifP (r6.2 = r5.2) <|
 (gif r6.1 true (fa P 32 r1.1 1 r5.2) r5.2).bind fun r7 =>
 ifP (r7.2 = r5.2) <|
 (gif r6.1 true (ld P 27 r7.1 r5.2) r5.2).bind fun r8 =>
 ifP (r8.2 = r5.2) <|
 (gif r6.1 true (EV P 56 #[r8.1] r5.2) r5.2).bind fun r9 =>
 ifP (True ∧ True ∧ True ∧ True) <|
 (pickV r6.1 r9.1 (.bool false) r9.2).bind fun r10 =>
 ifP (r10.2 = r9.2) <|
 (vl r10.1 r9.2).bind fun r11 =>
 ifP (r11.2 = r9.2) <|
 (gif r11.1 true (fa P 32 r1.1 1 r9.2) r9.2).bind fun r12 =>
 ifP (r12.2 = r9.2) <|
 (gif r11.1 true (fa P 27 r12.1 0 r9.2) r9.2).bind fun r13 =>
 ifP (r13.2 = r9.2) <|
 (gif r11.1 true (ld P 3 r13.1 r9.2) r9.2).bind fun r14 =>
 ifP (r14.2 = r9.2) <|
 (gif r11.1 true (fa P 32 r1.1 2 r9.2) r9.2).bind fun r15 =>
 ifP (r15.2 = r9.2) <|
 (gif r11.1 true (ld P 30 r15.1 r9.2) r9.2).bind fun r16 =>
 ifP (r16.2 = r9.2) <|
 (gif r11.1 true (EV P 57 #[r16.1] r9.2) r9.2).bind fun r17 =>
 ifP (True ∧ True ∧ gif r11.1 true (ld P 3 r13.1 r17.2) r17.2 = some (r14.1, r17.2) ∧ gif r11.1 true (fa P 27 r12.1 0 r17.2) r17.2 = some (r13.1, r17.2) ∧ gif r11.1 true (fa P 32 r1.1 1 r17.2) r17.2 = some (r12.1, r17.2) ∧ True ∧ True ∧ True ∧ True) <|
 (gif r11.1 true (bo P .gtr 3 (.tmp 13) (.tmp 16) r14.1 r17.1 r17.2) r17.2).bind fun r18 =>
 ifP (r18.2 = r17.2) <|
 (pickV r11.1 r18.1 (.bool false) r17.2).bind fun r19 =>
 ifP (r19.2 = r17.2) <|
 (vl r19.1 r17.2).bind fun r20 =>
 ifP (r20.2 = r17.2) <|
 some (r20.1, r17.2) := by kernel_rfl
noncomputable def laws_cfStore_l1 (e : Env) (w : World) : Option (Value × World) := exC P (EV P) 15 32 (.loop (cA (cA (cB (cA (cB (cB (bodyOf P 15)))))))) e w (kBlock 0 (kSeq P (EV P) 15 32 (cB (cB (cB (bodyOf P 15)))) (kFn P (fnOf P 15))))
theorem laws_cfStore_l1_eq (e : Env) (w : World) : laws_cfStore_l1 e w =
 (vl (e 5) w).bind fun r1 =>
 (fa P 43 (e 2) 0 r1.2).bind fun r2 =>
 (ld P 41 r2.1 r2.2).bind fun r3 =>
 (b_len P #[41] 3 #[r3.1] r3.2).bind fun r4 =>
 (bo P .lss 3 (.tmp 13) (.tmp 16) r1.1 r4.1 r4.2).bind fun r5 =>
 cnd r5.1 (
 (fa P 43 (e 2) 0 (dw r5.2)).bind fun r7 =>
 ifP (r7.2 = (dw r5.2)) <|
 (ld P 41 r7.1 (dw r5.2)).bind fun r8 =>
 ifP (r8.2 = (dw r5.2)) <|
 (vl (e 5) (dw r5.2)).bind fun r9 =>
 ifP (r9.2 = (dw r5.2)) <|
 (ia P 41 r8.1 r9.1 (dw r5.2)).bind fun r10 =>
 ifP (r10.2 = (dw r5.2)) <|
 (ld P 32 r10.1 (dw r5.2)).bind fun r11 =>
 ifP (r11.2 = (dw r5.2)) <|
 (fa P 43 (e 3) 0 (dw r5.2)).bind fun r12 =>
 ifP (r12.2 = (dw r5.2)) <|
 (ld P 41 r12.1 (dw r5.2)).bind fun r13 =>
 ifP (r13.2 = (dw r5.2)) <|
 (vl (e 5) (dw r5.2)).bind fun r14 =>
 ifP (r14.2 = (dw r5.2)) <|
 (ia P 41 r13.1 r14.1 (dw r5.2)).bind fun r15 =>
 ifP (r15.2 = (dw r5.2)) <|
 (ld P 32 r15.1 (dw r5.2)).bind fun r16 =>
 ifP (r16.2 = (dw r5.2)) <|
 (EV P 58 #[r11.1, r16.1] (dw r5.2)).bind fun r17 =>
 ifP (True ∧ True ∧ True ∧ True ∧ True ∧ True ∧ True ∧ True ∧ True) <|
 (uo P .not r17.1 r17.2).bind fun r18 =>
 ifP (r18.2 = r17.2) <|
 cnd r18.1 (
 (vl (.bool false) r17.2).bind fun r19 =>
 some (r19.1, r19.2)) (
 (vl (e 5) r17.2).bind fun r20 =>
 (bo P .add 3 (.tmp 18) (.const (.int .i64 1)) r20.1 (.int .i64 1) r20.2).bind fun r21 =>
 (vl r21.1 r21.2).bind fun r22 =>
 laws_cfStore_l1 (ups e [(13, r1.1), (14, r2.1), (15, r3.1), (16, r4.1), (17, r5.1), (20, r7.1), (21, r8.1), (22, r9.1), (23, r10.1), (24, r11.1), (25, r12.1), (26, r13.1), (27, r14.1), (28, r15.1), (29, r16.1), (30, r17.1), (31, r18.1), (18, r20.1), (19, r21.1), (5, r22.1)]) r22.2)) (
 (vl (.bool true) r5.2).bind fun r23 =>
 some (r23.1, r23.2)) := (exC_loop P (EV P) 15 32 (cA (cA (cB (cA (cB (cB (bodyOf P 15))))))) e w (kBlock 0 (kSeq P (EV P) 15 32 (cB (cB (cB (bodyOf P 15)))) (kFn P (fnOf P 15))))).trans (by kernel_rfl)
theorem laws_cfStore_fn (x0 x1 : Value) (w : World) : fnC P (EV P) 15 #[x0, x1] w =
 (bx P 43 x0 w).bind fun r1 =>
 (bx P 43 x1 r1.2).bind fun r2 =>
 (vl (.bool false) r2.2).bind fun r3 =>
 (fa P 43 r1.1 0 r3.2).bind fun r4 =>
 (ld P 41 r4.1 r4.2).bind fun r5 =>
 (b_len P #[41] 3 #[r5.1] r5.2).bind fun r6 =>
 (fa P 43 r2.1 0 r6.2).bind fun r7 =>
 (ld P 41 r7.1 r7.2).bind fun r8 =>
 (b_len P #[41] 3 #[r8.1] r8.2).bind fun r9 =>
 (bo P .neq 3 (.tmp 8) (.tmp 11) r6.1 r9.1 r9.2).bind fun r10 =>
 cnd r10.1 (
 (vl (.bool false) r10.2).bind fun r11 =>
 some (r11.1, r11.2)) (
 (vl (.int .i64 0) r10.2).bind fun r12 =>
 laws_cfStore_l1 (ups (env0 #[x0, x1]) [(2, r1.1), (3, r2.1), (4, r3.1), (6, r4.1), (7, r5.1), (8, r6.1), (9, r7.1), (10, r8.1), (11, r9.1), (12, r10.1), (5, r12.1)]) r12.2) := by kernel_rfl
noncomputable def impl_StoreOk_l1 (e : Env) (w : World) : Option (Value × World) := exC P (EV P) 22 33 (.loop (cA (cA (cB (cA (cB (bodyOf P 22))))))) e w (kBlock 0 (kSeq P (EV P) 22 33 (cB (cB (bodyOf P 22))) (kFn P (fnOf P 22))))
theorem impl_StoreOk_l1_eq (e : Env) (w : World) : impl_StoreOk_l1 e w =
 (bo P .lss 3 (.tmp 8) (.tmp 7) (e 8) (e 7) w).bind fun r1 =>
 cnd r1.1 (
 (vl (e 8) r1.2).bind fun r2 =>
 (ia P 41 (e 6) (e 8) r2.2).bind fun r3 =>
 (ld P 32 r3.1 r3.2).bind fun r4 =>
 (al P 32 r4.2).bind fun r5 =>
 (vl r2.1 r5.2).bind fun r6 =>
 (st P 32 r5.1 r4.1 r6.2).bind fun r7 =>
 (ld P 32 r5.1 r7.2).bind fun r8 =>
 (bd P 32 #[] r8.2).bind fun r9 =>
 (EV P 71 #[r8.1, r9.1] r9.2).bind fun r10 =>
 (uo P .not r10.1 r10.2).bind fun r11 =>
 (vl r11.1 r11.2).bind fun r12 =>
 (gif r12.1 true (ld P 32 r5.1 r12.2) r12.2).bind fun r13 =>
 (gif r12.1 true (EV P 14 #[r13.1] r13.2) r13.2).bind fun r14 =>
 (gif r12.1 true (uo P .not r14.1 r14.2) r14.2).bind fun r15 =>
 (gif r12.1 true (vl r15.1 r15.2) r15.2).bind fun r16 =>
 (gif r16.1 false (fa P 32 r5.1 0 r16.2) r16.2).bind fun r17 =>
 (gif r16.1 false (ld P 3 r17.1 r17.2) r17.2).bind fun r18 =>
 (gif r16.1 false (vl r6.1 r18.2) r18.2).bind fun r19 =>
 (gif r16.1 false (bo P .neq 3 (.tmp 23) (.tmp 24) r18.1 r19.1 r19.2) r19.2).bind fun r20 =>
 (gif r12.1 true (pickV r16.1 (.bool true) r20.1 r20.2) r20.2).bind fun r21 =>
 (pickV r12.1 r21.1 (.bool false) r21.2).bind fun r22 =>
 cnd r22.1 (
 (vl (.bool false) r22.2).bind fun r23 =>
 some (r23.1, r23.2)) (
 (bo P .add 3 (.tmp 8) (.const (.int .i64 1)) (e 8) (.int .i64 1) r22.2).bind fun r24 =>
 (vl r24.1 r24.2).bind fun r25 =>
 impl_StoreOk_l1 (ups e [(9, r1.1), (10, r2.1), (11, r3.1), (12, r4.1), (4, r5.1), (3, r6.1), (13, r8.1), (14, r9.1), (15, r10.1), (16, r11.1), (17, r12.1), (18, r13.1), (19, r14.1), (20, r15.1), (21, r16.1), (22, r17.1), (23, r18.1), (24, r19.1), (25, r20.1), (26, r21.1), (27, r22.1), (28, r24.1), (8, r25.1)]) r25.2)) (
 (fa P 43 (e 1) 0 r1.2).bind fun r26 =>
 (ld P 41 r26.1 r26.2).bind fun r27 =>
 (b_len P #[41] 3 #[r27.1] r27.2).bind fun r28 =>
 (bo P .eql 3 (.tmp 31) (.const (.int .i64 4)) r28.1 (.int .i64 4) r28.2).bind fun r29 =>
 (vl r29.1 r29.2).bind fun r30 =>
 some (r30.1, r30.2)) := (exC_loop P (EV P) 22 33 (cA (cA (cB (cA (cB (bodyOf P 22)))))) e w (kBlock 0 (kSeq P (EV P) 22 33 (cB (cB (bodyOf P 22))) (kFn P (fnOf P 22))))).trans (by kernel_rfl)
theorem impl_StoreOk_fn (x0 : Value) (w : World) : fnC P (EV P) 22 #[x0] w =
 (bx P 43 x0 w).bind fun r1 =>
 (vl (.bool false) r1.2).bind fun r2 =>
 (fa P 43 r1.1 0 r2.2).bind fun r3 =>
 (ld P 41 r3.1 r3.2).bind fun r4 =>
 (b_len P #[41] 3 #[r4.1] r4.2).bind fun r5 =>
 (vl (.int .i64 0) r5.2).bind fun r6 =>
 impl_StoreOk_l1 (ups (env0 #[x0]) [(1, r1.1), (2, r2.1), (5, r3.1), (6, r4.1), (7, r5.1), (8, r6.1)]) r6.2 := by kernel_rfl
theorem impl_StoreTags_fn (x0 : Value) (w : World) : fnC P (EV P) 24 #[x0] w =
 (bx P 43 x0 w).bind fun r1 =>
 (al P 30 r1.2).bind fun r2 =>
 (ld P 43 r1.1 r2.2).bind fun r3 =>
 (EV P 22 #[r3.1] r3.2).bind fun r4 =>
 (uo P .not r4.1 r4.2).bind fun r5 =>
 cnd r5.1 (
 (bd P 30 #[] r5.2).bind fun r6 =>
 (st P 30 r2.1 r6.1 r6.2).bind fun r7 =>
 ((ld P 30 r2.1 r7.2).bind fun r8 => ifP (r8.2 = r7.2) (some r8.1)).bind fun v9 =>
 some (v9, r7.2)) (
 (ld P 43 r1.1 r5.2).bind fun r10 =>
 (EV P 72 #[r10.1] r10.2).bind fun r11 =>
 (st P 30 r2.1 r11.1 r11.2).bind fun r12 =>
 ((ld P 30 r2.1 r12.2).bind fun r13 => ifP (r13.2 = r12.2) (some r13.1)).bind fun v14 =>
 some (v14, r12.2)) := by kernel_rfl
theorem impl_TagMax_fn (x0 x1 : Value) (w : World) : fnC P (EV P) 25 #[x0, x1] w =
 (bx P 27 x0 w).bind fun r1 =>
 (bx P 27 x1 r1.2).bind fun r2 =>
 (al P 27 r2.2).bind fun r3 =>
 (ld P 27 r1.1 r3.2).bind fun r4 =>
 (ld P 27 r2.1 r4.2).bind fun r5 =>
 (EV P 73 #[r4.1, r5.1] r5.2).bind fun r6 =>
 cnd r6.1 (
 (ld P 27 r2.1 r6.2).bind fun r7 =>
 (st P 27 r3.1 r7.1 r7.2).bind fun r8 =>
 ((ld P 27 r3.1 r8.2).bind fun r9 => ifP (r9.2 = r8.2) (some r9.1)).bind fun v10 =>
 some (v10, r8.2)) (
 (ld P 27 r1.1 r6.2).bind fun r11 =>
 (st P 27 r3.1 r11.1 r11.2).bind fun r12 =>
 ((ld P 27 r3.1 r12.2).bind fun r13 => ifP (r13.2 = r12.2) (some r13.1)).bind fun v14 =>
 some (v14, r12.2)) := by kernel_rfl
end Go.Proofs.Ytjagkbamkohnoaa.X
