/- A part of the proof: an evaluator of the model, its laws, and contracts of functions; no condition. -/
import Derived.Test.YtjagkbamkohnoaaEvT
set_option linter.unusedVariables false
set_option maxRecDepth 100000
namespace Go.Proofs.Ytjagkbamkohnoaa.X
open Go Go.Ev
noncomputable def laws_FnStoreAdd_a1 (e : Env) (w : World) : Option (Value × World) := exC P (EV P) 5 151 (cA (cB (cB (cB (cB (cB (cB (cB (cB (bodyOf P 5)))))))))) e w (kSeq P (EV P) 5 151 (cB (cB (cB (cB (cB (cB (cB (cB (cB (bodyOf P 5)))))))))) (kFn P (fnOf P 5)))
noncomputable def laws_FnStoreAdd_j1 (e : Env) (w : World) : Option (Value × World) := exC P (EV P) 5 151 (cB (cB (cB (cB (cB (cB (cB (cB (cB (bodyOf P 5)))))))))) e w (kFn P (fnOf P 5))
theorem laws_FnStoreAdd_a1_any (e : Env) (w : World) {Q : Value × World → Prop} (h :
 (Ret (ld P 43 (e 5) (dw w)) fun r1 => r1.2 = (dw w) ∧
 (Ret (ld P 32 (e 8) (dw w)) fun r2 => r2.2 = (dw w) ∧
 (Ret (ld P 32 (e 6) (dw w)) fun r3 => r3.2 = (dw w) ∧
 ((Ret (EV P 16 #[r1.1, r2.1] (dw w)) fun r4 => (ld P 32 (e 6) r4.2 = some (r3.1, r4.2) ∧ True ∧ True ∧ True) ∧
 ((Ret (EV P 16 #[r4.1, r3.1] r4.2) fun r5 => (True ∧ True ∧ True ∧ True) ∧
 ((Ret (al P 43 r5.2) fun r6 => (ld P 32 (e 6) r6.2 = some (r3.1, r6.2) ∧ ld P 32 (e 8) r6.2 = some (r2.1, r6.2) ∧ ld P 43 (e 5) r6.2 = some (r1.1, r6.2) ∧ True) ∧
 ((Ret (st P 43 r6.1 r5.1 r6.2) fun r7 => (True ∧ True ∧ True ∧ True) ∧
 Ret (laws_FnStoreAdd_j1 (ups e [(80, r1.1), (81, r2.1), (83, r3.1), (82, r4.1), (84, r5.1), (12, r6.1)]) r7.2) Q))))) ∧
 (Ret (al P 43 r4.2) fun r8 => (ld P 32 (e 6) r8.2 = some (r3.1, r8.2) ∧ ld P 32 (e 8) r8.2 = some (r2.1, r8.2) ∧ ld P 43 (e 5) r8.2 = some (r1.1, r8.2) ∧ True) ∧
 ((Ret (EV P 16 #[r4.1, r3.1] r8.2) fun r9 => (True ∧ True ∧ True ∧ True) ∧
 ((Ret (st P 43 r8.1 r9.1 r9.2) fun r10 => (True ∧ True ∧ True ∧ True) ∧
 Ret (laws_FnStoreAdd_j1 (ups e [(80, r1.1), (81, r2.1), (83, r3.1), (82, r4.1), (12, r8.1), (84, r9.1)]) r10.2) Q))))))) ∧
 (Ret (al P 43 (dw w)) fun r11 => (ld P 32 (e 6) r11.2 = some (r3.1, r11.2) ∧ ld P 32 (e 8) r11.2 = some (r2.1, r11.2) ∧ ld P 43 (e 5) r11.2 = some (r1.1, r11.2) ∧ True) ∧
 ((Ret (EV P 16 #[r1.1, r2.1] r11.2) fun r12 => (ld P 32 (e 6) r12.2 = some (r3.1, r12.2) ∧ True ∧ True ∧ True) ∧
 ((Ret (EV P 16 #[r12.1, r3.1] r12.2) fun r13 => (True ∧ True ∧ True ∧ True) ∧
 ((Ret (st P 43 r11.1 r13.1 r13.2) fun r14 => (True ∧ True ∧ True ∧ True) ∧
 Ret (laws_FnStoreAdd_j1 (ups e [(80, r1.1), (81, r2.1), (83, r3.1), (12, r11.1), (82, r12.1), (84, r13.1)]) r14.2) Q)))))))))))) : Ret (laws_FnStoreAdd_a1 e w) Q := exC_any (id := 10) (ops := opsOf (cA (cB (cB (cB (cB (cB (cB (cB (cB (bodyOf P 5))))))))))) (by kernel_rfl) (by kernel_rfl) (Eq.mpr (by kernel_rfl) h)
theorem laws_FnStoreAdd_j1_eq (e : Env) (w : World) : laws_FnStoreAdd_j1 e w =
 (fa P 32 (e 6) 1 (dw w)).bind fun r2 =>
 ifP (r2.2 = (dw w)) <|
 (ld P 27 r2.1 (dw w)).bind fun r3 =>
 ifP (r3.2 = (dw w)) <|
 (fa P 32 (e 8) 1 (dw w)).bind fun r4 =>
 ifP (r4.2 = (dw w)) <|
 (ld P 27 r4.1 (dw w)).bind fun r5 =>
 ifP (r5.2 = (dw w)) <|
 (bo P .neq 27 (.tmp 86) (.tmp 88) r3.1 r5.1 (dw w)).bind fun r6 =>
 ifP (r6.2 = (dw w)) <|
 (vl r6.1 (dw w)).bind fun r7 =>
 ifP (r7.2 = (dw w)) <|
 (gif r7.1 true (fa P 32 (e 6) 1 (dw w)) (dw w)).bind fun r8 =>
 ifP (r8.2 = (dw w)) <|
 (gif r7.1 true (ld P 27 r8.1 (dw w)) (dw w)).bind fun r9 =>
 ifP (r9.2 = (dw w)) <|
 (gif r7.1 true (fa P 43 (e 5) 0 (dw w)) (dw w)).bind fun r10 =>
 ifP (r10.2 = (dw w)) <|
 (gif r7.1 true (ld P 41 r10.1 (dw w)) (dw w)).bind fun r11 =>
 ifP (r11.2 = (dw w)) <|
 (gif r7.1 true (fa P 32 (e 6) 0 (dw w)) (dw w)).bind fun r12 =>
 ifP (r12.2 = (dw w)) <|
 (gif r7.1 true (ld P 3 r12.1 (dw w)) (dw w)).bind fun r13 =>
 ifP (r13.2 = (dw w)) <|
 (gif r7.1 true (ia P 41 r11.1 r13.1 (dw w)) (dw w)).bind fun r14 =>
 ifP (r14.2 = (dw w)) <|
 (gif r7.1 true (fa P 32 r14.1 1 (dw w)) (dw w)).bind fun r15 =>
 ifP (r15.2 = (dw w)) <|
 (gif r7.1 true (ld P 27 r15.1 (dw w)) (dw w)).bind fun r16 =>
 ifP (r16.2 = (dw w)) <|
 (gif r7.1 true (bo P .neq 27 (.tmp 92) (.tmp 99) r9.1 r16.1 (dw w)) (dw w)).bind fun r17 =>
 ifP (r17.2 = (dw w)) <|
 (pickV r7.1 r17.1 (.bool false) (dw w)).bind fun r18 =>
 ifP (r18.2 = (dw w)) <|
 (vl r18.1 (dw w)).bind fun r19 =>
 ifP (r19.2 = (dw w)) <|
 (gif r19.1 true (fa P 32 (e 8) 1 (dw w)) (dw w)).bind fun r20 =>
 ifP (r20.2 = (dw w)) <|
 (gif r19.1 true (ld P 27 r20.1 (dw w)) (dw w)).bind fun r21 =>
 ifP (r21.2 = (dw w)) <|
 (gif r19.1 true (fa P 43 (e 5) 0 (dw w)) (dw w)).bind fun r22 =>
 ifP (r22.2 = (dw w)) <|
 (gif r19.1 true (ld P 41 r22.1 (dw w)) (dw w)).bind fun r23 =>
 ifP (r23.2 = (dw w)) <|
 (gif r19.1 true (fa P 32 (e 8) 0 (dw w)) (dw w)).bind fun r24 =>
 ifP (r24.2 = (dw w)) <|
 (gif r19.1 true (ld P 3 r24.1 (dw w)) (dw w)).bind fun r25 =>
 ifP (r25.2 = (dw w)) <|
 (gif r19.1 true (ia P 41 r23.1 r25.1 (dw w)) (dw w)).bind fun r26 =>
 ifP (r26.2 = (dw w)) <|
 (gif r19.1 true (fa P 32 r26.1 1 (dw w)) (dw w)).bind fun r27 =>
 ifP (r27.2 = (dw w)) <|
 (gif r19.1 true (ld P 27 r27.1 (dw w)) (dw w)).bind fun r28 =>
 ifP (r28.2 = (dw w)) <|
 (gif r19.1 true (bo P .neq 27 (.tmp 104) (.tmp 111) r21.1 r28.1 (dw w)) (dw w)).bind fun r29 =>
 ifP (r29.2 = (dw w)) <|
 (pickV r19.1 r29.1 (.bool false) (dw w)).bind fun r30 =>
 ifP (r30.2 = (dw w)) <|
 (vl r30.1 (dw w)).bind fun r31 =>
 ifP (r31.2 = (dw w)) <|
 (ld P 43 (e 9) (dw (dw w))).bind fun r33 =>
 ifP (r33.2 = (dw (dw w))) <|
 (EV P 22 #[r33.1] (dw (dw w))).bind fun r34 =>
 ifP (True ∧ True) <|
 (vl r34.1 r34.2).bind fun r35 =>
 ifP (r35.2 = r34.2) <|
 (gif r35.1 true (fa P 30 (e 10) 0 r34.2) r34.2).bind fun r36 =>
 ifP (r36.2 = r34.2) <|
 (gif r35.1 true (ld P 28 r36.1 r34.2) r34.2).bind fun r37 =>
 ifP (r37.2 = r34.2) <|
 (gif r35.1 true (fa P 32 (e 6) 0 r34.2) r34.2).bind fun r38 =>
 ifP (r38.2 = r34.2) <|
 (gif r35.1 true (ld P 3 r38.1 r34.2) r34.2).bind fun r39 =>
 ifP (r39.2 = r34.2) <|
 (gif r35.1 true (ia P 28 r37.1 r39.1 r34.2) r34.2).bind fun r40 =>
 ifP (r40.2 = r34.2) <|
 (gif r35.1 true (ld P 27 r40.1 r34.2) r34.2).bind fun r41 =>
 ifP (r41.2 = r34.2) <|
 (gif r35.1 true (fa P 43 (e 5) 0 r34.2) r34.2).bind fun r42 =>
 ifP (r42.2 = r34.2) <|
 (gif r35.1 true (ld P 41 r42.1 r34.2) r34.2).bind fun r43 =>
 ifP (r43.2 = r34.2) <|
 (gif r35.1 true (fa P 32 (e 6) 0 r34.2) r34.2).bind fun r44 =>
 ifP (r44.2 = r34.2) <|
 (gif r35.1 true (ld P 3 r44.1 r34.2) r34.2).bind fun r45 =>
 ifP (r45.2 = r34.2) <|
 (gif r35.1 true (ia P 41 r43.1 r45.1 r34.2) r34.2).bind fun r46 =>
 ifP (r46.2 = r34.2) <|
 (gif r35.1 true (fa P 32 r46.1 1 r34.2) r34.2).bind fun r47 =>
 ifP (r47.2 = r34.2) <|
 (gif r35.1 true (ld P 27 r47.1 r34.2) r34.2).bind fun r48 =>
 ifP (r48.2 = r34.2) <|
 (gif r35.1 true (fa P 32 (e 6) 1 r34.2) r34.2).bind fun r49 =>
 ifP (r49.2 = r34.2) <|
 (gif r35.1 true (ld P 27 r49.1 r34.2) r34.2).bind fun r50 =>
 ifP (r50.2 = r34.2) <|
 (gif r35.1 true (EV P 25 #[r48.1, r50.1] r34.2) r34.2).bind fun r51 =>
 ifP (True ∧ True ∧ True ∧ True ∧ True ∧ True ∧ True ∧ True ∧ True ∧ gif r35.1 true (ld P 27 r40.1 r51.2) r51.2 = some (r41.1, r51.2) ∧ gif r35.1 true (ia P 28 r37.1 r39.1 r51.2) r51.2 = some (r40.1, r51.2) ∧ gif r35.1 true (ld P 3 r38.1 r51.2) r51.2 = some (r39.1, r51.2) ∧ gif r35.1 true (fa P 32 (e 6) 0 r51.2) r51.2 = some (r38.1, r51.2) ∧ gif r35.1 true (ld P 28 r36.1 r51.2) r51.2 = some (r37.1, r51.2) ∧ gif r35.1 true (fa P 30 (e 10) 0 r51.2) r51.2 = some (r36.1, r51.2) ∧ True ∧ True) <|
 (gif r35.1 true (bo P .eql 27 (.tmp 122) (.tmp 132) r41.1 r51.1 r51.2) r51.2).bind fun r52 =>
 ifP (r52.2 = r51.2) <|
 (pickV r35.1 r52.1 (.bool false) r51.2).bind fun r53 =>
 ifP (r53.2 = r51.2) <|
 (vl r53.1 r51.2).bind fun r54 =>
 ifP (r54.2 = r51.2) <|
 (gif r54.1 true (ld P 43 (e 9) r51.2) r51.2).bind fun r55 =>
 ifP (r55.2 = r51.2) <|
 (gif r54.1 true (ld P 32 (e 6) r51.2) r51.2).bind fun r56 =>
 ifP (r56.2 = r51.2) <|
 (gif r54.1 true (ld P 43 (e 9) r51.2) r51.2).bind fun r57 =>
 ifP (r57.2 = r51.2) <|
 (gif r54.1 true (EV P 16 #[r55.1, r56.1] r51.2) r51.2).bind fun r58 =>
 ifP (gif r54.1 true (ld P 43 (e 9) r58.2) r58.2 = some (r57.1, r58.2) ∧ True ∧ True ∧ True ∧ True ∧ True ∧ True ∧ True ∧ True ∧ True ∧ True ∧ True ∧ True ∧ True ∧ True ∧ True ∧ True ∧ True ∧ True ∧ True ∧ True) <|
 (gif r54.1 true (EV P 15 #[r58.1, r57.1] r58.2) r58.2).bind fun r59 =>
 ifP (True ∧ True ∧ True ∧ True ∧ True ∧ True ∧ True ∧ True ∧ True ∧ True ∧ True ∧ True ∧ True ∧ True ∧ True ∧ True ∧ True ∧ True ∧ True ∧ True ∧ True) <|
 (pickV r54.1 r59.1 (.bool false) r59.2).bind fun r60 =>
 ifP (r60.2 = r59.2) <|
 (vl r60.1 r59.2).bind fun r61 =>
 ifP (r61.2 = r59.2) <|
 (gif r61.1 true (vl r31.1 r59.2) r59.2).bind fun r62 =>
 ifP (r62.2 = r59.2) <|
 (gif r61.1 true (uo P .not r62.1 r59.2) r59.2).bind fun r63 =>
 ifP (r63.2 = r59.2) <|
 (gif r61.1 true (vl r63.1 r59.2) r59.2).bind fun r64 =>
 ifP (r64.2 = r59.2) <|
 (gif r64.1 false (ld P 43 (e 11) r59.2) r59.2).bind fun r65 =>
 ifP (r65.2 = r59.2) <|
 (gif r64.1 false (ld P 43 (e 12) r59.2) r59.2).bind fun r66 =>
 ifP (r66.2 = r59.2) <|
 (gif r64.1 false (EV P 15 #[r65.1, r66.1] r59.2) r59.2).bind fun r67 =>
 ifP (True ∧ True ∧ True ∧ True ∧ True ∧ True ∧ True ∧ True ∧ True ∧ True ∧ True ∧ True ∧ True ∧ True ∧ True ∧ True ∧ True ∧ True ∧ True ∧ True ∧ True ∧ True ∧ True ∧ True) <|
 (gif r61.1 true (pickV r64.1 (.bool true) r67.1 r67.2) r67.2).bind fun r68 =>
 ifP (r68.2 = r67.2) <|
 (pickV r61.1 r68.1 (.bool false) r67.2).bind fun r69 =>
 ifP (r69.2 = r67.2) <|
 (vl r69.1 r67.2).bind fun r70 =>
 ifP (r70.2 = r67.2) <|
 some (r70.1, r67.2) := by kernel_rfl
theorem laws_FnStoreAdd_fn (x0 x1 : Value) (w : World) : fnC P (EV P) 5 #[x0, x1] w =
 (vl (.bool false) w).bind fun r1 =>
 (vl x0 r1.2).bind fun r2 =>
 (b_len P #[22] 3 #[r2.1] r2.2).bind fun r3 =>
 (bo P .gtr 3 (.tmp 15) (.const (.int .i64 1048576)) r3.1 (.int .i64 1048576) r3.2).bind fun r4 =>
 (vl r4.1 r4.2).bind fun r5 =>
 (gif r5.1 false (vl x1 r5.2) r5.2).bind fun r6 =>
 (gif r5.1 false (b_len P #[22] 3 #[r6.1] r6.2) r6.2).bind fun r7 =>
 (gif r5.1 false (bo P .gtr 3 (.tmp 19) (.const (.int .i64 1048576)) r7.1 (.int .i64 1048576) r7.2) r7.2).bind fun r8 =>
 (pickV r5.1 (.bool true) r8.1 r8.2).bind fun r9 =>
 cnd r9.1 (
 (vl (.bool true) r9.2).bind fun r10 =>
 some (r10.1, r10.2)) (
 (vl x0 r9.2).bind fun r11 =>
 (EV P 20 #[r11.1] r11.2).bind fun r12 =>
 (vl r12.1 r12.2).bind fun r13 =>
 (xt P r13.1 0 r13.2).bind fun r14 =>
 (xt P r13.1 1 r14.2).bind fun r15 =>
 (al P 43 r15.2).bind fun r16 =>
 (al P 32 r16.2).bind fun r17 =>
 (st P 43 r16.1 r14.1 r17.2).bind fun r18 =>
 (st P 32 r17.1 r15.1 r18.2).bind fun r19 =>
 (vl x1 r19.2).bind fun r20 =>
 (EV P 20 #[r20.1] r20.2).bind fun r21 =>
 (vl r21.1 r21.2).bind fun r22 =>
 (xt P r22.1 0 r22.2).bind fun r23 =>
 (xt P r22.1 1 r23.2).bind fun r24 =>
 (al P 43 r24.2).bind fun r25 =>
 (al P 32 r25.2).bind fun r26 =>
 (st P 43 r25.1 r23.1 r26.2).bind fun r27 =>
 (st P 32 r26.1 r24.1 r27.2).bind fun r28 =>
 (ld P 43 r16.1 r28.2).bind fun r29 =>
 (ld P 32 r17.1 r29.2).bind fun r30 =>
 (EV P 16 #[r29.1, r30.1] r30.2).bind fun r31 =>
 (al P 43 r31.2).bind fun r32 =>
 (st P 43 r32.1 r31.1 r32.2).bind fun r33 =>
 (ld P 43 r32.1 (dw r33.2)).bind fun r35 =>
 ifP (r35.2 = (dw r33.2)) <|
 (ld P 43 r16.1 (dw r33.2)).bind fun r36 =>
 ifP (r36.2 = (dw r33.2)) <|
 (ld P 32 r17.1 (dw r33.2)).bind fun r37 =>
 ifP (r37.2 = (dw r33.2)) <|
 (EV P 21 #[r36.1, r37.1] (dw r33.2)).bind fun r38 =>
 ifP (True ∧ True ∧ ld P 43 r32.1 r38.2 = some (r35.1, r38.2) ∧ True) <|
 (EV P 15 #[r35.1, r38.1] r38.2).bind fun r39 =>
 ifP (True ∧ True ∧ True ∧ True) <|
 (uo P .not r39.1 r39.2).bind fun r40 =>
 ifP (r40.2 = r39.2) <|
 (vl r40.1 r39.2).bind fun r41 =>
 ifP (r41.2 = r39.2) <|
 (gif r41.1 false (ld P 43 r16.1 r39.2) r39.2).bind fun r42 =>
 ifP (r42.2 = r39.2) <|
 (gif r41.1 false (ld P 43 r16.1 r39.2) r39.2).bind fun r43 =>
 ifP (r43.2 = r39.2) <|
 (gif r41.1 false (EV P 22 #[r42.1] r39.2) r39.2).bind fun r44 =>
 ifP (gif r41.1 false (ld P 43 r16.1 r44.2) r44.2 = some (r43.1, r44.2) ∧ True ∧ True ∧ True ∧ True ∧ True ∧ True) <|
 (gif r41.1 false (EV P 23 #[r43.1] r44.2) r44.2).bind fun r45 =>
 ifP (True ∧ True ∧ True ∧ True ∧ True ∧ True ∧ True) <|
 (gif r41.1 false (bo P .neq 4 (.tmp 43) (.tmp 45) r44.1 r45.1 r45.2) r45.2).bind fun r46 =>
 ifP (r46.2 = r45.2) <|
 (pickV r41.1 (.bool true) r46.1 r45.2).bind fun r47 =>
 ifP (r47.2 = r45.2) <|
 (vl r47.1 r45.2).bind fun r48 =>
 ifP (r48.2 = r45.2) <|
 (gif r48.1 false (ld P 43 r16.1 r45.2) r45.2).bind fun r49 =>
 ifP (r49.2 = r45.2) <|
 (gif r48.1 false (EV P 22 #[r49.1] r45.2) r45.2).bind fun r50 =>
 ifP (True ∧ True ∧ True ∧ True ∧ True ∧ True ∧ True ∧ True ∧ True) <|
 (gif r48.1 false (uo P .not r50.1 r50.2) r50.2).bind fun r51 =>
 ifP (r51.2 = r50.2) <|
 (pickV r48.1 (.bool true) r51.1 r50.2).bind fun r52 =>
 ifP (r52.2 = r50.2) <|
 (vl r52.1 r50.2).bind fun r53 =>
 ifP (r53.2 = r50.2) <|
 (gif r53.1 false (ld P 32 r17.1 r50.2) r50.2).bind fun r54 =>
 ifP (r54.2 = r50.2) <|
 (gif r53.1 false (EV P 14 #[r54.1] r50.2) r50.2).bind fun r55 =>
 ifP (True ∧ True ∧ True ∧ True ∧ True ∧ True ∧ True ∧ True ∧ True ∧ True ∧ True) <|
 (gif r53.1 false (uo P .not r55.1 r55.2) r55.2).bind fun r56 =>
 ifP (r56.2 = r55.2) <|
 (pickV r53.1 (.bool true) r56.1 r55.2).bind fun r57 =>
 ifP (r57.2 = r55.2) <|
 (vl r57.1 r55.2).bind fun r58 =>
 ifP (r58.2 = r55.2) <|
 (gif r58.1 false (ld P 32 r26.1 r55.2) r55.2).bind fun r59 =>
 ifP (r59.2 = r55.2) <|
 (gif r58.1 false (EV P 14 #[r59.1] r55.2) r55.2).bind fun r60 =>
 ifP (True ∧ True ∧ True ∧ True ∧ True ∧ True ∧ True ∧ True ∧ True ∧ True ∧ True ∧ True ∧ True) <|
 (gif r58.1 false (uo P .not r60.1 r60.2) r60.2).bind fun r61 =>
 ifP (r61.2 = r60.2) <|
 (pickV r58.1 (.bool true) r61.1 r60.2).bind fun r62 =>
 ifP (r62.2 = r60.2) <|
 cnd r62.1 (
 (ld P 43 r32.1 (dw r60.2)).bind fun r64 =>
 ifP (r64.2 = (dw r60.2)) <|
 (ld P 43 r16.1 (dw r60.2)).bind fun r65 =>
 ifP (r65.2 = (dw r60.2)) <|
 (ld P 32 r17.1 (dw r60.2)).bind fun r66 =>
 ifP (r66.2 = (dw r60.2)) <|
 (EV P 21 #[r65.1, r66.1] (dw r60.2)).bind fun r67 =>
 ifP (True ∧ True ∧ ld P 43 r32.1 r67.2 = some (r64.1, r67.2) ∧ True) <|
 (EV P 15 #[r64.1, r67.1] r67.2).bind fun r68 =>
 ifP (True ∧ True ∧ True ∧ True) <|
 (vl r68.1 r68.2).bind fun r69 =>
 ifP (r69.2 = r68.2) <|
 (gif r69.1 true (ld P 43 r16.1 r68.2) r68.2).bind fun r70 =>
 ifP (r70.2 = r68.2) <|
 (gif r69.1 true (ld P 43 r16.1 r68.2) r68.2).bind fun r71 =>
 ifP (r71.2 = r68.2) <|
 (gif r69.1 true (EV P 22 #[r70.1] r68.2) r68.2).bind fun r72 =>
 ifP (gif r69.1 true (ld P 43 r16.1 r72.2) r72.2 = some (r71.1, r72.2) ∧ True ∧ True ∧ True ∧ True ∧ True) <|
 (gif r69.1 true (EV P 23 #[r71.1] r72.2) r72.2).bind fun r73 =>
 ifP (True ∧ True ∧ True ∧ True ∧ True ∧ True) <|
 (gif r69.1 true (bo P .eql 4 (.tmp 70) (.tmp 72) r72.1 r73.1 r73.2) r73.2).bind fun r74 =>
 ifP (r74.2 = r73.2) <|
 (pickV r69.1 r74.1 (.bool false) r73.2).bind fun r75 =>
 ifP (r75.2 = r73.2) <|
 (vl r75.1 r73.2).bind fun r76 =>
 ifP (r76.2 = r73.2) <|
 some (r76.1, r73.2)) (
 (ld P 43 r32.1 r60.2).bind fun r77 =>
 (EV P 24 #[r77.1] r77.2).bind fun r78 =>
 (al P 30 r78.2).bind fun r79 =>
 (st P 30 r79.1 r78.1 r79.2).bind fun r80 =>
 (ld P 43 r32.1 r80.2).bind fun r81 =>
 (ld P 32 r26.1 r81.2).bind fun r82 =>
 (EV P 16 #[r81.1, r82.1] r82.2).bind fun r83 =>
 (al P 43 r83.2).bind fun r84 =>
 (st P 43 r84.1 r83.1 r84.2).bind fun r85 =>
 laws_FnStoreAdd_a1 (ups (env0 #[x0, x1]) [(4, r1.1), (14, r2.1), (15, r3.1), (16, r4.1), (17, r5.1), (18, r6.1), (19, r7.1), (20, r8.1), (21, r9.1), (23, r11.1), (24, r12.1), (22, r13.1), (25, r14.1), (26, r15.1), (5, r16.1), (6, r17.1), (28, r20.1), (29, r21.1), (27, r22.1), (30, r23.1), (31, r24.1), (7, r25.1), (8, r26.1), (32, r29.1), (33, r30.1), (34, r31.1), (9, r32.1), (35, r35.1), (36, r36.1), (37, r37.1), (38, r38.1), (39, r39.1), (40, r40.1), (41, r41.1), (42, r42.1), (44, r43.1), (43, r44.1), (45, r45.1), (46, r46.1), (47, r47.1), (48, r48.1), (49, r49.1), (50, r50.1), (51, r51.1), (52, r52.1), (53, r53.1), (54, r54.1), (55, r55.1), (56, r56.1), (57, r57.1), (58, r58.1), (59, r59.1), (60, r60.1), (61, r61.1), (62, r62.1), (75, r77.1), (76, r78.1), (10, r79.1), (77, r81.1), (78, r82.1), (79, r83.1), (11, r84.1)]) r85.2)) := by kernel_rfl
theorem impl_VerOk_fn (x0 : Value) (w : World) : fnC P (EV P) 14 #[x0] w =
 (bx P 32 x0 w).bind fun r1 =>
 (vl (.bool false) r1.2).bind fun r2 =>
 (ld P 32 r1.1 (dw r2.2)).bind fun r4 =>
 ifP (r4.2 = (dw r2.2)) <|
 (EV P 55 #[r4.1] (dw r2.2)).bind fun r5 =>
 ifP (True ∧ True) <|
 (vl r5.1 r5.2).bind fun r6 =>
 ifP (r6.2 = r5.2) <|
 (gif r6.1 true (fa P 32 r1.1 1 r5.2) r5.2).bind fun r7 =>
 ifP (r7.2 = r5.2) <|
 (gif r6.1 true (ld P 27 r7.1 r5.2) r5.2).bind fun r8 =>
 ifP (r8.2 = r5.2) <|
 (gif r6.1 true (EV P 56 #[r8.1] r5.2) r5.2).bind fun r9 =>
 ifP (True ∧ True ∧ True ∧ True) <|
 (pickV r6.1 r9.1 (.bool false) r9.2).bind fun r10 =>
 ifP (r10.2 = r9.2) <|
 (vl r10.1 r9.2).bind fun r11 =>
 ifP (r11.2 = r9.2) <|
 (gif r11.1 true (fa P 32 r1.1 1 r9.2) r9.2).bind fun r12 =>
 ifP (r12.2 = r9.2) <|
 (gif r11.1 true (fa P 27 r12.1 0 r9.2) r9.2).bind fun r13 =>
 ifP (r13.2 = r9.2) <|
 (gif r11.1 true (ld P 3 r13.1 r9.2) r9.2).bind fun r14 =>
 ifP (r14.2 = r9.2) <|
 (gif r11.1 true (fa P 32 r1.1 2 r9.2) r9.2).bind fun r15 =>
 ifP (r15.2 = r9.2) <|
 (gif r11.1 true (ld P 30 r15.1 r9.2) r9.2).bind fun r16 =>
 ifP (r16.2 = r9.2) <|
 (gif r11.1 true (EV P 57 #[r16.1] r9.2) r9.2).bind fun r17 =>
 ifP (True ∧ True ∧ gif r11.1 true (ld P 3 r13.1 r17.2) r17.2 = some (r14.1, r17.2) ∧ gif r11.1 true (fa P 27 r12.1 0 r17.2) r17.2 = some (r13.1, r17.2) ∧ gif r11.1 true (fa P 32 r1.1 1 r17.2) r17.2 = some (r12.1, r17.2) ∧ True ∧ True ∧ True ∧ True) <|
 (gif r11.1 true (bo P .gtr 3 (.tmp 13) (.tmp 16) r14.1 r17.1 r17.2) r17.2).bind fun r18 =>
 ifP (r18.2 = r17.2) <|
 (pickV r11.1 r18.1 (.bool false) r17.2).bind fun r19 =>
 ifP (r19.2 = r17.2) <|
 (vl r19.1 r17.2).bind fun r20 =>
 ifP (r20.2 = r17.2) <|
 some (r20.1, r17.2) := by kernel_rfl
noncomputable def laws_cfStore_l1 (e : Env) (w : World) : Option (Value × World) := exC P (EV P) 15 32 (.loop (cA (cA (cB (cA (cB (cB (bodyOf P 15)))))))) e w (kBlock 0 (kSeq P (EV P) 15 32 (cB (cB (cB (bodyOf P 15)))) (kFn P (fnOf P 15))))
theorem laws_cfStore_l1_eq (e : Env) (w : World) : laws_cfStore_l1 e w =
 (vl (e 5) w).bind fun r1 =>
 (fa P 43 (e 2) 0 r1.2).bind fun r2 =>
 (ld P 41 r2.1 r2.2).bind fun r3 =>
 (b_len P #[41] 3 #[r3.1] r3.2).bind fun r4 =>
 (bo P .lss 3 (.tmp 13) (.tmp 16) r1.1 r4.1 r4.2).bind fun r5 =>
 cnd r5.1 (
 (fa P 43 (e 2) 0 (dw r5.2)).bind fun r7 =>
 ifP (r7.2 = (dw r5.2)) <|
 (ld P 41 r7.1 (dw r5.2)).bind fun r8 =>
 ifP (r8.2 = (dw r5.2)) <|
 (vl (e 5) (dw r5.2)).bind fun r9 =>
 ifP (r9.2 = (dw r5.2)) <|
 (ia P 41 r8.1 r9.1 (dw r5.2)).bind fun r10 =>
 ifP (r10.2 = (dw r5.2)) <|
 (ld P 32 r10.1 (dw r5.2)).bind fun r11 =>
 ifP (r11.2 = (dw r5.2)) <|
 (fa P 43 (e 3) 0 (dw r5.2)).bind fun r12 =>
 ifP (r12.2 = (dw r5.2)) <|
 (ld P 41 r12.1 (dw r5.2)).bind fun r13 =>
 ifP (r13.2 = (dw r5.2)) <|
 (vl (e 5) (dw r5.2)).bind fun r14 =>
 ifP (r14.2 = (dw r5.2)) <|
 (ia P 41 r13.1 r14.1 (dw r5.2)).bind fun r15 =>
 ifP (r15.2 = (dw r5.2)) <|
 (ld P 32 r15.1 (dw r5.2)).bind fun r16 =>
 ifP (r16.2 = (dw r5.2)) <|
 (EV P 58 #[r11.1, r16.1] (dw r5.2)).bind fun r17 =>
 ifP (True ∧ True ∧ True ∧ True ∧ True ∧ True ∧ True ∧ True ∧ True) <|
 (uo P .not r17.1 r17.2).bind fun r18 =>
 ifP (r18.2 = r17.2) <|
 cnd r18.1 (
 (vl (.bool false) r17.2).bind fun r19 =>
 some (r19.1, r19.2)) (
 (vl (e 5) r17.2).bind fun r20 =>
 (bo P .add 3 (.tmp 18) (.const (.int .i64 1)) r20.1 (.int .i64 1) r20.2).bind fun r21 =>
 (vl r21.1 r21.2).bind fun r22 =>
 laws_cfStore_l1 (ups e [(13, r1.1), (14, r2.1), (15, r3.1), (16, r4.1), (17, r5.1), (20, r7.1), (21, r8.1), (22, r9.1), (23, r10.1), (24, r11.1), (25, r12.1), (26, r13.1), (27, r14.1), (28, r15.1), (29, r16.1), (30, r17.1), (31, r18.1), (18, r20.1), (19, r21.1), (5, r22.1)]) r22.2)) (
 (vl (.bool true) r5.2).bind fun r23 =>
 some (r23.1, r23.2)) := (exC_loop P (EV P) 15 32 (cA (cA (cB (cA (cB (cB (bodyOf P 15))))))) e w (kBlock 0 (kSeq P (EV P) 15 32 (cB (cB (cB (bodyOf P 15)))) (kFn P (fnOf P 15))))).trans (by kernel_rfl)
theorem laws_cfStore_fn (x0 x1 : Value) (w : World) : fnC P (EV P) 15 #[x0, x1] w =
 (bx P 43 x0 w).bind fun r1 =>
 (bx P 43 x1 r1.2).bind fun r2 =>
 (vl (.bool false) r2.2).bind fun r3 =>
 (fa P 43 r1.1 0 r3.2).bind fun r4 =>
 (ld P 41 r4.1 r4.2).bind fun r5 =>
 (b_len P #[41] 3 #[r5.1] r5.2).bind fun r6 =>
 (fa P 43 r2.1 0 r6.2).bind fun r7 =>
 (ld P 41 r7.1 r7.2).bind fun r8 =>
 (b_len P #[41] 3 #[r8.1] r8.2).bind fun r9 =>
 (bo P .neq 3 (.tmp 8) (.tmp 11) r6.1 r9.1 r9.2).bind fun r10 =>
 cnd r10.1 (
 (vl (.bool false) r10.2).bind fun r11 =>
 some (r11.1, r11.2)) (
 (vl (.int .i64 0) r10.2).bind fun r12 =>
 laws_cfStore_l1 (ups (env0 #[x0, x1]) [(2, r1.1), (3, r2.1), (4, r3.1), (6, r4.1), (7, r5.1), (8, r6.1), (9, r7.1), (10, r8.1), (11, r9.1), (12, r10.1), (5, r12.1)]) r12.2) := by kernel_rfl
noncomputable def impl_StoreAdd_j1 (e : Env) (w : World) : Option (Value × World) := exC P (EV P) 16 28 (cB (cB (cB (cB (bodyOf P 16))))) e w (kFn P (fnOf P 16))
theorem impl_StoreAdd_j1_eq (e : Env) (w : World) : impl_StoreAdd_j1 e w =
 (ld P 43 (e 5) w).bind fun r1 =>
 (st P 43 (e 4) r1.1 r1.2).bind fun r2 =>
 ((ld P 43 (e 4) r2.2).bind fun r3 => ifP (r3.2 = r2.2) (some r3.1)).bind fun v4 =>
 some (v4, r2.2) := by kernel_rfl
theorem impl_StoreAdd_fn (x0 x1 : Value) (w : World) : fnC P (EV P) 16 #[x0, x1] w =
 (bx P 43 x0 w).bind fun r1 =>
 (bx P 32 x1 r1.2).bind fun r2 =>
 (al P 43 r2.2).bind fun r3 =>
 (ld P 43 r1.1 r3.2).bind fun r4 =>
 (EV P 22 #[r4.1] r4.2).bind fun r5 =>
 (uo P .not r5.1 r5.2).bind fun r6 =>
 (vl r6.1 r6.2).bind fun r7 =>
 (gif r7.1 false (ld P 32 r2.1 r7.2) r7.2).bind fun r8 =>
 (gif r7.1 false (EV P 14 #[r8.1] r8.2) r8.2).bind fun r9 =>
 (gif r7.1 false (uo P .not r9.1 r9.2) r9.2).bind fun r10 =>
 (pickV r7.1 (.bool true) r10.1 r10.2).bind fun r11 =>
 cnd r11.1 (
 (bd P 43 #[] r11.2).bind fun r12 =>
 (st P 43 r3.1 r12.1 r12.2).bind fun r13 =>
 ((ld P 43 r3.1 r13.2).bind fun r14 => ifP (r14.2 = r13.2) (some r14.1)).bind fun v15 =>
 some (v15, r13.2)) (
 (ld P 43 r1.1 r11.2).bind fun r16 =>
 (EV P 59 #[r16.1] r16.2).bind fun r17 =>
 (al P 43 r17.2).bind fun r18 =>
 (st P 43 r18.1 r17.1 r18.2).bind fun r19 =>
 (ld P 43 r18.1 r19.2).bind fun r20 =>
 (ld P 32 r2.1 r20.2).bind fun r21 =>
 (EV P 60 #[r20.1, r21.1] r21.2).bind fun r22 =>
 cnd r22.1 (
 (fa P 43 r18.1 0 (dw r22.2)).bind fun r24 =>
 ifP (r24.2 = (dw r22.2)) <|
 (ld P 41 r24.1 (dw r22.2)).bind fun r25 =>
 ifP (r25.2 = (dw r22.2)) <|
 (fa P 32 r2.1 0 (dw r22.2)).bind fun r26 =>
 ifP (r26.2 = (dw r22.2)) <|
 (ld P 3 r26.1 (dw r22.2)).bind fun r27 =>
 ifP (r27.2 = (dw r22.2)) <|
 (ld P 32 r2.1 (dw r22.2)).bind fun r28 =>
 ifP (r28.2 = (dw r22.2)) <|
 (EV P 61 #[r28.1] (dw r22.2)).bind fun r29 =>
 ifP (True ∧ ld P 3 r26.1 r29.2 = some (r27.1, r29.2) ∧ fa P 32 r2.1 0 r29.2 = some (r26.1, r29.2) ∧ ld P 41 r24.1 r29.2 = some (r25.1, r29.2) ∧ fa P 43 r18.1 0 r29.2 = some (r24.1, r29.2) ∧ True) <|
 (ia P 41 r25.1 r27.1 r29.2).bind fun r30 =>
 ifP (r30.2 = r29.2) <|
 (st P 32 r30.1 r29.1 r29.2).bind fun r31 =>
 ifP (True ∧ True ∧ True ∧ True ∧ True ∧ True ∧ True) <|
 impl_StoreAdd_j1 (ups (env0 #[x0, x1]) [(2, r1.1), (3, r2.1), (4, r3.1), (6, r4.1), (7, r5.1), (8, r6.1), (9, r7.1), (10, r8.1), (11, r9.1), (12, r10.1), (13, r11.1), (15, r16.1), (16, r17.1), (5, r18.1), (17, r20.1), (18, r21.1), (19, r22.1), (20, r24.1), (21, r25.1), (22, r26.1), (23, r27.1), (24, r28.1), (25, r29.1), (26, r30.1)]) r31.2) (
 impl_StoreAdd_j1 (ups (env0 #[x0, x1]) [(2, r1.1), (3, r2.1), (4, r3.1), (6, r4.1), (7, r5.1), (8, r6.1), (9, r7.1), (10, r8.1), (11, r9.1), (12, r10.1), (13, r11.1), (15, r16.1), (16, r17.1), (5, r18.1), (17, r20.1), (18, r21.1), (19, r22.1)]) r22.2)) := by kernel_rfl
theorem spec_DrawStoreAdd_fn (x0 : Value) (w : World) : fnC P (EV P) 20 #[x0] w =
 (al P 43 w).bind fun r1 =>
 (al P 32 r1.2).bind fun r2 =>
 (vl x0 r2.2).bind fun r3 =>
 (EV P 38 #[r3.1] r3.2).bind fun r4 =>
 (vl r4.1 r4.2).bind fun r5 =>
 (vl r5.1 r5.2).bind fun r6 =>
 (EV P 67 #[r6.1] r6.2).bind fun r7 =>
 (al P 43 r7.2).bind fun r8 =>
 (st P 43 r8.1 r7.1 r8.2).bind fun r9 =>
 (ld P 43 r8.1 (dw r9.2)).bind fun r11 =>
 ifP (r11.2 = (dw r9.2)) <|
 (vl r5.1 (dw r9.2)).bind fun r12 =>
 ifP (r12.2 = (dw r9.2)) <|
 (EV P 40 #[r12.1] (dw r9.2)).bind fun r13 =>
 ifP (ld P 43 r8.1 r13.2 = some (r11.1, r13.2) ∧ True) <|
 (st P 43 r1.1 r11.1 r13.2).bind fun r14 =>
 ifP (True ∧ True) <|
 (st P 32 r2.1 r13.1 r14.2).bind fun r15 =>
 ifP (True ∧ True) <|
 ((ld P 43 r1.1 r15.2).bind fun r16 => ifP (r16.2 = r15.2) (some r16.1)).bind fun v17 =>
 ((ld P 32 r2.1 r15.2).bind fun r18 => ifP (r18.2 = r15.2) (some r18.1)).bind fun v19 =>
 some (.tuple #[v17, v19], r15.2) := by kernel_rfl
theorem spec_StoreAdd_fn (x0 x1 : Value) (w : World) : fnC P (EV P) 21 #[x0, x1] w =
 (bx P 43 x0 w).bind fun r1 =>
 (bx P 32 x1 r1.2).bind fun r2 =>
 (al P 43 r2.2).bind fun r3 =>
 (ld P 43 r1.1 r3.2).bind fun r4 =>
 (EV P 68 #[r4.1] r4.2).bind fun r5 =>
 (uo P .not r5.1 r5.2).bind fun r6 =>
 (vl r6.1 r6.2).bind fun r7 =>
 (gif r7.1 false (ld P 32 r2.1 r7.2) r7.2).bind fun r8 =>
 (gif r7.1 false (EV P 45 #[r8.1] r8.2) r8.2).bind fun r9 =>
 (gif r7.1 false (uo P .not r9.1 r9.2) r9.2).bind fun r10 =>
 (pickV r7.1 (.bool true) r10.1 r10.2).bind fun r11 =>
 cnd r11.1 (
 (bd P 43 #[] r11.2).bind fun r12 =>
 (st P 43 r3.1 r12.1 r12.2).bind fun r13 =>
 ((ld P 43 r3.1 r13.2).bind fun r14 => ifP (r14.2 = r13.2) (some r14.1)).bind fun v15 =>
 some (v15, r13.2)) (
 (ld P 43 r1.1 (dw r11.2)).bind fun r17 =>
 ifP (r17.2 = (dw r11.2)) <|
 (ld P 32 r2.1 (dw r11.2)).bind fun r18 =>
 ifP (r18.2 = (dw r11.2)) <|
 (EV P 70 #[r17.1] (dw r11.2)).bind fun r19 =>
 ifP (ld P 32 r2.1 r19.2 = some (r18.1, r19.2) ∧ True ∧ True) <|
 (EV P 69 #[r19.1, r18.1] r19.2).bind fun r20 =>
 ifP (True ∧ True ∧ True) <|
 (st P 43 r3.1 r20.1 r20.2).bind fun r21 =>
 ifP (True ∧ True ∧ True) <|
 ((ld P 43 r3.1 r21.2).bind fun r22 => ifP (r22.2 = r21.2) (some r22.1)).bind fun v23 =>
 some (v23, r21.2)) := by kernel_rfl
noncomputable def impl_StoreOk_l1 (e : Env) (w : World) : Option (Value × World) := exC P (EV P) 22 33 (.loop (cA (cA (cB (cA (cB (bodyOf P 22))))))) e w (kBlock 0 (kSeq P (EV P) 22 33 (cB (cB (bodyOf P 22))) (kFn P (fnOf P 22))))
theorem impl_StoreOk_l1_eq (e : Env) (w : World) : impl_StoreOk_l1 e w =
 (bo P .lss 3 (.tmp 8) (.tmp 7) (e 8) (e 7) w).bind fun r1 =>
 cnd r1.1 (
 (vl (e 8) r1.2).bind fun r2 =>
 (ia P 41 (e 6) (e 8) r2.2).bind fun r3 =>
 (ld P 32 r3.1 r3.2).bind fun r4 =>
 (al P 32 r4.2).bind fun r5 =>
 (vl r2.1 r5.2).bind fun r6 =>
 (st P 32 r5.1 r4.1 r6.2).bind fun r7 =>
 (ld P 32 r5.1 r7.2).bind fun r8 =>
 (bd P 32 #[] r8.2).bind fun r9 =>
 (EV P 71 #[r8.1, r9.1] r9.2).bind fun r10 =>
 (uo P .not r10.1 r10.2).bind fun r11 =>
 (vl r11.1 r11.2).bind fun r12 =>
 (gif r12.1 true (ld P 32 r5.1 r12.2) r12.2).bind fun r13 =>
 (gif r12.1 true (EV P 14 #[r13.1] r13.2) r13.2).bind fun r14 =>
 (gif r12.1 true (uo P .not r14.1 r14.2) r14.2).bind fun r15 =>
 (gif r12.1 true (vl r15.1 r15.2) r15.2).bind fun r16 =>
 (gif r16.1 false (fa P 32 r5.1 0 r16.2) r16.2).bind fun r17 =>
 (gif r16.1 false (ld P 3 r17.1 r17.2) r17.2).bind fun r18 =>
 (gif r16.1 false (vl r6.1 r18.2) r18.2).bind fun r19 =>
 (gif r16.1 false (bo P .neq 3 (.tmp 23) (.tmp 24) r18.1 r19.1 r19.2) r19.2).bind fun r20 =>
 (gif r12.1 true (pickV r16.1 (.bool true) r20.1 r20.2) r20.2).bind fun r21 =>
 (pickV r12.1 r21.1 (.bool false) r21.2).bind fun r22 =>
 cnd r22.1 (
 (vl (.bool false) r22.2).bind fun r23 =>
 some (r23.1, r23.2)) (
 (bo P .add 3 (.tmp 8) (.const (.int .i64 1)) (e 8) (.int .i64 1) r22.2).bind fun r24 =>
 (vl r24.1 r24.2).bind fun r25 =>
 impl_StoreOk_l1 (ups e [(9, r1.1), (10, r2.1), (11, r3.1), (12, r4.1), (4, r5.1), (3, r6.1), (13, r8.1), (14, r9.1), (15, r10.1), (16, r11.1), (17, r12.1), (18, r13.1), (19, r14.1), (20, r15.1), (21, r16.1), (22, r17.1), (23, r18.1), (24, r19.1), (25, r20.1), (26, r21.1), (27, r22.1), (28, r24.1), (8, r25.1)]) r25.2)) (
 (fa P 43 (e 1) 0 r1.2).bind fun r26 =>
 (ld P 41 r26.1 r26.2).bind fun r27 =>
 (b_len P #[41] 3 #[r27.1] r27.2).bind fun r28 =>
 (bo P .eql 3 (.tmp 31) (.const (.int .i64 4)) r28.1 (.int .i64 4) r28.2).bind fun r29 =>
 (vl r29.1 r29.2).bind fun r30 =>
 some (r30.1, r30.2)) := (exC_loop P (EV P) 22 33 (cA (cA (cB (cA (cB (bodyOf P 22)))))) e w (kBlock 0 (kSeq P (EV P) 22 33 (cB (cB (bodyOf P 22))) (kFn P (fnOf P 22))))).trans (by kernel_rfl)
theorem impl_StoreOk_fn (x0 : Value) (w : World) : fnC P (EV P) 22 #[x0] w =
 (bx P 43 x0 w).bind fun r1 =>
 (vl (.bool false) r1.2).bind fun r2 =>
 (fa P 43 r1.1 0 r2.2).bind fun r3 =>
 (ld P 41 r3.1 r3.2).bind fun r4 =>
 (b_len P #[41] 3 #[r4.1] r4.2).bind fun r5 =>
 (vl (.int .i64 0) r5.2).bind fun r6 =>
 impl_StoreOk_l1 (ups (env0 #[x0]) [(1, r1.1), (2, r2.1), (5, r3.1), (6, r4.1), (7, r5.1), (8, r6.1)]) r6.2 := by kernel_rfl
theorem spec_StoreOk_fn (x0 : Value) (w : World) : fnC P (EV P) 23 #[x0] w =
 (bx P 43 x0 w).bind fun r1 =>
 (vl (.bool false) r1.2).bind fun r2 =>
 (ld P 43 r1.1 r2.2).bind fun r3 =>
 (EV P 68 #[r3.1] r3.2).bind fun r4 =>
 (vl r4.1 r4.2).bind fun r5 =>
 some (r5.1, r5.2) := by kernel_rfl
theorem impl_StoreTags_fn (x0 : Value) (w : World) : fnC P (EV P) 24 #[x0] w =
 (bx P 43 x0 w).bind fun r1 =>
 (al P 30 r1.2).bind fun r2 =>
 (ld P 43 r1.1 r2.2).bind fun r3 =>
 (EV P 22 #[r3.1] r3.2).bind fun r4 =>
 (uo P .not r4.1 r4.2).bind fun r5 =>
 cnd r5.1 (
 (bd P 30 #[] r5.2).bind fun r6 =>
 (st P 30 r2.1 r6.1 r6.2).bind fun r7 =>
 ((ld P 30 r2.1 r7.2).bind fun r8 => ifP (r8.2 = r7.2) (some r8.1)).bind fun v9 =>
 some (v9, r7.2)) (
 (ld P 43 r1.1 r5.2).bind fun r10 =>
 (EV P 72 #[r10.1] r10.2).bind fun r11 =>
 (st P 30 r2.1 r11.1 r11.2).bind fun r12 =>
 ((ld P 30 r2.1 r12.2).bind fun r13 => ifP (r13.2 = r12.2) (some r13.1)).bind fun v14 =>
 some (v14, r12.2)) := by kernel_rfl
theorem impl_TagMax_fn (x0 x1 : Value) (w : World) : fnC P (EV P) 25 #[x0, x1] w =
 (bx P 27 x0 w).bind fun r1 =>
 (bx P 27 x1 r1.2).bind fun r2 =>
 (al P 27 r2.2).bind fun r3 =>
 (ld P 27 r1.1 r3.2).bind fun r4 =>
 (ld P 27 r2.1 r4.2).bind fun r5 =>
 (EV P 73 #[r4.1, r5.1] r5.2).bind fun r6 =>
 cnd r6.1 (
 (ld P 27 r2.1 r6.2).bind fun r7 =>
 (st P 27 r3.1 r7.1 r7.2).bind fun r8 =>
 ((ld P 27 r3.1 r8.2).bind fun r9 => ifP (r9.2 = r8.2) (some r9.1)).bind fun v10 =>
 some (v10, r8.2)) (
 (ld P 27 r1.1 r6.2).bind fun r11 =>
 (st P 27 r3.1 r11.1 r11.2).bind fun r12 =>
 ((ld P 27 r3.1 r12.2).bind fun r13 => ifP (r13.2 = r12.2) (some r13.1)).bind fun v14 =>
 some (v14, r12.2)) := by kernel_rfl
end Go.Proofs.Ytjagkbamkohnoaa.X
