/- A part of the proof: an evaluator of the model, its laws, and contracts of functions; no condition. -/
import Derived.Test.YtobejpplmjfkpaaDoorEvT
set_option linter.unusedVariables false
set_option maxRecDepth 100000
namespace Go.Proofs.YtobejpplmjfkpaaDoor.X
open Go Go.Ev
theorem laws_FnTagGet_fn (x0 : Value) (w : World) : fnC P (EV P) 6 #[x0] w =
 (vl (.bool false) w).bind fun r1 =>
 (vl x0 r1.2).bind fun r2 =>
 (b_len P #[32] 3 #[r2.1] r2.2).bind fun r3 =>
 (bo P .gtr 3 (.tmp 9) (.const (.int .i64 1048576)) r3.1 (.int .i64 1048576) r3.2).bind fun r4 =>
 cnd r4.1 (
 (vl (.bool true) r4.2).bind fun r5 =>
 some (r5.1, r5.2)) (
 (vl x0 r4.2).bind fun r6 =>
 (EV P 16 #[r6.1] r6.2).bind fun r7 =>
 (vl r7.1 r7.2).bind fun r8 =>
 (vl r8.1 r8.2).bind fun r9 =>
 (EV P 11 #[r9.1] r9.2).bind fun r10 =>
 (vl r10.1 r10.2).bind fun r11 =>
 (xt P r11.1 0 r11.2).bind fun r12 =>
 (xt P r11.1 1 r12.2).bind fun r13 =>
 (al P 25 r13.2).bind fun r14 =>
 (st P 25 r14.1 r12.1 r14.2).bind fun r15 =>
 (vl r13.1 r15.2).bind fun r16 =>
 (vl r8.1 r16.2).bind fun r17 =>
 (EV P 10 #[r17.1] r17.2).bind fun r18 =>
 (vl r18.1 r18.2).bind fun r19 =>
 (xt P r19.1 0 r19.2).bind fun r20 =>
 (xt P r19.1 1 r20.2).bind fun r21 =>
 (al P 25 r21.2).bind fun r22 =>
 (st P 25 r22.1 r20.1 r22.2).bind fun r23 =>
 (vl r21.1 r23.2).bind fun r24 =>
 (vl r16.1 r24.2).bind fun r25 =>
 (vl r24.1 r25.2).bind fun r26 =>
 (bo P .neq 4 (.tmp 23) (.tmp 24) r25.1 r26.1 r26.2).bind fun r27 =>
 (vl r27.1 r27.2).bind fun r28 =>
 (gif r28.1 false (ld P 25 r14.1 r28.2) r28.2).bind fun r29 =>
 (gif r28.1 false (ld P 25 r22.1 r29.2) r29.2).bind fun r30 =>
 (gif r28.1 false (bo P .neq 25 (.tmp 27) (.tmp 28) r29.1 r30.1 r30.2) r30.2).bind fun r31 =>
 (pickV r28.1 (.bool true) r31.1 r31.2).bind fun r32 =>
 (vl r32.1 r32.2).bind fun r33 =>
 (gif r33.1 false (vl r16.1 r33.2) r33.2).bind fun r34 =>
 (gif r33.1 false (uo P .not r34.1 r34.2) r34.2).bind fun r35 =>
 (pickV r33.1 (.bool true) r35.1 r35.2).bind fun r36 =>
 cnd r36.1 (
 (vl r16.1 r36.2).bind fun r37 =>
 (vl r24.1 r37.2).bind fun r38 =>
 (bo P .eql 4 (.tmp 35) (.tmp 36) r37.1 r38.1 r38.2).bind fun r39 =>
 (vl r39.1 r39.2).bind fun r40 =>
 (gif r40.1 true (ld P 25 r14.1 r40.2) r40.2).bind fun r41 =>
 (gif r40.1 true (ld P 25 r22.1 r41.2) r41.2).bind fun r42 =>
 (gif r40.1 true (bo P .eql 25 (.tmp 39) (.tmp 40) r41.1 r42.1 r42.2) r42.2).bind fun r43 =>
 (pickV r40.1 r43.1 (.bool false) r43.2).bind fun r44 =>
 (vl r44.1 r44.2).bind fun r45 =>
 some (r45.1, r45.2)) (
 (ld P 25 r14.1 r36.2).bind fun r46 =>
 (EV P 9 #[r46.1] r46.2).bind fun r47 =>
 (vl r8.1 r47.2).bind fun r48 =>
 (bo P .eql 9 (.tmp 44) (.tmp 45) r47.1 r48.1 r48.2).bind fun r49 =>
 (vl r49.1 r49.2).bind fun r50 =>
 (gif r50.1 true (ld P 25 r14.1 r50.2) r50.2).bind fun r51 =>
 (gif r50.1 true (EV P 14 #[r51.1] r51.2) r51.2).bind fun r52 =>
 (pickV r50.1 r52.1 (.bool false) r52.2).bind fun r53 =>
 (vl r53.1 r53.2).bind fun r54 =>
 some (r54.1, r54.2))) := by kernel_rfl
theorem spec_TagPut_fn (x0 : Value) (w : World) : fnC P (EV P) 7 #[x0] w =
 (bx P 25 x0 w).bind fun r1 =>
 (vl (Go.Value.string { data := #[] }) r1.2).bind fun r2 =>
 (ld P 25 r1.1 r2.2).bind fun r3 =>
 (EV P 17 #[r3.1] r3.2).bind fun r4 =>
 (uo P .not r4.1 r4.2).bind fun r5 =>
 cnd r5.1 (
 (vl (Go.Value.string { data := #[] }) r5.2).bind fun r6 =>
 some (r6.1, r6.2)) (
 (ld P 25 r1.1 r5.2).bind fun r7 =>
 (EV P 18 #[r7.1] r7.2).bind fun r8 =>
 (vl r8.1 r8.2).bind fun r9 =>
 some (r9.1, r9.2)) := by kernel_rfl
theorem impl_TagPut_fn (x0 : Value) (w : World) : fnC P (EV P) 9 #[x0] w =
 (bx P 25 x0 w).bind fun r1 =>
 (vl (Go.Value.string { data := #[] }) r1.2).bind fun r2 =>
 (ld P 25 r1.1 r2.2).bind fun r3 =>
 (EV P 14 #[r3.1] r3.2).bind fun r4 =>
 (uo P .not r4.1 r4.2).bind fun r5 =>
 cnd r5.1 (
 (vl (Go.Value.string { data := #[] }) r5.2).bind fun r6 =>
 some (r6.1, r6.2)) (
 (ld P 25 r1.1 r5.2).bind fun r7 =>
 (EV P 19 #[r7.1] r7.2).bind fun r8 =>
 (vl r8.1 r8.2).bind fun r9 =>
 some (r9.1, r9.2)) := by kernel_rfl
noncomputable def spec_TagGet_a1 (e : Env) (w : World) : Option (Value × World) := exC P (EV P) 10 32 (cA (cB (cB (cB (bodyOf P 10))))) e w (kSeq P (EV P) 10 32 (cB (cB (cB (cB (bodyOf P 10))))) (kFn P (fnOf P 10)))
noncomputable def spec_TagGet_j1 (e : Env) (w : World) : Option (Value × World) := exC P (EV P) 10 32 (cB (cB (cB (cB (bodyOf P 10))))) e w (kFn P (fnOf P 10))
theorem spec_TagGet_a1_any (e : Env) (w : World) {Q : Value × World → Prop} (h :
 (Ret (vl (e 4) (dw w)) fun r1 => r1.2 = (dw w) ∧
 (Ret (ia P 38 r1.1 (.int .i64 0) (dw w)) fun r2 => r2.2 = (dw w) ∧
 (Ret (ld P 9 r2.1 (dw w)) fun r3 => r3.2 = (dw w) ∧
 (Ret (vl (e 4) (dw w)) fun r4 => r4.2 = (dw w) ∧
 (Ret (ia P 38 r4.1 (.int .i64 1) (dw w)) fun r5 => r5.2 = (dw w) ∧
 (Ret (ld P 9 r5.1 (dw w)) fun r6 => r6.2 = (dw w) ∧
 ((Ret (EV P 21 #[r3.1] (dw w)) fun r7 => (ld P 9 r5.1 r7.2 = some (r6.1, r7.2) ∧ ia P 38 r4.1 (.int .i64 1) r7.2 = some (r5.1, r7.2) ∧ True ∧ True ∧ True) ∧
 ((Ret (EV P 21 #[r6.1] r7.2) fun r8 => (True ∧ True ∧ True ∧ True ∧ True) ∧
 (Ret (bd P 25 #[(0, r7.1), (1, r8.1)] r8.2) fun r9 => r9.2 = r8.2 ∧
 ((Ret (al P 25 r8.2) fun r10 => (bd P 25 #[(0, r7.1), (1, r8.1)] r10.2 = some (r9.1, r10.2) ∧ ld P 9 r5.1 r10.2 = some (r6.1, r10.2) ∧ ia P 38 r4.1 (.int .i64 1) r10.2 = some (r5.1, r10.2) ∧ ld P 9 r2.1 r10.2 = some (r3.1, r10.2) ∧ ia P 38 r1.1 (.int .i64 0) r10.2 = some (r2.1, r10.2) ∧ True) ∧
 ((Ret (st P 25 r10.1 r9.1 r10.2) fun r11 => (True ∧ True ∧ True ∧ True ∧ True ∧ True) ∧
 Ret (spec_TagGet_j1 (ups e [(12, r1.1), (13, r2.1), (14, r3.1), (16, r4.1), (17, r5.1), (18, r6.1), (15, r7.1), (19, r8.1), (20, r9.1), (5, r10.1)]) r11.2) Q)))))) ∧
 (Ret (al P 25 r7.2) fun r12 => (ld P 9 r5.1 r12.2 = some (r6.1, r12.2) ∧ ia P 38 r4.1 (.int .i64 1) r12.2 = some (r5.1, r12.2) ∧ ld P 9 r2.1 r12.2 = some (r3.1, r12.2) ∧ ia P 38 r1.1 (.int .i64 0) r12.2 = some (r2.1, r12.2) ∧ True) ∧
 ((Ret (EV P 21 #[r6.1] r12.2) fun r13 => (True ∧ True ∧ True ∧ True ∧ True) ∧
 (Ret (bd P 25 #[(0, r7.1), (1, r13.1)] r13.2) fun r14 => r14.2 = r13.2 ∧
 ((Ret (st P 25 r12.1 r14.1 r13.2) fun r15 => (True ∧ True ∧ True ∧ True ∧ True ∧ True) ∧
 Ret (spec_TagGet_j1 (ups e [(12, r1.1), (13, r2.1), (14, r3.1), (16, r4.1), (17, r5.1), (18, r6.1), (15, r7.1), (5, r12.1), (19, r13.1), (20, r14.1)]) r15.2) Q)))))))) ∧
 (Ret (al P 25 (dw w)) fun r16 => (ld P 9 r5.1 r16.2 = some (r6.1, r16.2) ∧ ia P 38 r4.1 (.int .i64 1) r16.2 = some (r5.1, r16.2) ∧ ld P 9 r2.1 r16.2 = some (r3.1, r16.2) ∧ ia P 38 r1.1 (.int .i64 0) r16.2 = some (r2.1, r16.2) ∧ True) ∧
 ((Ret (EV P 21 #[r3.1] r16.2) fun r17 => (ld P 9 r5.1 r17.2 = some (r6.1, r17.2) ∧ ia P 38 r4.1 (.int .i64 1) r17.2 = some (r5.1, r17.2) ∧ True ∧ True ∧ True) ∧
 ((Ret (EV P 21 #[r6.1] r17.2) fun r18 => (True ∧ True ∧ True ∧ True ∧ True) ∧
 (Ret (bd P 25 #[(0, r17.1), (1, r18.1)] r18.2) fun r19 => r19.2 = r18.2 ∧
 ((Ret (st P 25 r16.1 r19.1 r18.2) fun r20 => (True ∧ True ∧ True ∧ True ∧ True ∧ True) ∧
 Ret (spec_TagGet_j1 (ups e [(12, r1.1), (13, r2.1), (14, r3.1), (16, r4.1), (17, r5.1), (18, r6.1), (5, r16.1), (15, r17.1), (19, r18.1), (20, r19.1)]) r20.2) Q)))))))))))))))) : Ret (spec_TagGet_a1 e w) Q := exC_any (id := 4) (ops := opsOf (cA (cB (cB (cB (bodyOf P 10)))))) (by kernel_rfl) (by kernel_rfl) (Eq.mpr (by kernel_rfl) h)
theorem spec_TagGet_j1_eq (e : Env) (w : World) : spec_TagGet_j1 e w =
 (ld P 25 (e 5) w).bind fun r1 =>
 (EV P 17 #[r1.1] r1.2).bind fun r2 =>
 (uo P .not r2.1 r2.2).bind fun r3 =>
 (vl r3.1 r3.2).bind fun r4 =>
 (gif r4.1 false (ld P 25 (e 5) r4.2) r4.2).bind fun r5 =>
 (gif r4.1 false (EV P 18 #[r5.1] r5.2) r5.2).bind fun r6 =>
 (gif r4.1 false (vl (e 0) r6.2) r6.2).bind fun r7 =>
 (gif r4.1 false (bo P .neq 9 (.tmp 26) (.tmp 27) r6.1 r7.1 r7.2) r7.2).bind fun r8 =>
 (pickV r4.1 (.bool true) r8.1 r8.2).bind fun r9 =>
 cnd r9.1 (
 (bd P 25 #[] r9.2).bind fun r10 =>
 (st P 25 (e 2) r10.1 r10.2).bind fun r11 =>
 (vl (.bool false) r11.2).bind fun r12 =>
 ((ld P 25 (e 2) r12.2).bind fun r13 => ifP (r13.2 = r12.2) (some r13.1)).bind fun v14 =>
 some (.tuple #[v14, r12.1], r12.2)) (
 (ld P 25 (e 5) r9.2).bind fun r15 =>
 (st P 25 (e 2) r15.1 r15.2).bind fun r16 =>
 (vl (.bool true) r16.2).bind fun r17 =>
 ((ld P 25 (e 2) r17.2).bind fun r18 => ifP (r18.2 = r17.2) (some r18.1)).bind fun v19 =>
 some (.tuple #[v19, r17.1], r17.2)) := by kernel_rfl
theorem spec_TagGet_fn (x0 : Value) (w : World) : fnC P (EV P) 10 #[x0] w =
 (al P 25 w).bind fun r1 =>
 (vl (.bool false) r1.2).bind fun r2 =>
 (vl x0 r2.2).bind fun r3 =>
 (EV P 20 #[r3.1, (.int .u8 46), (.int .i64 2)] r3.2).bind fun r4 =>
 (vl r4.1 r4.2).bind fun r5 =>
 (vl r5.1 r5.2).bind fun r6 =>
 (b_len P #[38] 3 #[r6.1] r6.2).bind fun r7 =>
 (bo P .neq 3 (.tmp 9) (.const (.int .i64 2)) r7.1 (.int .i64 2) r7.2).bind fun r8 =>
 cnd r8.1 (
 (bd P 25 #[] r8.2).bind fun r9 =>
 (st P 25 r1.1 r9.1 r9.2).bind fun r10 =>
 (vl (.bool false) r10.2).bind fun r11 =>
 ((ld P 25 r1.1 r11.2).bind fun r12 => ifP (r12.2 = r11.2) (some r12.1)).bind fun v13 =>
 some (.tuple #[v13, r11.1], r11.2)) (
 spec_TagGet_a1 (ups (env0 #[x0]) [(2, r1.1), (3, r2.1), (6, r3.1), (7, r4.1), (4, r5.1), (8, r6.1), (9, r7.1), (10, r8.1)]) r8.2) := by kernel_rfl
theorem impl_TagGet_fn (x0 : Value) (w : World) : fnC P (EV P) 11 #[x0] w =
 (al P 25 w).bind fun r1 =>
 (vl (.bool false) r1.2).bind fun r2 =>
 (vl x0 r2.2).bind fun r3 =>
 (EV P 22 #[r3.1, (Go.Value.string { data := #[46] })] r3.2).bind fun r4 =>
 (vl r4.1 r4.2).bind fun r5 =>
 (xt P r5.1 0 r5.2).bind fun r6 =>
 (xt P r5.1 1 r6.2).bind fun r7 =>
 (xt P r5.1 2 r7.2).bind fun r8 =>
 (vl r6.1 r8.2).bind fun r9 =>
 (vl r7.1 r9.2).bind fun r10 =>
 (vl r8.1 r10.2).bind fun r11 =>
 (vl r9.1 r11.2).bind fun r12 =>
 (EV P 23 #[r12.1] r12.2).bind fun r13 =>
 (vl r13.1 r13.2).bind fun r14 =>
 (xt P r14.1 0 r14.2).bind fun r15 =>
 (xt P r14.1 1 r15.2).bind fun r16 =>
 (vl r15.1 r16.2).bind fun r17 =>
 (vl r16.1 r17.2).bind fun r18 =>
 (vl r10.1 r18.2).bind fun r19 =>
 (EV P 23 #[r19.1] r19.2).bind fun r20 =>
 (vl r20.1 r20.2).bind fun r21 =>
 (xt P r21.1 0 r21.2).bind fun r22 =>
 (xt P r21.1 1 r22.2).bind fun r23 =>
 (vl r22.1 r23.2).bind fun r24 =>
 (vl r23.1 r24.2).bind fun r25 =>
 (vl r17.1 r25.2).bind fun r26 =>
 (vl r24.1 r26.2).bind fun r27 =>
 (bd P 25 #[(0, r26.1), (1, r27.1)] r27.2).bind fun r28 =>
 (al P 25 r28.2).bind fun r29 =>
 (st P 25 r29.1 r28.1 r29.2).bind fun r30 =>
 (vl r18.1 r30.2).bind fun r31 =>
 (bo P .neq 44 (.tmp 31) (.const Go.Value.nilIface) r31.1 Go.Value.nilIface r31.2).bind fun r32 =>
 (vl r32.1 r32.2).bind fun r33 =>
 (gif r33.1 false (vl r25.1 r33.2) r33.2).bind fun r34 =>
 (gif r33.1 false (bo P .neq 44 (.tmp 34) (.const Go.Value.nilIface) r34.1 Go.Value.nilIface r34.2) r34.2).bind fun r35 =>
 (pickV r33.1 (.bool true) r35.1 r35.2).bind fun r36 =>
 (vl r36.1 r36.2).bind fun r37 =>
 (gif r37.1 false (ld P 25 r29.1 r37.2) r37.2).bind fun r38 =>
 (gif r37.1 false (EV P 14 #[r38.1] r38.2) r38.2).bind fun r39 =>
 (gif r37.1 false (uo P .not r39.1 r39.2) r39.2).bind fun r40 =>
 (pickV r37.1 (.bool true) r40.1 r40.2).bind fun r41 =>
 (vl r41.1 r41.2).bind fun r42 =>
 (gif r42.1 false (ld P 25 r29.1 r42.2) r42.2).bind fun r43 =>
 (gif r42.1 false (EV P 19 #[r43.1] r43.2) r43.2).bind fun r44 =>
 (gif r42.1 false (vl x0 r44.2) r44.2).bind fun r45 =>
 (gif r42.1 false (bo P .neq 9 (.tmp 44) (.tmp 45) r44.1 r45.1 r45.2) r45.2).bind fun r46 =>
 (pickV r42.1 (.bool true) r46.1 r46.2).bind fun r47 =>
 cnd r47.1 (
 (bd P 25 #[] r47.2).bind fun r48 =>
 (st P 25 r1.1 r48.1 r48.2).bind fun r49 =>
 (vl (.bool false) r49.2).bind fun r50 =>
 ((ld P 25 r1.1 r50.2).bind fun r51 => ifP (r51.2 = r50.2) (some r51.1)).bind fun v52 =>
 some (.tuple #[v52, r50.1], r50.2)) (
 (ld P 25 r29.1 r47.2).bind fun r53 =>
 (st P 25 r1.1 r53.1 r53.2).bind fun r54 =>
 (vl (.bool true) r54.2).bind fun r55 =>
 ((ld P 25 r1.1 r55.2).bind fun r56 => ifP (r56.2 = r55.2) (some r56.1)).bind fun v57 =>
 some (.tuple #[v57, r55.1], r55.2)) := by kernel_rfl
theorem impl_TagOk_fn (x0 : Value) (w : World) : fnC P (EV P) 14 #[x0] w =
 (bx P 25 x0 w).bind fun r1 =>
 (vl (.bool false) r1.2).bind fun r2 =>
 (ld P 25 r1.1 r2.2).bind fun r3 =>
 (bd P 25 #[] r3.2).bind fun r4 =>
 (bo P .eql 25 (.tmp 3) (.tmp 4) r3.1 r4.1 r4.2).bind fun r5 =>
 (vl r5.1 r5.2).bind fun r6 =>
 (gif r6.1 false (fa P 25 r1.1 0 r6.2) r6.2).bind fun r7 =>
 (gif r6.1 false (ld P 3 r7.1 r7.2) r7.2).bind fun r8 =>
 (gif r6.1 false (EV P 26 #[r8.1, (.int .i64 1), (.int .i64 999)] r8.2) r8.2).bind fun r9 =>
 (gif r6.1 false (vl r9.1 r9.2) r9.2).bind fun r10 =>
 (gif r10.1 true (fa P 25 r1.1 1 r10.2) r10.2).bind fun r11 =>
 (gif r10.1 true (ld P 3 r11.1 r11.2) r11.2).bind fun r12 =>
 (gif r10.1 true (EV P 27 #[r12.1] r12.2) r12.2).bind fun r13 =>
 (gif r6.1 false (pickV r10.1 r13.1 (.bool false) r13.2) r13.2).bind fun r14 =>
 (pickV r6.1 (.bool true) r14.1 r14.2).bind fun r15 =>
 (vl r15.1 r15.2).bind fun r16 =>
 some (r16.1, r16.2) := by kernel_rfl
theorem spec_DrawTagGet_fn (x0 : Value) (w : World) : fnC P (EV P) 16 #[x0] w =
 (vl (Go.Value.string { data := #[] }) w).bind fun r1 =>
 (vl x0 r1.2).bind fun r2 =>
 (EV P 25 #[r2.1] r2.2).bind fun r3 =>
 (vl r3.1 r3.2).bind fun r4 =>
 (vl r4.1 r4.2).bind fun r5 =>
 (EV P 24 #[r5.1] r5.2).bind fun r6 =>
 (EV P 7 #[r6.1] r6.2).bind fun r7 =>
 (vl r7.1 r7.2).bind fun r8 =>
 (vl r4.1 r8.2).bind fun r9 =>
 (EV P 28 #[r9.1, (.int .i64 2)] r9.2).bind fun r10 =>
 (bo P .eql 3 (.tmp 11) (.const (.int .i64 0)) r10.1 (.int .i64 0) r10.2).bind fun r11 =>
 cnd r11.1 (
 (vl r8.1 r11.2).bind fun r12 =>
 (vl r12.1 r12.2).bind fun r13 =>
 some (r13.1, r13.2)) (
 (vl r4.1 r11.2).bind fun r14 =>
 (vl r8.1 r14.2).bind fun r15 =>
 (EV P 29 #[r14.1, r15.1] r15.2).bind fun r16 =>
 (vl r16.1 r16.2).bind fun r17 =>
 some (r17.1, r17.2)) := by kernel_rfl
theorem spec_l1TagOk_fn (x0 : Value) (w : World) : fnC P (EV P) 17 #[x0] w =
 (bx P 25 x0 w).bind fun r1 =>
 (vl (.bool false) r1.2).bind fun r2 =>
 (ld P 25 r1.1 r2.2).bind fun r3 =>
 (bd P 25 #[] r3.2).bind fun r4 =>
 (bo P .eql 25 (.tmp 3) (.tmp 4) r3.1 r4.1 r4.2).bind fun r5 =>
 (vl r5.1 r5.2).bind fun r6 =>
 (gif r6.1 false (fa P 25 r1.1 0 r6.2) r6.2).bind fun r7 =>
 (gif r6.1 false (ld P 3 r7.1 r7.2) r7.2).bind fun r8 =>
 (gif r6.1 false (EV P 30 #[r8.1, (.int .i64 1), (.int .i64 999)] r8.2) r8.2).bind fun r9 =>
 (gif r6.1 false (vl r9.1 r9.2) r9.2).bind fun r10 =>
 (gif r10.1 true (fa P 25 r1.1 1 r10.2) r10.2).bind fun r11 =>
 (gif r10.1 true (ld P 3 r11.1 r11.2) r11.2).bind fun r12 =>
 (gif r10.1 true (EV P 30 #[r12.1, (.int .i64 0), (.int .i64 2)] r12.2) r12.2).bind fun r13 =>
 (gif r6.1 false (pickV r10.1 r13.1 (.bool false) r13.2) r13.2).bind fun r14 =>
 (pickV r6.1 (.bool true) r14.1 r14.2).bind fun r15 =>
 (vl r15.1 r15.2).bind fun r16 =>
 some (r16.1, r16.2) := by kernel_rfl
theorem spec_l1Put_fn (x0 : Value) (w : World) : fnC P (EV P) 18 #[x0] w =
 (bx P 25 x0 w).bind fun r1 =>
 (vl (Go.Value.string { data := #[] }) r1.2).bind fun r2 =>
 (fa P 25 r1.1 0 (dw r2.2)).bind fun r4 =>
 ifP (r4.2 = (dw r2.2)) <|
 (ld P 3 r4.1 (dw r2.2)).bind fun r5 =>
 ifP (r5.2 = (dw r2.2)) <|
 (fa P 25 r1.1 1 (dw r2.2)).bind fun r6 =>
 ifP (r6.2 = (dw r2.2)) <|
 (ld P 3 r6.1 (dw r2.2)).bind fun r7 =>
 ifP (r7.2 = (dw r2.2)) <|
 (EV P 31 #[r5.1] (dw r2.2)).bind fun r8 =>
 ifP (ld P 3 r6.1 r8.2 = some (r7.1, r8.2) ∧ fa P 25 r1.1 1 r8.2 = some (r6.1, r8.2) ∧ True ∧ True ∧ True) <|
 (bo P .add 9 (.tmp 5) (.const (Go.Value.string { data := #[46] })) r8.1 (Go.Value.string { data := #[46] }) r8.2).bind fun r9 =>
 ifP (r9.2 = r8.2) <|
 (EV P 31 #[r7.1] r8.2).bind fun r10 =>
 ifP (bo P .add 9 (.tmp 5) (.const (Go.Value.string { data := #[46] })) r8.1 (Go.Value.string { data := #[46] }) r10.2 = some (r9.1, r10.2) ∧ True ∧ True ∧ True ∧ True ∧ True) <|
 (bo P .add 9 (.tmp 6) (.tmp 9) r9.1 r10.1 r10.2).bind fun r11 =>
 ifP (r11.2 = r10.2) <|
 (vl r11.1 r10.2).bind fun r12 =>
 ifP (r12.2 = r10.2) <|
 some (r12.1, r10.2) := by kernel_rfl
theorem impl_Tag_text_fn (x0 : Value) (w : World) : fnC P (EV P) 19 #[x0] w =
 (bx P 25 x0 w).bind fun r1 =>
 (vl (Go.Value.string { data := #[] }) r1.2).bind fun r2 =>
 (fa P 25 r1.1 0 (dw r2.2)).bind fun r4 =>
 ifP (r4.2 = (dw r2.2)) <|
 (ld P 3 r4.1 (dw r2.2)).bind fun r5 =>
 ifP (r5.2 = (dw r2.2)) <|
 (fa P 25 r1.1 1 (dw r2.2)).bind fun r6 =>
 ifP (r6.2 = (dw r2.2)) <|
 (ld P 3 r6.1 (dw r2.2)).bind fun r7 =>
 ifP (r7.2 = (dw r2.2)) <|
 (EV P 32 #[r5.1] (dw r2.2)).bind fun r8 =>
 ifP (ld P 3 r6.1 r8.2 = some (r7.1, r8.2) ∧ fa P 25 r1.1 1 r8.2 = some (r6.1, r8.2) ∧ True ∧ True ∧ True) <|
 (bo P .add 9 (.tmp 5) (.const (Go.Value.string { data := #[46] })) r8.1 (Go.Value.string { data := #[46] }) r8.2).bind fun r9 =>
 ifP (r9.2 = r8.2) <|
 (EV P 32 #[r7.1] r8.2).bind fun r10 =>
 ifP (bo P .add 9 (.tmp 5) (.const (Go.Value.string { data := #[46] })) r8.1 (Go.Value.string { data := #[46] }) r10.2 = some (r9.1, r10.2) ∧ True ∧ True ∧ True ∧ True ∧ True) <|
 (bo P .add 9 (.tmp 6) (.tmp 9) r9.1 r10.1 r10.2).bind fun r11 =>
 ifP (r11.2 = r10.2) <|
 (vl r11.1 r10.2).bind fun r12 =>
 ifP (r12.2 = r10.2) <|
 some (r12.1, r10.2) := by kernel_rfl
noncomputable def spec_l1Cut_l1 (e : Env) (w : World) : Option (Value × World) := exC P (EV P) 20 43 (.loop (cA (cA (cB (cA (cB (cB (cB (bodyOf P 20))))))))) e w (kBlock 0 (kSeq P (EV P) 20 43 (cB (cB (cB (cB (bodyOf P 20))))) (kFn P (fnOf P 20))))
noncomputable def spec_l1Cut_j1 (e : Env) (w : World) : Option (Value × World) := exC P (EV P) 20 43 (cB (cB (cA (cA (cB (cA (cB (cB (cB (bodyOf P 20)))))))))) e w (kLoop P (EV P) 20 43 (cA (cA (cB (cA (cB (cB (cB (bodyOf P 20)))))))) (kBlock 0 (kSeq P (EV P) 20 43 (cB (cB (cB (cB (bodyOf P 20))))) (kFn P (fnOf P 20)))))
theorem spec_l1Cut_l1_eq (e : Env) (w : World) : spec_l1Cut_l1 e w =
 (vl (e 9) w).bind fun r1 =>
 (vl (e 0) r1.2).bind fun r2 =>
 (b_len P #[9] 3 #[r2.1] r2.2).bind fun r3 =>
 (bo P .lss 3 (.tmp 11) (.tmp 13) r1.1 r3.1 r3.2).bind fun r4 =>
 (vl r4.1 r4.2).bind fun r5 =>
 (gif r5.1 true (vl (e 7) r5.2) r5.2).bind fun r6 =>
 (gif r5.1 true (b_len P #[38] 3 #[r6.1] r6.2) r6.2).bind fun r7 =>
 (gif r5.1 true (vl (e 2) r7.2) r7.2).bind fun r8 =>
 (gif r5.1 true (bo P .lss 3 (.tmp 17) (.tmp 18) r7.1 r8.1 r8.2) r8.2).bind fun r9 =>
 (pickV r5.1 r9.1 (.bool false) r9.2).bind fun r10 =>
 cnd r10.1 (
 (vl (e 0) r10.2).bind fun r11 =>
 (vl (e 9) r11.2).bind fun r12 =>
 (ix P 9 r11.1 r12.1 r12.2).bind fun r13 =>
 (vl (e 1) r13.2).bind fun r14 =>
 (bo P .eql 5 (.tmp 25) (.tmp 26) r13.1 r14.1 r14.2).bind fun r15 =>
 cnd r15.1 (
 (vl (e 7) r15.2).bind fun r16 =>
 (vl (e 0) r16.2).bind fun r17 =>
 (vl (e 8) r17.2).bind fun r18 =>
 (vl (e 9) r18.2).bind fun r19 =>
 (sl P 9 r17.1 (some r18.1) (some r19.1) none r19.2).bind fun r20 =>
 (bs P 38 1 #[(0, r20.1)] r20.2).bind fun r21 =>
 (b_append P #[38, 38] 38 #[r16.1, r21.1] r21.2).bind fun r22 =>
 (vl r22.1 r22.2).bind fun r23 =>
 (vl (e 9) r23.2).bind fun r24 =>
 (bo P .add 3 (.tmp 35) (.const (.int .i64 1)) r24.1 (.int .i64 1) r24.2).bind fun r25 =>
 (vl r25.1 r25.2).bind fun r26 =>
 spec_l1Cut_j1 (ups e [(11, r1.1), (12, r2.1), (13, r3.1), (14, r4.1), (15, r5.1), (16, r6.1), (17, r7.1), (18, r8.1), (19, r9.1), (20, r10.1), (23, r11.1), (24, r12.1), (25, r13.1), (26, r14.1), (27, r15.1), (28, r16.1), (29, r17.1), (30, r18.1), (31, r19.1), (32, r20.1), (33, r21.1), (34, r22.1), (7, r23.1), (35, r24.1), (36, r25.1), (8, r26.1)]) r26.2) (
 spec_l1Cut_j1 (ups e [(11, r1.1), (12, r2.1), (13, r3.1), (14, r4.1), (15, r5.1), (16, r6.1), (17, r7.1), (18, r8.1), (19, r9.1), (20, r10.1), (23, r11.1), (24, r12.1), (25, r13.1), (26, r14.1), (27, r15.1)]) r15.2)) (
 (vl (e 7) r10.2).bind fun r27 =>
 (vl (e 0) r27.2).bind fun r28 =>
 (vl (e 8) r28.2).bind fun r29 =>
 (sl P 9 r28.1 (some r29.1) none none r29.2).bind fun r30 =>
 (bs P 38 1 #[(0, r30.1)] r30.2).bind fun r31 =>
 (b_append P #[38, 38] 38 #[r27.1, r31.1] r31.2).bind fun r32 =>
 (vl r32.1 r32.2).bind fun r33 =>
 some (r33.1, r33.2)) := (exC_loop P (EV P) 20 43 (cA (cA (cB (cA (cB (cB (cB (bodyOf P 20)))))))) e w (kBlock 0 (kSeq P (EV P) 20 43 (cB (cB (cB (cB (bodyOf P 20))))) (kFn P (fnOf P 20))))).trans (by kernel_rfl)
theorem spec_l1Cut_j1_eq (e : Env) (w : World) : spec_l1Cut_j1 e w =
 (vl (e 9) w).bind fun r1 =>
 (bo P .add 3 (.tmp 21) (.const (.int .i64 1)) r1.1 (.int .i64 1) r1.2).bind fun r2 =>
 (vl r2.1 r2.2).bind fun r3 =>
 spec_l1Cut_l1 (ups e [(21, r1.1), (22, r2.1), (9, r3.1)]) r3.2 := by kernel_rfl
theorem spec_l1Cut_fn (x0 x1 x2 : Value) (w : World) : fnC P (EV P) 20 #[x0, x1, x2] w =
 (vl (Go.Value.slice none 0 0) w).bind fun r1 =>
 (bs P 38 0 #[] r1.2).bind fun r2 =>
 (vl r2.1 r2.2).bind fun r3 =>
 (vl (.int .i64 0) r3.2).bind fun r4 =>
 (vl (.int .i64 0) r4.2).bind fun r5 =>
 spec_l1Cut_l1 (ups (env0 #[x0, x1, x2]) [(6, r1.1), (10, r2.1), (7, r3.1), (8, r4.1), (9, r5.1)]) r5.2 := by kernel_rfl
noncomputable def spec_l1Num_l1 (e : Env) (w : World) : Option (Value × World) := exC P (EV P) 21 47 (.loop (cA (cA (cB (cA (cB (cB (bodyOf P 21)))))))) e w (kBlock 0 (kSeq P (EV P) 21 47 (cB (cB (cB (bodyOf P 21)))) (kFn P (fnOf P 21))))
theorem spec_l1Num_l1_eq (e : Env) (w : World) : spec_l1Num_l1 e w =
 (vl (e 4) w).bind fun r1 =>
 (vl (e 0) r1.2).bind fun r2 =>
 (b_len P #[9] 3 #[r2.1] r2.2).bind fun r3 =>
 (bo P .lss 3 (.tmp 5) (.tmp 7) r1.1 r3.1 r3.2).bind fun r4 =>
 cnd r4.1 (
 (vl (e 0) r4.2).bind fun r5 =>
 (vl (e 4) r5.2).bind fun r6 =>
 (ix P 9 r5.1 r6.1 r6.2).bind fun r7 =>
 (bo P .lss 5 (.tmp 13) (.const (.int .u8 48)) r7.1 (.int .u8 48) r7.2).bind fun r8 =>
 (vl r8.1 r8.2).bind fun r9 =>
 (gif r9.1 false (vl (e 0) r9.2) r9.2).bind fun r10 =>
 (gif r9.1 false (vl (e 4) r10.2) r10.2).bind fun r11 =>
 (gif r9.1 false (ix P 9 r10.1 r11.1 r11.2) r11.2).bind fun r12 =>
 (gif r9.1 false (bo P .gtr 5 (.tmp 18) (.const (.int .u8 57)) r12.1 (.int .u8 57) r12.2) r12.2).bind fun r13 =>
 (pickV r9.1 (.bool true) r13.1 r13.2).bind fun r14 =>
 (vl r14.1 r14.2).bind fun r15 =>
 (gif r15.1 false (vl (e 4) r15.2) r15.2).bind fun r16 =>
 (gif r15.1 false (bo P .geq 3 (.tmp 22) (.const (.int .i64 6)) r16.1 (.int .i64 6) r16.2) r16.2).bind fun r17 =>
 (pickV r15.1 (.bool true) r17.1 r17.2).bind fun r18 =>
 cnd r18.1 (
 (vl (.int .i64 (-1)) r18.2).bind fun r19 =>
 some (r19.1, r19.2)) (
 (vl (e 3) r18.2).bind fun r20 =>
 (bo P .mul 3 (.tmp 25) (.const (.int .i64 10)) r20.1 (.int .i64 10) r20.2).bind fun r21 =>
 (vl (e 0) r21.2).bind fun r22 =>
 (vl (e 4) r22.2).bind fun r23 =>
 (ix P 9 r22.1 r23.1 r23.2).bind fun r24 =>
 (bo P .sub 5 (.tmp 29) (.const (.int .u8 48)) r24.1 (.int .u8 48) r24.2).bind fun r25 =>
 (cv P 5 3 r25.1 r25.2).bind fun r26 =>
 (bo P .add 3 (.tmp 26) (.tmp 31) r21.1 r26.1 r26.2).bind fun r27 =>
 (vl r27.1 r27.2).bind fun r28 =>
 (vl (e 4) r28.2).bind fun r29 =>
 (bo P .add 3 (.tmp 9) (.const (.int .i64 1)) r29.1 (.int .i64 1) r29.2).bind fun r30 =>
 (vl r30.1 r30.2).bind fun r31 =>
 spec_l1Num_l1 (ups e [(5, r1.1), (6, r2.1), (7, r3.1), (8, r4.1), (11, r5.1), (12, r6.1), (13, r7.1), (14, r8.1), (15, r9.1), (16, r10.1), (17, r11.1), (18, r12.1), (19, r13.1), (20, r14.1), (21, r15.1), (22, r16.1), (23, r17.1), (24, r18.1), (25, r20.1), (26, r21.1), (27, r22.1), (28, r23.1), (29, r24.1), (30, r25.1), (31, r26.1), (32, r27.1), (3, r28.1), (9, r29.1), (10, r30.1), (4, r31.1)]) r31.2)) (
 (vl (e 0) r4.2).bind fun r32 =>
 (b_len P #[9] 3 #[r32.1] r32.2).bind fun r33 =>
 (bo P .eql 3 (.tmp 34) (.const (.int .i64 0)) r33.1 (.int .i64 0) r33.2).bind fun r34 =>
 (vl r34.1 r34.2).bind fun r35 =>
 (gif r35.1 false (vl (e 0) r35.2) r35.2).bind fun r36 =>
 (gif r35.1 false (b_len P #[9] 3 #[r36.1] r36.2) r36.2).bind fun r37 =>
 (gif r35.1 false (bo P .gtr 3 (.tmp 38) (.const (.int .i64 1)) r37.1 (.int .i64 1) r37.2) r37.2).bind fun r38 =>
 (gif r35.1 false (vl r38.1 r38.2) r38.2).bind fun r39 =>
 (gif r39.1 true (vl (e 0) r39.2) r39.2).bind fun r40 =>
 (gif r39.1 true (ix P 9 r40.1 (.int .i64 0) r40.2) r40.2).bind fun r41 =>
 (gif r39.1 true (bo P .eql 5 (.tmp 42) (.const (.int .u8 48)) r41.1 (.int .u8 48) r41.2) r41.2).bind fun r42 =>
 (gif r35.1 false (pickV r39.1 r42.1 (.bool false) r42.2) r42.2).bind fun r43 =>
 (pickV r35.1 (.bool true) r43.1 r43.2).bind fun r44 =>
 cnd r44.1 (
 (vl (.int .i64 (-1)) r44.2).bind fun r45 =>
 some (r45.1, r45.2)) (
 (vl (e 3) r44.2).bind fun r46 =>
 (vl r46.1 r46.2).bind fun r47 =>
 some (r47.1, r47.2))) := (exC_loop P (EV P) 21 47 (cA (cA (cB (cA (cB (cB (bodyOf P 21))))))) e w (kBlock 0 (kSeq P (EV P) 21 47 (cB (cB (cB (bodyOf P 21)))) (kFn P (fnOf P 21))))).trans (by kernel_rfl)
theorem spec_l1Num_fn (x0 : Value) (w : World) : fnC P (EV P) 21 #[x0] w =
 (vl (.int .i64 0) w).bind fun r1 =>
 (vl (.int .i64 0) r1.2).bind fun r2 =>
 (vl (.int .i64 0) r2.2).bind fun r3 =>
 spec_l1Num_l1 (ups (env0 #[x0]) [(2, r1.1), (3, r2.1), (4, r3.1)]) r3.2 := by kernel_rfl
theorem strings_Cut_fn (x0 x1 : Value) (w : World) : fnC P (EV P) 22 #[x0, x1] w =
 (vl (Go.Value.string { data := #[] }) w).bind fun r1 =>
 (vl (Go.Value.string { data := #[] }) r1.2).bind fun r2 =>
 (vl (.bool false) r2.2).bind fun r3 =>
 (vl x0 r3.2).bind fun r4 =>
 (vl x1 r4.2).bind fun r5 =>
 (EV P 33 #[r4.1, r5.1] r5.2).bind fun r6 =>
 (xt P r6.1 0 r6.2).bind fun r7 =>
 (xt P r6.1 1 r7.2).bind fun r8 =>
 (xt P r6.1 2 r8.2).bind fun r9 =>
 (vl r7.1 r9.2).bind fun r10 =>
 (vl r8.1 r10.2).bind fun r11 =>
 (vl r9.1 r11.2).bind fun r12 =>
 some (.tuple #[r10.1, r11.1, r12.1], r12.2) := by kernel_rfl
theorem strconv_Atoi_fn (x0 : Value) (w : World) : fnC P (EV P) 23 #[x0] w =
 (vl (.int .i64 0) w).bind fun r1 =>
 (vl Go.Value.nilIface r1.2).bind fun r2 =>
 (vl x0 r2.2).bind fun r3 =>
 (EV P 34 #[r3.1] r3.2).bind fun r4 =>
 (vl r4.1 r4.2).bind fun r5 =>
 (xt P r5.1 0 r5.2).bind fun r6 =>
 (xt P r5.1 1 r6.2).bind fun r7 =>
 (vl r6.1 r7.2).bind fun r8 =>
 (vl r7.1 r8.2).bind fun r9 =>
 (vl r9.1 r9.2).bind fun r10 =>
 (bo P .neq 44 (.tmp 11) (.const Go.Value.nilIface) r10.1 Go.Value.nilIface r10.2).bind fun r11 =>
 cnd r11.1 (
 (vl r8.1 r11.2).bind fun r12 =>
 (vl x0 r12.2).bind fun r13 =>
 (vl r9.1 r13.2).bind fun r14 =>
 (EV P 35 #[(Go.Value.string { data := #[65, 116, 111, 105] }), r13.1, (.int .i64 0), (.int .i64 0), r14.1] r14.2).bind fun r15 =>
 (vl r12.1 r15.2).bind fun r16 =>
 (vl r15.1 r16.2).bind fun r17 =>
 some (.tuple #[r16.1, r17.1], r17.2)) (
 (vl r8.1 r11.2).bind fun r18 =>
 (vl r18.1 r18.2).bind fun r19 =>
 (vl Go.Value.nilIface r19.2).bind fun r20 =>
 some (.tuple #[r19.1, r20.1], r20.2)) := by kernel_rfl
theorem spec_l20AnyTag_fn (x0 : Value) (w : World) : fnC P (EV P) 24 #[x0] w =
 (al P 25 w).bind fun r1 =>
 (vl x0 r1.2).bind fun r2 =>
 (EV P 28 #[r2.1, (.int .i64 8)] r2.2).bind fun r3 =>
 (bo P .eql 3 (.tmp 4) (.const (.int .i64 0)) r3.1 (.int .i64 0) r3.2).bind fun r4 =>
 cnd r4.1 (
 (vl x0 r4.2).bind fun r5 =>
 (bs P 57 4 #[(0, (.int .i64 0)), (1, (.int .i64 (-1))), (2, (.int .i64 1000)), (3, (.int .i64 999))] r5.2).bind fun r6 =>
 (EV P 36 #[r5.1, r6.1] r6.2).bind fun r7 =>
 (vl x0 r7.2).bind fun r8 =>
 (bs P 57 4 #[(0, (.int .i64 0)), (1, (.int .i64 1)), (2, (.int .i64 3)), (3, (.int .i64 (-1)))] r8.2).bind fun r9 =>
 (EV P 36 #[r8.1, r9.1] r9.2).bind fun r10 =>
 (bd P 25 #[(0, r7.1), (1, r10.1)] r10.2).bind fun r11 =>
 (st P 25 r1.1 r11.1 r11.2).bind fun r12 =>
 ((ld P 25 r1.1 r12.2).bind fun r13 => ifP (r13.2 = r12.2) (some r13.1)).bind fun v14 =>
 some (v14, r12.2)) (
 (vl x0 r4.2).bind fun r15 =>
 (EV P 37 #[r15.1] r15.2).bind fun r16 =>
 (st P 25 r1.1 r16.1 r16.2).bind fun r17 =>
 ((ld P 25 r1.1 r17.2).bind fun r18 => ifP (r18.2 = r17.2) (some r18.1)).bind fun v19 =>
 some (v19, r17.2)) := by kernel_rfl
noncomputable def spec_l20Open_j1 (e : Env) (w : World) : Option (Value × World) := exC P (EV P) 25 11 (cB (cB (bodyOf P 25))) e w (kFn P (fnOf P 25))
theorem spec_l20Open_j1_eq (e : Env) (w : World) : spec_l20Open_j1 e w =
 (vl (e 0) w).bind fun r1 =>
 (bd P 59 #[(0, r1.1)] r1.2).bind fun r2 =>
 (bx P 59 r2.1 r2.2).bind fun r3 =>
 (vl r3.1 r3.2).bind fun r4 =>
 some (r4.1, r4.2) := by kernel_rfl
theorem spec_l20Open_fn (x0 : Value) (w : World) : fnC P (EV P) 25 #[x0] w =
 (vl (Go.Value.pointer none) w).bind fun r1 =>
 (vl x0 r1.2).bind fun r2 =>
 (b_len P #[32] 3 #[r2.1] r2.2).bind fun r3 =>
 (bo P .gtr 3 (.tmp 4) (.const (.int .i64 2000)) r3.1 (.int .i64 2000) r3.2).bind fun r4 =>
 cnd r4.1 (
 (vl x0 r4.2).bind fun r5 =>
 (sl P 32 r5.1 none (some (.int .i64 2000)) none r5.2).bind fun r6 =>
 (vl r6.1 r6.2).bind fun r7 =>
 spec_l20Open_j1 (ups (env0 #[x0]) [(2, r1.1), (3, r2.1), (4, r3.1), (5, r4.1), (6, r5.1), (7, r6.1), (0, r7.1)]) r7.2) (
 spec_l20Open_j1 (ups (env0 #[x0]) [(2, r1.1), (3, r2.1), (4, r3.1), (5, r4.1)]) r4.2) := by kernel_rfl
theorem impl_within_fn (x0 x1 x2 : Value) (w : World) : fnC P (EV P) 26 #[x0, x1, x2] w =
 (vl (.bool false) w).bind fun r1 =>
 (vl x0 r1.2).bind fun r2 =>
 (vl x1 r2.2).bind fun r3 =>
 (bo P .geq 3 (.tmp 7) (.tmp 8) r2.1 r3.1 r3.2).bind fun r4 =>
 (vl r4.1 r4.2).bind fun r5 =>
 (gif r5.1 true (vl x0 r5.2) r5.2).bind fun r6 =>
 (gif r5.1 true (vl x2 r6.2) r6.2).bind fun r7 =>
 (gif r5.1 true (bo P .leq 3 (.tmp 11) (.tmp 12) r6.1 r7.1 r7.2) r7.2).bind fun r8 =>
 (pickV r5.1 r8.1 (.bool false) r8.2).bind fun r9 =>
 (vl r9.1 r9.2).bind fun r10 =>
 some (r10.1, r10.2) := by kernel_rfl
theorem impl_placeOk_fn (x0 : Value) (w : World) : fnC P (EV P) 27 #[x0] w =
 (vl (.bool false) w).bind fun r1 =>
 (vl x0 r1.2).bind fun r2 =>
 (EV P 26 #[r2.1, (.int .i64 0), (.int .i64 2)] r2.2).bind fun r3 =>
 (vl r3.1 r3.2).bind fun r4 =>
 some (r4.1, r4.2) := by kernel_rfl
theorem spec_l20Rd_pick_fn (x0 x1 : Value) (w : World) : fnC P (EV P) 28 #[x0, x1] w =
 (vl (.int .i64 0) w).bind fun r1 =>
 (vl x0 r1.2).bind fun r2 =>
 (vl x0 r2.2).bind fun r3 =>
 (nk P r3.1 r3.2).bind fun r4 =>
 (fa P 59 r4.1 1 r4.2).bind fun r5 =>
 (ld P 3 r5.1 r5.2).bind fun r6 =>
 (bo P .add 3 (.tmp 11) (.const (.int .i64 1)) r6.1 (.int .i64 1) r6.2).bind fun r7 =>
 (nk P r2.1 r7.2).bind fun r8 =>
 (fa P 59 r8.1 1 r8.2).bind fun r9 =>
 (st P 3 r9.1 r7.1 r9.2).bind fun r10 =>
 (vl x1 r10.2).bind fun r11 =>
 (bo P .lss 3 (.tmp 15) (.const (.int .i64 1)) r11.1 (.int .i64 1) r11.2).bind fun r12 =>
 (vl r12.1 r12.2).bind fun r13 =>
 (gif r13.1 false (vl x0 r13.2) r13.2).bind fun r14 =>
 (gif r13.1 false (nk P r14.1 r14.2) r14.2).bind fun r15 =>
 (gif r13.1 false (fa P 59 r15.1 0 r15.2) r15.2).bind fun r16 =>
 (gif r13.1 false (ld P 32 r16.1 r16.2) r16.2).bind fun r17 =>
 (gif r13.1 false (b_len P #[32] 3 #[r17.1] r17.2) r17.2).bind fun r18 =>
 (gif r13.1 false (bo P .eql 3 (.tmp 22) (.const (.int .i64 0)) r18.1 (.int .i64 0) r18.2) r18.2).bind fun r19 =>
 (pickV r13.1 (.bool true) r19.1 r19.2).bind fun r20 =>
 cnd r20.1 (
 (vl (.int .i64 0) r20.2).bind fun r21 =>
 some (r21.1, r21.2)) (
 (vl x0 r20.2).bind fun r22 =>
 (nk P r22.1 r22.2).bind fun r23 =>
 (fa P 59 r23.1 1 r23.2).bind fun r24 =>
 (ld P 3 r24.1 r24.2).bind fun r25 =>
 (bo P .sub 3 (.tmp 28) (.const (.int .i64 1)) r25.1 (.int .i64 1) r25.2).bind fun r26 =>
 (vl r26.1 r26.2).bind fun r27 =>
 (vl r27.1 r27.2).bind fun r28 =>
 (vl x0 r28.2).bind fun r29 =>
 (nk P r29.1 r29.2).bind fun r30 =>
 (fa P 59 r30.1 0 r30.2).bind fun r31 =>
 (ld P 32 r31.1 r31.2).bind fun r32 =>
 (b_len P #[32] 3 #[r32.1] r32.2).bind fun r33 =>
 (bo P .lss 3 (.tmp 30) (.tmp 35) r28.1 r33.1 r33.2).bind fun r34 =>
 cnd r34.1 (
 (vl x0 r34.2).bind fun r35 =>
 (nk P r35.1 r35.2).bind fun r36 =>
 (fa P 59 r36.1 0 r36.2).bind fun r37 =>
 (ld P 32 r37.1 r37.2).bind fun r38 =>
 (vl r27.1 r38.2).bind fun r39 =>
 (ia P 32 r38.1 r39.1 r39.2).bind fun r40 =>
 (ld P 5 r40.1 r40.2).bind fun r41 =>
 (cv P 5 3 r41.1 r41.2).bind fun r42 =>
 (vl x1 r42.2).bind fun r43 =>
 (bo P .rem 3 (.tmp 44) (.tmp 45) r42.1 r43.1 r43.2).bind fun r44 =>
 (vl r44.1 r44.2).bind fun r45 =>
 some (r45.1, r45.2)) (
 (vl x0 (dw r34.2)).bind fun r47 =>
 ifP (r47.2 = (dw r34.2)) <|
 (nk P r47.1 (dw r34.2)).bind fun r48 =>
 ifP (r48.2 = (dw r34.2)) <|
 (fa P 59 r48.1 0 (dw r34.2)).bind fun r49 =>
 ifP (r49.2 = (dw r34.2)) <|
 (ld P 32 r49.1 (dw r34.2)).bind fun r50 =>
 ifP (r50.2 = (dw r34.2)) <|
 (vl r27.1 (dw r34.2)).bind fun r51 =>
 ifP (r51.2 = (dw r34.2)) <|
 (vl x0 (dw r34.2)).bind fun r52 =>
 ifP (r52.2 = (dw r34.2)) <|
 (nk P r52.1 (dw r34.2)).bind fun r53 =>
 ifP (r53.2 = (dw r34.2)) <|
 (fa P 59 r53.1 0 (dw r34.2)).bind fun r54 =>
 ifP (r54.2 = (dw r34.2)) <|
 (ld P 32 r54.1 (dw r34.2)).bind fun r55 =>
 ifP (r55.2 = (dw r34.2)) <|
 (b_len P #[32] 3 #[r55.1] (dw r34.2)).bind fun r56 =>
 ifP (r56.2 = (dw r34.2)) <|
 (bo P .rem 3 (.tmp 51) (.tmp 56) r51.1 r56.1 (dw r34.2)).bind fun r57 =>
 ifP (r57.2 = (dw r34.2)) <|
 (ia P 32 r50.1 r57.1 (dw r34.2)).bind fun r58 =>
 ifP (r58.2 = (dw r34.2)) <|
 (ld P 5 r58.1 (dw r34.2)).bind fun r59 =>
 ifP (r59.2 = (dw r34.2)) <|
 (cv P 5 3 r59.1 (dw r34.2)).bind fun r60 =>
 ifP (r60.2 = (dw r34.2)) <|
 (bo P .mul 3 (.tmp 60) (.const (.int .i64 131)) r60.1 (.int .i64 131) (dw r34.2)).bind fun r61 =>
 ifP (r61.2 = (dw r34.2)) <|
 (vl x0 (dw r34.2)).bind fun r62 =>
 ifP (r62.2 = (dw r34.2)) <|
 (nk P r62.1 (dw r34.2)).bind fun r63 =>
 ifP (r63.2 = (dw r34.2)) <|
 (fa P 59 r63.1 0 (dw r34.2)).bind fun r64 =>
 ifP (r64.2 = (dw r34.2)) <|
 (ld P 32 r64.1 (dw r34.2)).bind fun r65 =>
 ifP (r65.2 = (dw r34.2)) <|
 (vl r27.1 (dw r34.2)).bind fun r66 =>
 ifP (r66.2 = (dw r34.2)) <|
 (bo P .mul 3 (.tmp 66) (.const (.int .i64 7)) r66.1 (.int .i64 7) (dw r34.2)).bind fun r67 =>
 ifP (r67.2 = (dw r34.2)) <|
 (bo P .add 3 (.tmp 67) (.const (.int .i64 3)) r67.1 (.int .i64 3) (dw r34.2)).bind fun r68 =>
 ifP (r68.2 = (dw r34.2)) <|
 (vl x0 (dw r34.2)).bind fun r69 =>
 ifP (r69.2 = (dw r34.2)) <|
 (nk P r69.1 (dw r34.2)).bind fun r70 =>
 ifP (r70.2 = (dw r34.2)) <|
 (fa P 59 r70.1 0 (dw r34.2)).bind fun r71 =>
 ifP (r71.2 = (dw r34.2)) <|
 (ld P 32 r71.1 (dw r34.2)).bind fun r72 =>
 ifP (r72.2 = (dw r34.2)) <|
 (b_len P #[32] 3 #[r72.1] (dw r34.2)).bind fun r73 =>
 ifP (r73.2 = (dw r34.2)) <|
 (bo P .rem 3 (.tmp 68) (.tmp 73) r68.1 r73.1 (dw r34.2)).bind fun r74 =>
 ifP (r74.2 = (dw r34.2)) <|
 (ia P 32 r65.1 r74.1 (dw r34.2)).bind fun r75 =>
 ifP (r75.2 = (dw r34.2)) <|
 (ld P 5 r75.1 (dw r34.2)).bind fun r76 =>
 ifP (r76.2 = (dw r34.2)) <|
 (cv P 5 3 r76.1 (dw r34.2)).bind fun r77 =>
 ifP (r77.2 = (dw r34.2)) <|
 (bo P .mul 3 (.tmp 77) (.const (.int .i64 1117)) r77.1 (.int .i64 1117) (dw r34.2)).bind fun r78 =>
 ifP (r78.2 = (dw r34.2)) <|
 (bo P .add 3 (.tmp 61) (.tmp 78) r61.1 r78.1 (dw r34.2)).bind fun r79 =>
 ifP (r79.2 = (dw r34.2)) <|
 (vl r27.1 (dw r34.2)).bind fun r80 =>
 ifP (r80.2 = (dw r34.2)) <|
 (bo P .mul 3 (.tmp 80) (.const (.int .i64 29)) r80.1 (.int .i64 29) (dw r34.2)).bind fun r81 =>
 ifP (r81.2 = (dw r34.2)) <|
 (bo P .add 3 (.tmp 79) (.tmp 81) r79.1 r81.1 (dw r34.2)).bind fun r82 =>
 ifP (r82.2 = (dw r34.2)) <|
 (vl r27.1 (dw r34.2)).bind fun r83 =>
 ifP (r83.2 = (dw r34.2)) <|
 (vl x0 (dw r34.2)).bind fun r84 =>
 ifP (r84.2 = (dw r34.2)) <|
 (nk P r84.1 (dw r34.2)).bind fun r85 =>
 ifP (r85.2 = (dw r34.2)) <|
 (fa P 59 r85.1 0 (dw r34.2)).bind fun r86 =>
 ifP (r86.2 = (dw r34.2)) <|
 (ld P 32 r86.1 (dw r34.2)).bind fun r87 =>
 ifP (r87.2 = (dw r34.2)) <|
 (b_len P #[32] 3 #[r87.1] (dw r34.2)).bind fun r88 =>
 ifP (r88.2 = (dw r34.2)) <|
 (bo P .quo 3 (.tmp 83) (.tmp 88) r83.1 r88.1 (dw r34.2)).bind fun r89 =>
 ifP (r89.2 = (dw r34.2)) <|
 (bo P .mul 3 (.tmp 89) (.const (.int .i64 53)) r89.1 (.int .i64 53) (dw r34.2)).bind fun r90 =>
 ifP (r90.2 = (dw r34.2)) <|
 (bo P .add 3 (.tmp 82) (.tmp 90) r82.1 r90.1 (dw r34.2)).bind fun r91 =>
 ifP (r91.2 = (dw r34.2)) <|
 (vl r91.1 (dw r34.2)).bind fun r92 =>
 ifP (r92.2 = (dw r34.2)) <|
 (vl r92.1 (dw r34.2)).bind fun r93 =>
 (vl r92.1 r93.2).bind fun r94 =>
 (bo P .quo 3 (.tmp 93) (.const (.int .i64 64)) r94.1 (.int .i64 64) r94.2).bind fun r95 =>
 (bo P .xor 3 (.tmp 92) (.tmp 94) r93.1 r95.1 r95.2).bind fun r96 =>
 (vl r96.1 r96.2).bind fun r97 =>
 (vl r97.1 r97.2).bind fun r98 =>
 (vl x1 r98.2).bind fun r99 =>
 (bo P .rem 3 (.tmp 96) (.tmp 97) r98.1 r99.1 r99.2).bind fun r100 =>
 (vl r100.1 r100.2).bind fun r101 =>
 some (r101.1, r101.2))) := by kernel_rfl
noncomputable def spec_l20Bent_j1 (e : Env) (w : World) : Option (Value × World) := exC P (EV P) 29 44 (cB (cB (cB (bodyOf P 29)))) e w (kFn P (fnOf P 29))
theorem spec_l20Bent_j1_eq (e : Env) (w : World) : spec_l20Bent_j1 e w =
 (vl (e 1) w).bind fun r1 =>
 (vl r1.1 r1.2).bind fun r2 =>
 some (r2.1, r2.2) := by kernel_rfl
theorem spec_l20Bent_fn (x0 x1 : Value) (w : World) : fnC P (EV P) 29 #[x0, x1] w =
 (vl (Go.Value.string { data := #[] }) w).bind fun r1 =>
 (vl x0 r1.2).bind fun r2 =>
 (vl x1 r2.2).bind fun r3 =>
 (b_len P #[9] 3 #[r3.1] r3.2).bind fun r4 =>
 (bo P .add 3 (.tmp 8) (.const (.int .i64 1)) r4.1 (.int .i64 1) r4.2).bind fun r5 =>
 (EV P 28 #[r2.1, r5.1] r5.2).bind fun r6 =>
 (vl r6.1 r6.2).bind fun r7 =>
 (vl x0 r7.2).bind fun r8 =>
 (EV P 28 #[r8.1, (.int .i64 5)] r8.2).bind fun r9 =>
 (bo P .eql 3 (.tmp 12) (.const (.int .i64 0)) r9.1 (.int .i64 0) r9.2).bind fun r10 =>
 (vl r10.1 r10.2).bind fun r11 =>
 cnd r11.1 (
 (vl r7.1 r11.2).bind fun r12 =>
 (vl x1 r12.2).bind fun r13 =>
 (b_len P #[9] 3 #[r13.1] r13.2).bind fun r14 =>
 (bo P .lss 3 (.tmp 15) (.tmp 17) r12.1 r14.1 r14.2).bind fun r15 =>
 cnd r15.1 (
 (vl x1 (dw r15.2)).bind fun r17 =>
 ifP (r17.2 = (dw r15.2)) <|
 (vl r7.1 (dw r15.2)).bind fun r18 =>
 ifP (r18.2 = (dw r15.2)) <|
 (sl P 9 r17.1 none (some r18.1) none (dw r15.2)).bind fun r19 =>
 ifP (r19.2 = (dw r15.2)) <|
 (vl x0 (dw r15.2)).bind fun r20 =>
 ifP (r20.2 = (dw r15.2)) <|
 (vl x1 (dw r15.2)).bind fun r21 =>
 ifP (r21.2 = (dw r15.2)) <|
 (vl r7.1 (dw r15.2)).bind fun r22 =>
 ifP (r22.2 = (dw r15.2)) <|
 (bo P .add 3 (.tmp 27) (.const (.int .i64 1)) r22.1 (.int .i64 1) (dw r15.2)).bind fun r23 =>
 ifP (r23.2 = (dw r15.2)) <|
 (sl P 9 r21.1 (some r23.1) none none (dw r15.2)).bind fun r24 =>
 ifP (r24.2 = (dw r15.2)) <|
 (bs P 38 8 #[(0, (Go.Value.string { data := #[48] })), (1, (Go.Value.string { data := #[49] })), (2, (Go.Value.string { data := #[32] })), (3, (Go.Value.string { data := #[46] })), (4, (Go.Value.string { data := #[35] })), (5, (Go.Value.string { data := #[61] })), (6, (Go.Value.string { data := #[10] })), (7, (Go.Value.string { data := #[57] }))] (dw r15.2)).bind fun r25 =>
 ifP (sl P 9 r21.1 (some r23.1) none none r25.2 = some (r24.1, r25.2) ∧ bo P .add 3 (.tmp 27) (.const (.int .i64 1)) r22.1 (.int .i64 1) r25.2 = some (r23.1, r25.2) ∧ sl P 9 r17.1 none (some r18.1) none r25.2 = some (r19.1, r25.2) ∧ True) <|
 (EV P 38 #[r20.1, r25.1] r25.2).bind fun r26 =>
 ifP (sl P 9 r21.1 (some r23.1) none none r26.2 = some (r24.1, r26.2) ∧ bo P .add 3 (.tmp 27) (.const (.int .i64 1)) r22.1 (.int .i64 1) r26.2 = some (r23.1, r26.2) ∧ sl P 9 r17.1 none (some r18.1) none r26.2 = some (r19.1, r26.2) ∧ True) <|
 (bo P .add 9 (.tmp 21) (.tmp 24) r19.1 r26.1 r26.2).bind fun r27 =>
 ifP (r27.2 = r26.2) <|
 (bo P .add 9 (.tmp 25) (.tmp 29) r27.1 r24.1 r26.2).bind fun r28 =>
 ifP (r28.2 = r26.2) <|
 (vl r28.1 r26.2).bind fun r29 =>
 ifP (r29.2 = r26.2) <|
 some (r29.1, r26.2)) (
 spec_l20Bent_j1 (ups (env0 #[x0, x1]) [(4, r1.1), (6, r2.1), (7, r3.1), (8, r4.1), (9, r5.1), (10, r6.1), (5, r7.1), (11, r8.1), (12, r9.1), (14, r10.1), (13, r11.1), (15, r12.1), (16, r13.1), (17, r14.1), (18, r15.1)]) r15.2)) (
 (bo P .eql 3 (.tmp 12) (.const (.int .i64 1)) r9.1 (.int .i64 1) r11.2).bind fun r30 =>
 (vl r30.1 r30.2).bind fun r31 =>
 cnd r31.1 (
 (vl x1 r31.2).bind fun r32 =>
 (vl r7.1 r32.2).bind fun r33 =>
 (sl P 9 r32.1 none (some r33.1) none r33.2).bind fun r34 =>
 (vl r34.1 r34.2).bind fun r35 =>
 some (r35.1, r35.2)) (
 (bo P .eql 3 (.tmp 12) (.const (.int .i64 2)) r9.1 (.int .i64 2) r31.2).bind fun r36 =>
 (vl r36.1 r36.2).bind fun r37 =>
 cnd r37.1 (
 (vl x1 r37.2).bind fun r38 =>
 (vl x0 r38.2).bind fun r39 =>
 (bs P 38 4 #[(0, (Go.Value.string { data := #[48] })), (1, (Go.Value.string { data := #[32] })), (2, (Go.Value.string { data := #[120] })), (3, (Go.Value.string { data := #[10] }))] r39.2).bind fun r40 =>
 (EV P 38 #[r39.1, r40.1] r40.2).bind fun r41 =>
 (bo P .add 9 (.tmp 38) (.tmp 41) r38.1 r41.1 r41.2).bind fun r42 =>
 (vl r42.1 r42.2).bind fun r43 =>
 some (r43.1, r43.2)) (
 spec_l20Bent_j1 (ups (env0 #[x0, x1]) [(4, r1.1), (6, r2.1), (7, r3.1), (8, r4.1), (9, r5.1), (10, r6.1), (5, r7.1), (11, r8.1), (12, r9.1), (14, r10.1), (13, r11.1), (32, r30.1), (31, r31.1), (37, r36.1), (36, r37.1)]) r37.2))) := by kernel_rfl
theorem spec_l1In_fn (x0 x1 x2 : Value) (w : World) : fnC P (EV P) 30 #[x0, x1, x2] w =
 (vl (.bool false) w).bind fun r1 =>
 (vl x0 r1.2).bind fun r2 =>
 (vl x1 r2.2).bind fun r3 =>
 (bo P .geq 3 (.tmp 7) (.tmp 8) r2.1 r3.1 r3.2).bind fun r4 =>
 (vl r4.1 r4.2).bind fun r5 =>
 (gif r5.1 true (vl x0 r5.2) r5.2).bind fun r6 =>
 (gif r5.1 true (vl x2 r6.2) r6.2).bind fun r7 =>
 (gif r5.1 true (bo P .leq 3 (.tmp 11) (.tmp 12) r6.1 r7.1 r7.2) r7.2).bind fun r8 =>
 (pickV r5.1 r8.1 (.bool false) r8.2).bind fun r9 =>
 (vl r9.1 r9.2).bind fun r10 =>
 some (r10.1, r10.2) := by kernel_rfl
noncomputable def spec_l1Dec_a1 (e : Env) (w : World) : Option (Value × World) := exC P (EV P) 31 28 (cA (cB (cB (cB (cB (bodyOf P 31)))))) e w (kSeq P (EV P) 31 28 (cB (cB (cB (cB (cB (bodyOf P 31)))))) (kFn P (fnOf P 31)))
noncomputable def spec_l1Dec_j1 (e : Env) (w : World) : Option (Value × World) := exC P (EV P) 31 28 (cB (cB (cB (cB (cB (bodyOf P 31)))))) e w (kFn P (fnOf P 31))
theorem spec_l1Dec_a1_any (e : Env) (w : World) {Q : Value × World → Prop} (h :
 (Ret (vl (e 0) (dw w)) fun r1 => r1.2 = (dw w) ∧
 (Ret (bo P .quo 3 (.tmp 18) (.const (.int .i64 10)) r1.1 (.int .i64 10) (dw w)) fun r2 => r2.2 = (dw w) ∧
 (Ret (vl (e 0) (dw w)) fun r3 => r3.2 = (dw w) ∧
 (Ret (bo P .rem 3 (.tmp 21) (.const (.int .i64 10)) r3.1 (.int .i64 10) (dw w)) fun r4 => r4.2 = (dw w) ∧
 (Ret (bo P .add 3 (.const (.int .i64 48)) (.tmp 22) (.int .i64 48) r4.1 (dw w)) fun r5 => r5.2 = (dw w) ∧
 (Ret (cv P 3 5 r5.1 (dw w)) fun r6 => r6.2 = (dw w) ∧
 ((Ret (EV P 31 #[r2.1] (dw w)) fun r7 => (cv P 3 5 r5.1 r7.2 = some (r6.1, r7.2) ∧ bo P .add 3 (.const (.int .i64 48)) (.tmp 22) (.int .i64 48) r4.1 r7.2 = some (r5.1, r7.2) ∧ bo P .rem 3 (.tmp 21) (.const (.int .i64 10)) r3.1 (.int .i64 10) r7.2 = some (r4.1, r7.2) ∧ True ∧ True) ∧
 ((Ret (bs P 32 1 #[(0, r6.1)] r7.2) fun r8 => (True ∧ True ∧ True ∧ bo P .quo 3 (.tmp 18) (.const (.int .i64 10)) r1.1 (.int .i64 10) r8.2 = some (r2.1, r8.2) ∧ True) ∧
 (Ret (cv P 32 9 r8.1 r8.2) fun r9 => r9.2 = r8.2 ∧
 (Ret (bo P .add 9 (.tmp 20) (.tmp 26) r7.1 r9.1 r8.2) fun r10 => r10.2 = r8.2 ∧
 (Ret (vl r10.1 r8.2) fun r11 => r11.2 = r8.2 ∧
 Ret (spec_l1Dec_j1 (ups e [(18, r1.1), (19, r2.1), (21, r3.1), (22, r4.1), (23, r5.1), (24, r6.1), (20, r7.1), (25, r8.1), (26, r9.1), (27, r10.1), (2, r11.1)]) r8.2) Q)))))) ∧
 (Ret (bs P 32 1 #[(0, r6.1)] (dw w)) fun r12 => (True ∧ True ∧ True ∧ bo P .quo 3 (.tmp 18) (.const (.int .i64 10)) r1.1 (.int .i64 10) r12.2 = some (r2.1, r12.2) ∧ True) ∧
 (Ret (cv P 32 9 r12.1 r12.2) fun r13 => r13.2 = r12.2 ∧
 ((Ret (EV P 31 #[r2.1] r12.2) fun r14 => (cv P 32 9 r12.1 r14.2 = some (r13.1, r14.2) ∧ cv P 3 5 r5.1 r14.2 = some (r6.1, r14.2) ∧ bo P .add 3 (.const (.int .i64 48)) (.tmp 22) (.int .i64 48) r4.1 r14.2 = some (r5.1, r14.2) ∧ bo P .rem 3 (.tmp 21) (.const (.int .i64 10)) r3.1 (.int .i64 10) r14.2 = some (r4.1, r14.2) ∧ True ∧ True) ∧
 (Ret (bo P .add 9 (.tmp 20) (.tmp 26) r14.1 r13.1 r14.2) fun r15 => r15.2 = r14.2 ∧
 (Ret (vl r15.1 r14.2) fun r16 => r16.2 = r14.2 ∧
 Ret (spec_l1Dec_j1 (ups e [(18, r1.1), (19, r2.1), (21, r3.1), (22, r4.1), (23, r5.1), (24, r6.1), (25, r12.1), (26, r13.1), (20, r14.1), (27, r15.1), (2, r16.1)]) r14.2) Q)))))))))))))) : Ret (spec_l1Dec_a1 e w) Q := exC_any (id := 7) (ops := opsOf (cA (cB (cB (cB (cB (bodyOf P 31))))))) (by kernel_rfl) (by kernel_rfl) (Eq.mpr (by kernel_rfl) h)
theorem spec_l1Dec_j1_eq (e : Env) (w : World) : spec_l1Dec_j1 e w =
 some ((e 2), w) := by kernel_rfl
theorem spec_l1Dec_fn (x0 : Value) (w : World) : fnC P (EV P) 31 #[x0] w =
 (vl (Go.Value.string { data := #[] }) w).bind fun r1 =>
 (vl x0 r1.2).bind fun r2 =>
 (bo P .lss 3 (.tmp 3) (.const (.int .i64 (-9223372036854775807))) r2.1 (.int .i64 (-9223372036854775807)) r2.2).bind fun r3 =>
 cnd r3.1 (
 (vl (Go.Value.string { data := #[45, 57, 50, 50, 51, 51, 55, 50, 48, 51, 54, 56, 53, 52, 55, 55, 53, 56, 48, 56] }) r3.2).bind fun r4 =>
 some (r4.1, r4.2)) (
 (vl x0 r3.2).bind fun r5 =>
 (bo P .lss 3 (.tmp 5) (.const (.int .i64 0)) r5.1 (.int .i64 0) r5.2).bind fun r6 =>
 cnd r6.1 (
 (vl x0 r6.2).bind fun r7 =>
 (uo P .neg r7.1 r7.2).bind fun r8 =>
 (EV P 31 #[r8.1] r8.2).bind fun r9 =>
 (bo P .add 9 (.const (Go.Value.string { data := #[45] })) (.tmp 9) (Go.Value.string { data := #[45] }) r9.1 r9.2).bind fun r10 =>
 (vl r10.1 r10.2).bind fun r11 =>
 some (r11.1, r11.2)) (
 (vl x0 r6.2).bind fun r12 =>
 (bo P .lss 3 (.tmp 11) (.const (.int .i64 10)) r12.1 (.int .i64 10) r12.2).bind fun r13 =>
 cnd r13.1 (
 (vl x0 r13.2).bind fun r14 =>
 (bo P .add 3 (.const (.int .i64 48)) (.tmp 13) (.int .i64 48) r14.1 r14.2).bind fun r15 =>
 (cv P 3 5 r15.1 r15.2).bind fun r16 =>
 (bs P 32 1 #[(0, r16.1)] r16.2).bind fun r17 =>
 (cv P 32 9 r17.1 r17.2).bind fun r18 =>
 (vl r18.1 r18.2).bind fun r19 =>
 some (r19.1, r19.2)) (
 spec_l1Dec_a1 (ups (env0 #[x0]) [(2, r1.1), (3, r2.1), (4, r3.1), (5, r5.1), (6, r6.1), (11, r12.1), (12, r13.1)]) r13.2))) := by kernel_rfl
theorem strconv_Itoa_fn (x0 : Value) (w : World) : fnC P (EV P) 32 #[x0] w =
 (vl (Go.Value.string { data := #[] }) w).bind fun r1 =>
 (vl x0 r1.2).bind fun r2 =>
 (EV P 39 #[r2.1] r2.2).bind fun r3 =>
 (vl r3.1 r3.2).bind fun r4 =>
 some (r4.1, r4.2) := by kernel_rfl
theorem internal_stringslite_Cut_fn (x0 x1 : Value) (w : World) : fnC P (EV P) 33 #[x0, x1] w =
 (vl (Go.Value.string { data := #[] }) w).bind fun r1 =>
 (vl (Go.Value.string { data := #[] }) r1.2).bind fun r2 =>
 (vl (.bool false) r2.2).bind fun r3 =>
 (vl x0 r3.2).bind fun r4 =>
 (vl x1 r4.2).bind fun r5 =>
 (EV P 40 #[r4.1, r5.1] r5.2).bind fun r6 =>
 (vl r6.1 r6.2).bind fun r7 =>
 (vl r7.1 r7.2).bind fun r8 =>
 (bo P .geq 3 (.tmp 11) (.const (.int .i64 0)) r8.1 (.int .i64 0) r8.2).bind fun r9 =>
 cnd r9.1 (
 (vl x0 (dw r9.2)).bind fun r11 =>
 ifP (r11.2 = (dw r9.2)) <|
 (vl r7.1 (dw r9.2)).bind fun r12 =>
 ifP (r12.2 = (dw r9.2)) <|
 (sl P 9 r11.1 none (some r12.1) none (dw r9.2)).bind fun r13 =>
 ifP (r13.2 = (dw r9.2)) <|
 (vl x0 (dw r9.2)).bind fun r14 =>
 ifP (r14.2 = (dw r9.2)) <|
 (vl r7.1 (dw r9.2)).bind fun r15 =>
 ifP (r15.2 = (dw r9.2)) <|
 (vl x1 (dw r9.2)).bind fun r16 =>
 ifP (r16.2 = (dw r9.2)) <|
 (b_len P #[9] 3 #[r16.1] (dw r9.2)).bind fun r17 =>
 ifP (r17.2 = (dw r9.2)) <|
 (bo P .add 3 (.tmp 17) (.tmp 19) r15.1 r17.1 (dw r9.2)).bind fun r18 =>
 ifP (r18.2 = (dw r9.2)) <|
 (sl P 9 r14.1 (some r18.1) none none (dw r9.2)).bind fun r19 =>
 ifP (r19.2 = (dw r9.2)) <|
 (vl r13.1 (dw r9.2)).bind fun r20 =>
 ifP (r20.2 = (dw r9.2)) <|
 (vl r19.1 (dw r9.2)).bind fun r21 =>
 ifP (r21.2 = (dw r9.2)) <|
 (vl (.bool true) (dw r9.2)).bind fun r22 =>
 ifP (r22.2 = (dw r9.2)) <|
 some (.tuple #[r20.1, r21.1, r22.1], (dw r9.2))) (
 (vl x0 r9.2).bind fun r23 =>
 (vl r23.1 r23.2).bind fun r24 =>
 (vl (Go.Value.string { data := #[] }) r24.2).bind fun r25 =>
 (vl (.bool false) r25.2).bind fun r26 =>
 some (.tuple #[r24.1, r25.1, r26.1], r26.2)) := by kernel_rfl
noncomputable def internal_strconv_Atoi_j1 (e : Env) (w : World) : Option (Value × World) := exC P (EV P) 34 77 (cB (cB (cA (cB (cA (cB (cB (bodyOf P 34)))))))) e w (kSeq P (EV P) 34 77 (cB (cB (cB (bodyOf P 34)))) (kFn P (fnOf P 34)))
noncomputable def internal_strconv_Atoi_l1 (e : Env) (w : World) : Option (Value × World) := exC P (EV P) 34 77 (.loop (cA (cA (cB (cA (cB (cB (cB (cA (cB (cA (cB (cB (bodyOf P 34)))))))))))))) e w (kBlock 0 (kSeq P (EV P) 34 77 (cB (cB (cB (cB (cA (cB (cA (cB (cB (bodyOf P 34)))))))))) (kSeq P (EV P) 34 77 (cB (cB (cB (bodyOf P 34)))) (kFn P (fnOf P 34)))))
noncomputable def internal_strconv_Atoi_j2 (e : Env) (w : World) : Option (Value × World) := exC P (EV P) 34 77 (cB (cB (cB (cB (cB (cA (cB (cA (cB (cB (bodyOf P 34))))))))))) e w (kSeq P (EV P) 34 77 (cB (cB (cB (bodyOf P 34)))) (kFn P (fnOf P 34)))
theorem internal_strconv_Atoi_j1_eq (e : Env) (w : World) : internal_strconv_Atoi_j1 e w =
 (vl (.int .i64 0) w).bind fun r1 =>
 (vl (e 0) r1.2).bind fun r2 =>
 (cv P 9 32 r2.1 r2.2).bind fun r3 =>
 (b_len P #[32] 3 #[r3.1] r3.2).bind fun r4 =>
 (vl (.int .i64 0) r4.2).bind fun r5 =>
 internal_strconv_Atoi_l1 (ups e [(6, r1.1), (46, r2.1), (47, r3.1), (48, r4.1), (49, r5.1)]) r5.2 := by kernel_rfl
theorem internal_strconv_Atoi_l1_eq (e : Env) (w : World) : internal_strconv_Atoi_l1 e w =
 (bo P .lss 3 (.tmp 49) (.tmp 48) (e 49) (e 48) w).bind fun r1 =>
 cnd r1.1 (
 (ia P 32 (e 47) (e 49) r1.2).bind fun r2 =>
 (ld P 5 r2.1 r2.2).bind fun r3 =>
 (vl r3.1 r3.2).bind fun r4 =>
 (vl r4.1 r4.2).bind fun r5 =>
 (bo P .sub 5 (.tmp 53) (.const (.int .u8 48)) r5.1 (.int .u8 48) r5.2).bind fun r6 =>
 (vl r6.1 r6.2).bind fun r7 =>
 (vl r7.1 r7.2).bind fun r8 =>
 (bo P .gtr 5 (.tmp 55) (.const (.int .u8 9)) r8.1 (.int .u8 9) r8.2).bind fun r9 =>
 cnd r9.1 (
 (mi P 62 (.int .i64 2) r9.2).bind fun r10 =>
 (vl (.int .i64 0) r10.2).bind fun r11 =>
 (vl r10.1 r11.2).bind fun r12 =>
 some (.tuple #[r11.1, r12.1], r12.2)) (
 (vl (e 6) r9.2).bind fun r13 =>
 (bo P .mul 3 (.tmp 58) (.const (.int .i64 10)) r13.1 (.int .i64 10) r13.2).bind fun r14 =>
 (vl r7.1 r14.2).bind fun r15 =>
 (cv P 5 3 r15.1 r15.2).bind fun r16 =>
 (bo P .add 3 (.tmp 59) (.tmp 61) r14.1 r16.1 r16.2).bind fun r17 =>
 (vl r17.1 r17.2).bind fun r18 =>
 (bo P .add 3 (.tmp 49) (.const (.int .i64 1)) (e 49) (.int .i64 1) r18.2).bind fun r19 =>
 (vl r19.1 r19.2).bind fun r20 =>
 internal_strconv_Atoi_l1 (ups e [(50, r1.1), (51, r2.1), (52, r3.1), (8, r4.1), (53, r5.1), (54, r6.1), (8, r7.1), (55, r8.1), (56, r9.1), (58, r13.1), (59, r14.1), (60, r15.1), (61, r16.1), (62, r17.1), (6, r18.1), (63, r19.1), (49, r20.1)]) r20.2)) (
 (vl (e 5) r1.2).bind fun r21 =>
 (ix P 9 r21.1 (.int .i64 0) r21.2).bind fun r22 =>
 (bo P .eql 5 (.tmp 65) (.const (.int .u8 45)) r22.1 (.int .u8 45) r22.2).bind fun r23 =>
 cnd r23.1 (
 (vl (e 6) r23.2).bind fun r24 =>
 (uo P .neg r24.1 r24.2).bind fun r25 =>
 (vl r25.1 r25.2).bind fun r26 =>
 internal_strconv_Atoi_j2 (ups e [(50, r1.1), (64, r21.1), (65, r22.1), (66, r23.1), (67, r24.1), (68, r25.1), (6, r26.1)]) r26.2) (
 internal_strconv_Atoi_j2 (ups e [(50, r1.1), (64, r21.1), (65, r22.1), (66, r23.1)]) r23.2)) := (exC_loop P (EV P) 34 77 (cA (cA (cB (cA (cB (cB (cB (cA (cB (cA (cB (cB (bodyOf P 34))))))))))))) e w (kBlock 0 (kSeq P (EV P) 34 77 (cB (cB (cB (cB (cA (cB (cA (cB (cB (bodyOf P 34)))))))))) (kSeq P (EV P) 34 77 (cB (cB (cB (bodyOf P 34)))) (kFn P (fnOf P 34)))))).trans (by kernel_rfl)
theorem internal_strconv_Atoi_j2_eq (e : Env) (w : World) : internal_strconv_Atoi_j2 e w =
 (vl (e 6) w).bind fun r1 =>
 (vl r1.1 r1.2).bind fun r2 =>
 (vl Go.Value.nilIface r2.2).bind fun r3 =>
 some (.tuple #[r2.1, r3.1], r3.2) := by kernel_rfl
theorem internal_strconv_Atoi_fn (x0 : Value) (w : World) : fnC P (EV P) 34 #[x0] w =
 (vl (.int .i64 0) w).bind fun r1 =>
 (vl Go.Value.nilIface r1.2).bind fun r2 =>
 (vl x0 r2.2).bind fun r3 =>
 (b_len P #[9] 3 #[r3.1] r3.2).bind fun r4 =>
 (vl r4.1 r4.2).bind fun r5 =>
 (vl (.bool false) r5.2).bind fun r6 =>
 (gif r6.1 true (vl r5.1 r6.2) r6.2).bind fun r7 =>
 (gif r6.1 true (bo P .lss 3 (.const (.int .i64 0)) (.tmp 14) (.int .i64 0) r7.1 r7.2) r7.2).bind fun r8 =>
 (gif r6.1 true (vl r8.1 r8.2) r8.2).bind fun r9 =>
 (gif r9.1 true (vl r5.1 r9.2) r9.2).bind fun r10 =>
 (gif r9.1 true (bo P .lss 3 (.tmp 17) (.const (.int .i64 10)) r10.1 (.int .i64 10) r10.2) r10.2).bind fun r11 =>
 (gif r6.1 true (pickV r9.1 r11.1 (.bool false) r11.2) r11.2).bind fun r12 =>
 (pickV r6.1 r12.1 (.bool false) r12.2).bind fun r13 =>
 (vl r13.1 r13.2).bind fun r14 =>
 (gif r14.1 false (vl (.bool true) r14.2) r14.2).bind fun r15 =>
 (gif r15.1 true (vl r5.1 r15.2) r15.2).bind fun r16 =>
 (gif r15.1 true (bo P .lss 3 (.const (.int .i64 0)) (.tmp 23) (.int .i64 0) r16.1 r16.2) r16.2).bind fun r17 =>
 (gif r15.1 true (vl r17.1 r17.2) r17.2).bind fun r18 =>
 (gif r18.1 true (vl r5.1 r18.2) r18.2).bind fun r19 =>
 (gif r18.1 true (bo P .lss 3 (.tmp 26) (.const (.int .i64 19)) r19.1 (.int .i64 19) r19.2) r19.2).bind fun r20 =>
 (gif r15.1 true (pickV r18.1 r20.1 (.bool false) r20.2) r20.2).bind fun r21 =>
 (gif r14.1 false (pickV r15.1 r21.1 (.bool false) r21.2) r21.2).bind fun r22 =>
 (pickV r14.1 (.bool true) r22.1 r22.2).bind fun r23 =>
 cnd r23.1 (
 (vl x0 r23.2).bind fun r24 =>
 (vl r24.1 r24.2).bind fun r25 =>
 (vl x0 r25.2).bind fun r26 =>
 (ix P 9 r26.1 (.int .i64 0) r26.2).bind fun r27 =>
 (bo P .eql 5 (.tmp 33) (.const (.int .u8 45)) r27.1 (.int .u8 45) r27.2).bind fun r28 =>
 (vl r28.1 r28.2).bind fun r29 =>
 (gif r29.1 false (vl x0 r29.2) r29.2).bind fun r30 =>
 (gif r29.1 false (ix P 9 r30.1 (.int .i64 0) r30.2) r30.2).bind fun r31 =>
 (gif r29.1 false (bo P .eql 5 (.tmp 37) (.const (.int .u8 43)) r31.1 (.int .u8 43) r31.2) r31.2).bind fun r32 =>
 (pickV r29.1 (.bool true) r32.1 r32.2).bind fun r33 =>
 cnd r33.1 (
 (vl x0 r33.2).bind fun r34 =>
 (sl P 9 r34.1 (some (.int .i64 1)) none none r34.2).bind fun r35 =>
 (vl r35.1 r35.2).bind fun r36 =>
 (vl r36.1 r36.2).bind fun r37 =>
 (b_len P #[9] 3 #[r37.1] r37.2).bind fun r38 =>
 (bo P .lss 3 (.tmp 43) (.const (.int .i64 1)) r38.1 (.int .i64 1) r38.2).bind fun r39 =>
 cnd r39.1 (
 (mi P 62 (.int .i64 2) r39.2).bind fun r40 =>
 (vl (.int .i64 0) r40.2).bind fun r41 =>
 (vl r40.1 r41.2).bind fun r42 =>
 some (.tuple #[r41.1, r42.1], r42.2)) (
 internal_strconv_Atoi_j1 (ups (env0 #[x0]) [(2, r1.1), (3, r2.1), (11, r3.1), (12, r4.1), (4, r5.1), (13, r6.1), (14, r7.1), (15, r8.1), (16, r9.1), (17, r10.1), (18, r11.1), (19, r12.1), (20, r13.1), (21, r14.1), (22, r15.1), (23, r16.1), (24, r17.1), (25, r18.1), (26, r19.1), (27, r20.1), (28, r21.1), (29, r22.1), (30, r23.1), (31, r24.1), (5, r25.1), (32, r26.1), (33, r27.1), (34, r28.1), (35, r29.1), (36, r30.1), (37, r31.1), (38, r32.1), (39, r33.1), (40, r34.1), (41, r35.1), (0, r36.1), (42, r37.1), (43, r38.1), (44, r39.1)]) r39.2)) (
 internal_strconv_Atoi_j1 (ups (env0 #[x0]) [(2, r1.1), (3, r2.1), (11, r3.1), (12, r4.1), (4, r5.1), (13, r6.1), (14, r7.1), (15, r8.1), (16, r9.1), (17, r10.1), (18, r11.1), (19, r12.1), (20, r13.1), (21, r14.1), (22, r15.1), (23, r16.1), (24, r17.1), (25, r18.1), (26, r19.1), (27, r20.1), (28, r21.1), (29, r22.1), (30, r23.1), (31, r24.1), (5, r25.1), (32, r26.1), (33, r27.1), (34, r28.1), (35, r29.1), (36, r30.1), (37, r31.1), (38, r32.1), (39, r33.1)]) r33.2)) (
 (vl x0 r23.2).bind fun r43 =>
 (EV P 41 #[r43.1, (.int .i64 10), (.int .i64 0)] r43.2).bind fun r44 =>
 (vl r44.1 r44.2).bind fun r45 =>
 (xt P r45.1 0 r45.2).bind fun r46 =>
 (xt P r45.1 1 r46.2).bind fun r47 =>
 (vl r46.1 r47.2).bind fun r48 =>
 (vl r47.1 r48.2).bind fun r49 =>
 (vl r48.1 r49.2).bind fun r50 =>
 (vl r49.1 r50.2).bind fun r51 =>
 (vl r50.1 r51.2).bind fun r52 =>
 (vl r51.1 r52.2).bind fun r53 =>
 some (.tuple #[r52.1, r53.1], r53.2)) := by kernel_rfl
theorem strconv_toError_fn (x0 x1 x2 x3 x4 : Value) (w : World) : fnC P (EV P) 35 #[x0, x1, x2, x3, x4] w =
 (vl Go.Value.nilIface w).bind fun r1 =>
 (vl x4 r1.2).bind fun r2 =>
 (mi P 62 (.int .i64 2) r2.2).bind fun r3 =>
 (bo P .eql 44 (.tmp 11) (.tmp 13) r2.1 r3.1 r3.2).bind fun r4 =>
 (vl r4.1 r4.2).bind fun r5 =>
 cnd r5.1 (
 (vl x0 r5.2).bind fun r6 =>
 (vl x1 r6.2).bind fun r7 =>
 (EV P 42 #[r6.1, r7.1] r7.2).bind fun r8 =>
 (mi P 65 r8.1 r8.2).bind fun r9 =>
 (vl r9.1 r9.2).bind fun r10 =>
 some (r10.1, r10.2)) (
 (mi P 62 (.int .i64 1) r5.2).bind fun r11 =>
 (bo P .eql 44 (.tmp 11) (.tmp 20) r2.1 r11.1 r11.2).bind fun r12 =>
 (vl r12.1 r12.2).bind fun r13 =>
 cnd r13.1 (
 (vl x0 r13.2).bind fun r14 =>
 (vl x1 r14.2).bind fun r15 =>
 (EV P 43 #[r14.1, r15.1] r15.2).bind fun r16 =>
 (mi P 65 r16.1 r16.2).bind fun r17 =>
 (vl r17.1 r17.2).bind fun r18 =>
 some (r18.1, r18.2)) (
 (mi P 62 (.int .i64 3) r13.2).bind fun r19 =>
 (bo P .eql 44 (.tmp 11) (.tmp 27) r2.1 r19.1 r19.2).bind fun r20 =>
 (vl r20.1 r20.2).bind fun r21 =>
 cnd r21.1 (
 (vl x0 r21.2).bind fun r22 =>
 (vl x1 r22.2).bind fun r23 =>
 (vl x2 r23.2).bind fun r24 =>
 (EV P 44 #[r22.1, r23.1, r24.1] r24.2).bind fun r25 =>
 (mi P 65 r25.1 r25.2).bind fun r26 =>
 (vl r26.1 r26.2).bind fun r27 =>
 some (r27.1, r27.2)) (
 (mi P 62 (.int .i64 4) r21.2).bind fun r28 =>
 (bo P .eql 44 (.tmp 11) (.tmp 35) r2.1 r28.1 r28.2).bind fun r29 =>
 (vl r29.1 r29.2).bind fun r30 =>
 cnd r30.1 (
 (vl x0 r30.2).bind fun r31 =>
 (vl x1 r31.2).bind fun r32 =>
 (vl x3 r32.2).bind fun r33 =>
 (EV P 45 #[r31.1, r32.1, r33.1] r33.2).bind fun r34 =>
 (mi P 65 r34.1 r34.2).bind fun r35 =>
 (vl r35.1 r35.2).bind fun r36 =>
 some (r36.1, r36.2)) (
 (vl x4 r30.2).bind fun r37 =>
 (vl r37.1 r37.2).bind fun r38 =>
 some (r38.1, r38.2))))) := by kernel_rfl
theorem spec_l20Rd_one_fn (x0 x1 : Value) (w : World) : fnC P (EV P) 36 #[x0, x1] w =
 (vl (.int .i64 0) w).bind fun r1 =>
 (vl x1 r1.2).bind fun r2 =>
 (vl x0 r2.2).bind fun r3 =>
 (vl x1 r3.2).bind fun r4 =>
 (b_len P #[57] 3 #[r4.1] r4.2).bind fun r5 =>
 (EV P 28 #[r3.1, r5.1] r5.2).bind fun r6 =>
 (ia P 57 r2.1 r6.1 r6.2).bind fun r7 =>
 (ld P 3 r7.1 r7.2).bind fun r8 =>
 (vl r8.1 r8.2).bind fun r9 =>
 some (r9.1, r9.2) := by kernel_rfl
theorem spec_l20Tag_fn (x0 : Value) (w : World) : fnC P (EV P) 37 #[x0] w =
 (al P 25 w).bind fun r1 =>
 (vl x0 r1.2).bind fun r2 =>
 (EV P 28 #[r2.1, (.int .i64 3)] r2.2).bind fun r3 =>
 (bo P .eql 3 (.tmp 4) (.const (.int .i64 0)) r3.1 (.int .i64 0) r3.2).bind fun r4 =>
 cnd r4.1 (
 (bd P 25 #[] r4.2).bind fun r5 =>
 (st P 25 r1.1 r5.1 r5.2).bind fun r6 =>
 ((ld P 25 r1.1 r6.2).bind fun r7 => ifP (r7.2 = r6.2) (some r7.1)).bind fun v8 =>
 some (v8, r6.2)) (
 (vl x0 r4.2).bind fun r9 =>
 (EV P 28 #[r9.1, (.int .i64 9)] r9.2).bind fun r10 =>
 (bo P .add 3 (.const (.int .i64 1)) (.tmp 8) (.int .i64 1) r10.1 r10.2).bind fun r11 =>
 (vl x0 r11.2).bind fun r12 =>
 (EV P 28 #[r12.1, (.int .i64 3)] r12.2).bind fun r13 =>
 (bd P 25 #[(0, r11.1), (1, r13.1)] r13.2).bind fun r14 =>
 (st P 25 r1.1 r14.1 r14.2).bind fun r15 =>
 ((ld P 25 r1.1 r15.2).bind fun r16 => ifP (r16.2 = r15.2) (some r16.1)).bind fun v17 =>
 some (v17, r15.2)) := by kernel_rfl
theorem spec_l20Rd_of_fn (x0 x1 : Value) (w : World) : fnC P (EV P) 38 #[x0, x1] w =
 (vl (Go.Value.string { data := #[] }) w).bind fun r1 =>
 (vl x1 r1.2).bind fun r2 =>
 (vl x0 r2.2).bind fun r3 =>
 (vl x1 r3.2).bind fun r4 =>
 (b_len P #[38] 3 #[r4.1] r4.2).bind fun r5 =>
 (EV P 28 #[r3.1, r5.1] r5.2).bind fun r6 =>
 (ia P 38 r2.1 r6.1 r6.2).bind fun r7 =>
 (ld P 9 r7.1 r7.2).bind fun r8 =>
 (vl r8.1 r8.2).bind fun r9 =>
 some (r9.1, r9.2) := by kernel_rfl
theorem internal_strconv_Itoa_fn (x0 : Value) (w : World) : fnC P (EV P) 39 #[x0] w =
 (vl (Go.Value.string { data := #[] }) w).bind fun r1 =>
 (vl x0 r1.2).bind fun r2 =>
 (EV P 46 #[r2.1, (.int .i64 10)] r2.2).bind fun r3 =>
 (vl r3.1 r3.2).bind fun r4 =>
 some (r4.1, r4.2) := by kernel_rfl
noncomputable def internal_stringslite_Index_l1 (e : Env) (w : World) : Option (Value × World) := exC P (EV P) 40 143 (.loop (cA (cA (cA (cB (cB (cB (cB (cB (cB (cB (cB (bodyOf P 40))))))))))))) e w (kBlock 1 (kSeq P (EV P) 40 143 (cB (cB (cB (cB (cB (cB (cB (cB (cB (bodyOf P 40)))))))))) (kFn P (fnOf P 40))))
theorem internal_stringslite_Index_fn (x0 x1 : Value) (w : World) : fnC P (EV P) 40 #[x0, x1] w =
 (vl (.int .i64 0) w).bind fun r1 =>
 (vl x1 r1.2).bind fun r2 =>
 (b_len P #[9] 3 #[r2.1] r2.2).bind fun r3 =>
 (vl r3.1 r3.2).bind fun r4 =>
 (vl r4.1 r4.2).bind fun r5 =>
 (bo P .eql 3 (.tmp 17) (.const (.int .i64 0)) r5.1 (.int .i64 0) r5.2).bind fun r6 =>
 (vl r6.1 r6.2).bind fun r7 =>
 (gif r7.1 false (vl x1 r7.2) r7.2).bind fun r8 =>
 (gif r7.1 false (vl x0 r8.2) r8.2).bind fun r9 =>
 (gif r7.1 false (bo P .eql 9 (.tmp 20) (.tmp 21) r8.1 r9.1 r9.2) r9.2).bind fun r10 =>
 (pickV r7.1 (.bool true) r10.1 r10.2).bind fun r11 =>
 (vl r11.1 r11.2).bind fun r12 =>
 cnd r12.1 (
 (vl (.int .i64 0) r12.2).bind fun r13 =>
 some (r13.1, r13.2)) (
 (vl r4.1 r12.2).bind fun r14 =>
 (bo P .eql 3 (.tmp 25) (.const (.int .i64 1)) r14.1 (.int .i64 1) r14.2).bind fun r15 =>
 (vl r15.1 r15.2).bind fun r16 =>
 cnd r16.1 (
 (vl x0 r16.2).bind fun r17 =>
 (vl x1 r17.2).bind fun r18 =>
 (ix P 9 r18.1 (.int .i64 0) r18.2).bind fun r19 =>
 (EV P 47 #[r17.1, r19.1] r19.2).bind fun r20 =>
 (vl r20.1 r20.2).bind fun r21 =>
 some (r21.1, r21.2)) (
 (vl r4.1 r16.2).bind fun r22 =>
 (vl x0 r22.2).bind fun r23 =>
 (b_len P #[9] 3 #[r23.1] r23.2).bind fun r24 =>
 (bo P .geq 3 (.tmp 32) (.tmp 34) r22.1 r24.1 r24.2).bind fun r25 =>
 (vl r25.1 r25.2).bind fun r26 =>
 cnd r26.1 (
 (vl (.int .i64 (-1)) r26.2).bind fun r27 =>
 some (r27.1, r27.2)) (
 (vl r4.1 r26.2).bind fun r28 =>
 (ld P 3 (.pointer (some ⟨0, 0, none⟩)) r28.2).bind fun r29 =>
 (bo P .leq 3 (.tmp 37) (.tmp 38) r28.1 r29.1 r29.2).bind fun r30 =>
 (vl r30.1 r30.2).bind fun r31 =>
 (gif r31.1 true (vl x0 r31.2) r31.2).bind fun r32 =>
 (gif r31.1 true (b_len P #[9] 3 #[r32.1] r32.2) r32.2).bind fun r33 =>
 (gif r31.1 true (bo P .leq 3 (.tmp 42) (.const (.int .i64 64)) r33.1 (.int .i64 64) r33.2) r33.2).bind fun r34 =>
 (pickV r31.1 r34.1 (.bool false) r34.2).bind fun r35 =>
 (vl r35.1 r35.2).bind fun r36 =>
 cnd r36.1 (
 (vl x0 r36.2).bind fun r37 =>
 (vl x1 r37.2).bind fun r38 =>
 (xf P 48 #[r37.1, r38.1] r38.2).bind fun r39 =>
 (vl r39.1 r39.2).bind fun r40 =>
 some (r40.1, r40.2)) (
 (vl x1 r36.2).bind fun r41 =>
 (ix P 9 r41.1 (.int .i64 0) r41.2).bind fun r42 =>
 (vl r42.1 r42.2).bind fun r43 =>
 (vl x1 r43.2).bind fun r44 =>
 (ix P 9 r44.1 (.int .i64 1) r44.2).bind fun r45 =>
 (vl r45.1 r45.2).bind fun r46 =>
 (vl (.int .i64 0) r46.2).bind fun r47 =>
 (vl x0 r47.2).bind fun r48 =>
 (b_len P #[9] 3 #[r48.1] r48.2).bind fun r49 =>
 (vl r4.1 r49.2).bind fun r50 =>
 (bo P .sub 3 (.tmp 53) (.tmp 54) r49.1 r50.1 r50.2).bind fun r51 =>
 (bo P .add 3 (.tmp 55) (.const (.int .i64 1)) r51.1 (.int .i64 1) r51.2).bind fun r52 =>
 (vl r52.1 r52.2).bind fun r53 =>
 (vl (.int .i64 0) r53.2).bind fun r54 =>
 internal_stringslite_Index_l1 (ups (env0 #[x0, x1]) [(4, r1.1), (14, r2.1), (15, r3.1), (5, r4.1), (17, r5.1), (18, r6.1), (19, r7.1), (20, r8.1), (21, r9.1), (22, r10.1), (23, r11.1), (16, r12.1), (25, r14.1), (26, r15.1), (24, r16.1), (32, r22.1), (33, r23.1), (34, r24.1), (35, r25.1), (31, r26.1), (37, r28.1), (38, r29.1), (39, r30.1), (40, r31.1), (41, r32.1), (42, r33.1), (43, r34.1), (44, r35.1), (36, r36.1), (48, r41.1), (49, r42.1), (6, r43.1), (50, r44.1), (51, r45.1), (7, r46.1), (8, r47.1), (52, r48.1), (53, r49.1), (54, r50.1), (55, r51.1), (56, r52.1), (9, r53.1), (10, r54.1)]) r54.2)))) := by kernel_rfl
noncomputable def internal_strconv_ParseInt_j1 (e : Env) (w : World) : Option (Value × World) := exC P (EV P) 41 73 (cB (cB (cB (cB (bodyOf P 41))))) e w (kFn P (fnOf P 41))
noncomputable def internal_strconv_ParseInt_j2 (e : Env) (w : World) : Option (Value × World) := exC P (EV P) 41 73 (cB (cB (cB (cB (cB (cB (cB (cB (bodyOf P 41))))))))) e w (kFn P (fnOf P 41))
noncomputable def internal_strconv_ParseInt_j3 (e : Env) (w : World) : Option (Value × World) := exC P (EV P) 41 73 (cB (cB (cB (cB (cB (cB (cB (cB (cB (cB (cB (cB (cB (bodyOf P 41)))))))))))))) e w (kFn P (fnOf P 41))
theorem internal_strconv_ParseInt_j1_eq (e : Env) (w : World) : internal_strconv_ParseInt_j1 e w =
 (vl (.int .u64 0) w).bind fun r1 =>
 (vl (e 0) r1.2).bind fun r2 =>
 (vl (e 1) r2.2).bind fun r3 =>
 (vl (e 2) r3.2).bind fun r4 =>
 (EV P 51 #[r2.1, r3.1, r4.1] r4.2).bind fun r5 =>
 (vl r5.1 r5.2).bind fun r6 =>
 (xt P r6.1 0 r6.2).bind fun r7 =>
 (xt P r6.1 1 r7.2).bind fun r8 =>
 (vl r7.1 r8.2).bind fun r9 =>
 (vl r8.1 r9.2).bind fun r10 =>
 (vl r10.1 r10.2).bind fun r11 =>
 (bo P .neq 44 (.tmp 32) (.const Go.Value.nilIface) r11.1 Go.Value.nilIface r11.2).bind fun r12 =>
 (vl r12.1 r12.2).bind fun r13 =>
 (gif r13.1 true (vl r10.1 r13.2) r13.2).bind fun r14 =>
 (gif r13.1 true (mi P 62 (.int .i64 1) r14.2) r14.2).bind fun r15 =>
 (gif r13.1 true (bo P .neq 44 (.tmp 35) (.tmp 36) r14.1 r15.1 r15.2) r15.2).bind fun r16 =>
 (pickV r13.1 r16.1 (.bool false) r16.2).bind fun r17 =>
 cnd r17.1 (
 (vl r10.1 r17.2).bind fun r18 =>
 (vl (.int .i64 0) r18.2).bind fun r19 =>
 (vl r18.1 r19.2).bind fun r20 =>
 some (.tuple #[r19.1, r20.1], r20.2)) (
 (vl (e 2) r17.2).bind fun r21 =>
 (bo P .eql 3 (.tmp 40) (.const (.int .i64 0)) r21.1 (.int .i64 0) r21.2).bind fun r22 =>
 cnd r22.1 (
 (vl (.int .i64 64) r22.2).bind fun r23 =>
 internal_strconv_ParseInt_j2 (ups e [(9, r1.1), (26, r2.1), (27, r3.1), (28, r4.1), (29, r5.1), (25, r6.1), (30, r7.1), (31, r8.1), (9, r9.1), (7, r10.1), (32, r11.1), (33, r12.1), (34, r13.1), (35, r14.1), (36, r15.1), (37, r16.1), (38, r17.1), (40, r21.1), (41, r22.1), (2, r23.1)]) r23.2) (
 internal_strconv_ParseInt_j2 (ups e [(9, r1.1), (26, r2.1), (27, r3.1), (28, r4.1), (29, r5.1), (25, r6.1), (30, r7.1), (31, r8.1), (9, r9.1), (7, r10.1), (32, r11.1), (33, r12.1), (34, r13.1), (35, r14.1), (36, r15.1), (37, r16.1), (38, r17.1), (40, r21.1), (41, r22.1)]) r22.2)) := by kernel_rfl
theorem internal_strconv_ParseInt_j2_eq (e : Env) (w : World) : internal_strconv_ParseInt_j2 e w =
 (vl (e 2) w).bind fun r1 =>
 (bo P .sub 3 (.tmp 42) (.const (.int .i64 1)) r1.1 (.int .i64 1) r1.2).bind fun r2 =>
 (cv P 3 70 r2.1 r2.2).bind fun r3 =>
 (bo P .shl 71 (.const (.int .u64 1)) (.tmp 44) (.int .u64 1) r3.1 r3.2).bind fun r4 =>
 (vl r4.1 r4.2).bind fun r5 =>
 (vl (e 8) r5.2).bind fun r6 =>
 (uo P .not r6.1 r6.2).bind fun r7 =>
 (vl r7.1 r7.2).bind fun r8 =>
 (gif r8.1 true (vl (e 9) r8.2) r8.2).bind fun r9 =>
 (gif r8.1 true (vl r5.1 r9.2) r9.2).bind fun r10 =>
 (gif r8.1 true (bo P .geq 71 (.tmp 49) (.tmp 50) r9.1 r10.1 r10.2) r10.2).bind fun r11 =>
 (pickV r8.1 r11.1 (.bool false) r11.2).bind fun r12 =>
 cnd r12.1 (
 (vl r5.1 r12.2).bind fun r13 =>
 (bo P .sub 71 (.tmp 53) (.const (.int .u64 1)) r13.1 (.int .u64 1) r13.2).bind fun r14 =>
 (cv P 71 2 r14.1 r14.2).bind fun r15 =>
 (mi P 62 (.int .i64 1) r15.2).bind fun r16 =>
 (vl r15.1 r16.2).bind fun r17 =>
 (vl r16.1 r17.2).bind fun r18 =>
 some (.tuple #[r17.1, r18.1], r18.2)) (
 (vl (e 8) r12.2).bind fun r19 =>
 (vl r19.1 r19.2).bind fun r20 =>
 (gif r20.1 true (vl (e 9) r20.2) r20.2).bind fun r21 =>
 (gif r20.1 true (vl r5.1 r21.2) r21.2).bind fun r22 =>
 (gif r20.1 true (bo P .gtr 71 (.tmp 59) (.tmp 60) r21.1 r22.1 r22.2) r22.2).bind fun r23 =>
 (pickV r20.1 r23.1 (.bool false) r23.2).bind fun r24 =>
 cnd r24.1 (
 (vl r5.1 r24.2).bind fun r25 =>
 (cv P 71 2 r25.1 r25.2).bind fun r26 =>
 (uo P .neg r26.1 r26.2).bind fun r27 =>
 (mi P 62 (.int .i64 1) r27.2).bind fun r28 =>
 (vl r27.1 r28.2).bind fun r29 =>
 (vl r28.1 r29.2).bind fun r30 =>
 some (.tuple #[r29.1, r30.1], r30.2)) (
 (vl (e 9) r24.2).bind fun r31 =>
 (cv P 71 2 r31.1 r31.2).bind fun r32 =>
 (vl r32.1 r32.2).bind fun r33 =>
 (vl (e 8) r33.2).bind fun r34 =>
 cnd r34.1 (
 (vl r33.1 r34.2).bind fun r35 =>
 (uo P .neg r35.1 r35.2).bind fun r36 =>
 (vl r36.1 r36.2).bind fun r37 =>
 internal_strconv_ParseInt_j3 (ups e [(42, r1.1), (43, r2.1), (44, r3.1), (45, r4.1), (10, r5.1), (46, r6.1), (47, r7.1), (48, r8.1), (49, r9.1), (50, r10.1), (51, r11.1), (52, r12.1), (57, r19.1), (58, r20.1), (59, r21.1), (60, r22.1), (61, r23.1), (62, r24.1), (67, r31.1), (68, r32.1), (11, r33.1), (69, r34.1), (70, r35.1), (71, r36.1), (11, r37.1)]) r37.2) (
 internal_strconv_ParseInt_j3 (ups e [(42, r1.1), (43, r2.1), (44, r3.1), (45, r4.1), (10, r5.1), (46, r6.1), (47, r7.1), (48, r8.1), (49, r9.1), (50, r10.1), (51, r11.1), (52, r12.1), (57, r19.1), (58, r20.1), (59, r21.1), (60, r22.1), (61, r23.1), (62, r24.1), (67, r31.1), (68, r32.1), (11, r33.1), (69, r34.1)]) r34.2))) := by kernel_rfl
theorem internal_strconv_ParseInt_j3_eq (e : Env) (w : World) : internal_strconv_ParseInt_j3 e w =
 (vl (e 11) w).bind fun r1 =>
 (vl r1.1 r1.2).bind fun r2 =>
 (vl Go.Value.nilIface r2.2).bind fun r3 =>
 some (.tuple #[r2.1, r3.1], r3.2) := by kernel_rfl
theorem internal_strconv_ParseInt_fn (x0 x1 x2 : Value) (w : World) : fnC P (EV P) 41 #[x0, x1, x2] w =
 (vl (.int .i64 0) w).bind fun r1 =>
 (vl Go.Value.nilIface r1.2).bind fun r2 =>
 (vl x0 r2.2).bind fun r3 =>
 (bo P .eql 9 (.tmp 12) (.const (Go.Value.string { data := #[] })) r3.1 (Go.Value.string { data := #[] }) r3.2).bind fun r4 =>
 cnd r4.1 (
 (mi P 62 (.int .i64 2) r4.2).bind fun r5 =>
 (vl (.int .i64 0) r5.2).bind fun r6 =>
 (vl r5.1 r6.2).bind fun r7 =>
 some (.tuple #[r6.1, r7.1], r7.2)) (
 (vl (.bool false) r4.2).bind fun r8 =>
 (vl x0 r8.2).bind fun r9 =>
 (ix P 9 r9.1 (.int .i64 0) r9.2).bind fun r10 =>
 (bo P .eql 5 (.tmp 16) (.const (.int .u8 43)) r10.1 (.int .u8 43) r10.2).bind fun r11 =>
 (vl r11.1 r11.2).bind fun r12 =>
 cnd r12.1 (
 (vl x0 r12.2).bind fun r13 =>
 (sl P 9 r13.1 (some (.int .i64 1)) none none r13.2).bind fun r14 =>
 (vl r14.1 r14.2).bind fun r15 =>
 internal_strconv_ParseInt_j1 (ups (env0 #[x0, x1, x2]) [(6, r1.1), (7, r2.1), (12, r3.1), (13, r4.1), (8, r8.1), (15, r9.1), (16, r10.1), (18, r11.1), (17, r12.1), (19, r13.1), (20, r14.1), (0, r15.1)]) r15.2) (
 (bo P .eql 5 (.tmp 16) (.const (.int .u8 45)) r10.1 (.int .u8 45) r12.2).bind fun r16 =>
 (vl r16.1 r16.2).bind fun r17 =>
 cnd r17.1 (
 (vl x0 r17.2).bind fun r18 =>
 (sl P 9 r18.1 (some (.int .i64 1)) none none r18.2).bind fun r19 =>
 (vl r19.1 r19.2).bind fun r20 =>
 (vl (.bool true) r20.2).bind fun r21 =>
 internal_strconv_ParseInt_j1 (ups (env0 #[x0, x1, x2]) [(6, r1.1), (7, r2.1), (12, r3.1), (13, r4.1), (8, r8.1), (15, r9.1), (16, r10.1), (18, r11.1), (17, r12.1), (22, r16.1), (21, r17.1), (23, r18.1), (24, r19.1), (0, r20.1), (8, r21.1)]) r21.2) (
 internal_strconv_ParseInt_j1 (ups (env0 #[x0, x1, x2]) [(6, r1.1), (7, r2.1), (12, r3.1), (13, r4.1), (8, r8.1), (15, r9.1), (16, r10.1), (18, r11.1), (17, r12.1), (22, r16.1), (21, r17.1)]) r17.2))) := by kernel_rfl
theorem strconv_syntaxError_fn (x0 x1 : Value) (w : World) : fnC P (EV P) 42 #[x0, x1] w =
 (vl (Go.Value.pointer none) w).bind fun r1 =>
 (vl x0 (dw r1.2)).bind fun r3 =>
 ifP (r3.2 = (dw r1.2)) <|
 (vl x1 (dw r1.2)).bind fun r4 =>
 ifP (r4.2 = (dw r1.2)) <|
 (ld P 44 (.pointer (some ⟨1, 0, none⟩)) (dw r1.2)).bind fun r5 =>
 ifP (r5.2 = (dw r1.2)) <|
 (EV P 52 #[r4.1] (dw r1.2)).bind fun r6 =>
 ifP (ld P 44 (.pointer (some ⟨1, 0, none⟩)) r6.2 = some (r5.1, r6.2) ∧ True) <|
 (bd P 76 #[(0, r3.1), (1, r6.1), (2, r5.1)] r6.2).bind fun r7 =>
 ifP (r7.2 = r6.2) <|
 (bx P 76 r7.1 r6.2).bind fun r8 =>
 ifP (True ∧ True ∧ True) <|
 (vl r8.1 r8.2).bind fun r9 =>
 ifP (r9.2 = r8.2) <|
 some (r9.1, r8.2) := by kernel_rfl
theorem strconv_rangeError_fn (x0 x1 : Value) (w : World) : fnC P (EV P) 43 #[x0, x1] w =
 (vl (Go.Value.pointer none) w).bind fun r1 =>
 (vl x0 (dw r1.2)).bind fun r3 =>
 ifP (r3.2 = (dw r1.2)) <|
 (vl x1 (dw r1.2)).bind fun r4 =>
 ifP (r4.2 = (dw r1.2)) <|
 (ld P 44 (.pointer (some ⟨2, 0, none⟩)) (dw r1.2)).bind fun r5 =>
 ifP (r5.2 = (dw r1.2)) <|
 (EV P 52 #[r4.1] (dw r1.2)).bind fun r6 =>
 ifP (ld P 44 (.pointer (some ⟨2, 0, none⟩)) r6.2 = some (r5.1, r6.2) ∧ True) <|
 (bd P 76 #[(0, r3.1), (1, r6.1), (2, r5.1)] r6.2).bind fun r7 =>
 ifP (r7.2 = r6.2) <|
 (bx P 76 r7.1 r6.2).bind fun r8 =>
 ifP (True ∧ True ∧ True) <|
 (vl r8.1 r8.2).bind fun r9 =>
 ifP (r9.2 = r8.2) <|
 some (r9.1, r8.2) := by kernel_rfl
end Go.Proofs.YtobejpplmjfkpaaDoor.X
