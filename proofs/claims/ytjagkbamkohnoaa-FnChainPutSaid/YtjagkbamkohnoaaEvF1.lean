/- A part of the proof: an evaluator of the model, its laws, and contracts of functions; no condition. -/
import Derived.Test.YtjagkbamkohnoaaEvT
set_option linter.unusedVariables false
set_option maxRecDepth 100000
namespace Go.Proofs.Ytjagkbamkohnoaa.X
open Go Go.Ev
noncomputable def laws_cfPast_l1 (e : Env) (w : World) : Option (Value × World) := exC P (EV P) 29 31 (.loop (cA (cA (cB (cA (cB (cB (Yi P 29)))))))) e w (Yj 0 (kSeq P (EV P) 29 31 (cB (cB (cB (Yi P 29)))) (kFn P (fnOf P 29))))
theorem laws_cfPast_l1_eq (e : Env) (w : World) : laws_cfPast_l1 e w =
 (vl (e 5) w).bind fun r1 =>
 (fa P 30 (e 2) 0 r1.2).bind fun r2 =>
 (ld P 28 r2.1 r2.2).bind fun r3 =>
 (b_len P #[28] 3 #[r3.1] r3.2).bind fun r4 =>
 (bo P .lss 3 (.tmp 13) (.tmp 16) r1.1 r4.1 r4.2).bind fun r5 =>
 cnd r5.1 (
 (fa P 30 (e 2) 0 (dw r5.2)).bind fun r7 =>
 ifP (r7.2 = (dw r5.2)) <|
 (ld P 28 r7.1 (dw r5.2)).bind fun r8 =>
 ifP (r8.2 = (dw r5.2)) <|
 (vl (e 5) (dw r5.2)).bind fun r9 =>
 ifP (r9.2 = (dw r5.2)) <|
 (ia P 28 r8.1 r9.1 (dw r5.2)).bind fun r10 =>
 ifP (r10.2 = (dw r5.2)) <|
 (ld P 27 r10.1 (dw r5.2)).bind fun r11 =>
 ifP (r11.2 = (dw r5.2)) <|
 (fa P 30 (e 3) 0 (dw r5.2)).bind fun r12 =>
 ifP (r12.2 = (dw r5.2)) <|
 (ld P 28 r12.1 (dw r5.2)).bind fun r13 =>
 ifP (r13.2 = (dw r5.2)) <|
 (vl (e 5) (dw r5.2)).bind fun r14 =>
 ifP (r14.2 = (dw r5.2)) <|
 (ia P 28 r13.1 r14.1 (dw r5.2)).bind fun r15 =>
 ifP (r15.2 = (dw r5.2)) <|
 (ld P 27 r15.1 (dw r5.2)).bind fun r16 =>
 ifP (r16.2 = (dw r5.2)) <|
 (bo P .neq 27 (.tmp 24) (.tmp 29) r11.1 r16.1 (dw r5.2)).bind fun r17 =>
 ifP (r17.2 = (dw r5.2)) <|
 cnd r17.1 (
 (vl (.bool false) (dw r5.2)).bind fun r18 =>
 some (r18.1, r18.2)) (
 (vl (e 5) (dw r5.2)).bind fun r19 =>
 (bo P .add 3 (.tmp 18) (.const (.int .i64 1)) r19.1 (.int .i64 1) r19.2).bind fun r20 =>
 (vl r20.1 r20.2).bind fun r21 =>
 laws_cfPast_l1 (ups e [(13, r1.1), (14, r2.1), (15, r3.1), (16, r4.1), (17, r5.1), (20, r7.1), (21, r8.1), (22, r9.1), (23, r10.1), (24, r11.1), (25, r12.1), (26, r13.1), (27, r14.1), (28, r15.1), (29, r16.1), (30, r17.1), (18, r19.1), (19, r20.1), (5, r21.1)]) r21.2)) (
 (vl (.bool true) r5.2).bind fun r22 =>
 some (r22.1, r22.2)) := (exC_loop P (EV P) 29 31 (cA (cA (cB (cA (cB (cB (Yi P 29))))))) e w (Yj 0 (kSeq P (EV P) 29 31 (cB (cB (cB (Yi P 29)))) (kFn P (fnOf P 29))))).trans (by kernel_rfl)
theorem laws_cfPast_fn (x0 x1 : Value) (w : World) : fnC P (EV P) 29 #[x0, x1] w =
 (bx P 30 x0 w).bind fun r1 =>
 (bx P 30 x1 r1.2).bind fun r2 =>
 (vl (.bool false) r2.2).bind fun r3 =>
 (fa P 30 r1.1 0 r3.2).bind fun r4 =>
 (ld P 28 r4.1 r4.2).bind fun r5 =>
 (b_len P #[28] 3 #[r5.1] r5.2).bind fun r6 =>
 (fa P 30 r2.1 0 r6.2).bind fun r7 =>
 (ld P 28 r7.1 r7.2).bind fun r8 =>
 (b_len P #[28] 3 #[r8.1] r8.2).bind fun r9 =>
 (bo P .neq 3 (.tmp 8) (.tmp 11) r6.1 r9.1 r9.2).bind fun r10 =>
 cnd r10.1 (
 (vl (.bool false) r10.2).bind fun r11 =>
 some (r11.1, r11.2)) (
 (vl (.int .i64 0) r10.2).bind fun r12 =>
 laws_cfPast_l1 (ups (env0 #[x0, x1]) [(2, r1.1), (3, r2.1), (4, r3.1), (6, r4.1), (7, r5.1), (8, r6.1), (9, r7.1), (10, r8.1), (11, r9.1), (12, r10.1), (5, r12.1)]) r12.2) := by kernel_rfl
theorem impl_PastOk_fn (x0 : Value) (w : World) : fnC P (EV P) 34 #[x0] w =
 (bx P 30 x0 w).bind fun r1 =>
 (vl (.bool false) r1.2).bind fun r2 =>
 (fa P 30 r1.1 0 r2.2).bind fun r3 =>
 (ld P 28 r3.1 r3.2).bind fun r4 =>
 (b_len P #[28] 3 #[r4.1] r4.2).bind fun r5 =>
 (bo P .eql 3 (.tmp 5) (.const (.int .i64 4)) r5.1 (.int .i64 4) r5.2).bind fun r6 =>
 (vl r6.1 r6.2).bind fun r7 =>
 (gif r7.1 true (fa P 30 r1.1 0 r7.2) r7.2).bind fun r8 =>
 (gif r7.1 true (ld P 28 r8.1 r8.2) r8.2).bind fun r9 =>
 (gif r7.1 true (EV P 78 #[r9.1, (.func (.func 79) #[] #[])] r9.2) r9.2).bind fun r10 =>
 (gif r7.1 true (uo P .not r10.1 r10.2) r10.2).bind fun r11 =>
 (pickV r7.1 r11.1 (.bool false) r11.2).bind fun r12 =>
 (vl r12.1 r12.2).bind fun r13 =>
 some (r13.1, r13.2) := by kernel_rfl
noncomputable def spec_l20Open_j1 (e : Env) (w : World) : Option (Value × World) := exC P (EV P) 38 11 (cB (cB (Yi P 38))) e w (kFn P (fnOf P 38))
theorem spec_l20Open_j1_eq (e : Env) (w : World) : spec_l20Open_j1 e w =
 (vl (e 0) w).bind fun r1 =>
 (bd P 95 #[(0, r1.1)] r1.2).bind fun r2 =>
 (bx P 95 r2.1 r2.2).bind fun r3 =>
 (vl r3.1 r3.2).bind fun r4 =>
 some (r4.1, r4.2) := by kernel_rfl
theorem spec_l20Open_fn (x0 : Value) (w : World) : fnC P (EV P) 38 #[x0] w =
 (vl (Go.Value.pointer none) w).bind fun r1 =>
 (vl x0 r1.2).bind fun r2 =>
 (b_len P #[22] 3 #[r2.1] r2.2).bind fun r3 =>
 (bo P .gtr 3 (.tmp 4) (.const (.int .i64 2000)) r3.1 (.int .i64 2000) r3.2).bind fun r4 =>
 cnd r4.1 (
 (vl x0 r4.2).bind fun r5 =>
 (sl P 22 r5.1 none (some (.int .i64 2000)) none r5.2).bind fun r6 =>
 (vl r6.1 r6.2).bind fun r7 =>
 spec_l20Open_j1 (ups (env0 #[x0]) [(2, r1.1), (3, r2.1), (4, r3.1), (5, r4.1), (6, r5.1), (7, r6.1), (0, r7.1)]) r7.2) (
 spec_l20Open_j1 (ups (env0 #[x0]) [(2, r1.1), (3, r2.1), (4, r3.1), (5, r4.1)]) r4.2) := by kernel_rfl
noncomputable def spec_l20AnyChain_j1 (e : Env) (w : World) : Option (Value × World) := exC P (EV P) 39 48 (cB (cB (cB (cB (Yi P 39))))) e w (kFn P (fnOf P 39))
theorem spec_l20AnyChain_j1_eq (e : Env) (w : World) : spec_l20AnyChain_j1 e w =
 (ld P 25 (e 3) w).bind fun r1 =>
 (st P 25 (e 2) r1.1 r1.2).bind fun r2 =>
 ((ld P 25 (e 2) r2.2).bind fun r3 => ifP (r3.2 = r2.2) (some r3.1)).bind fun v4 =>
 some (v4, r2.2) := by kernel_rfl
theorem spec_l20AnyChain_fn (x0 : Value) (w : World) : fnC P (EV P) 39 #[x0] w =
 (al P 25 w).bind fun r1 =>
 (vl x0 r1.2).bind fun r2 =>
 (EV P 81 #[r2.1] r2.2).bind fun r3 =>
 (al P 25 r3.2).bind fun r4 =>
 (st P 25 r4.1 r3.1 r4.2).bind fun r5 =>
 (vl x0 r5.2).bind fun r6 =>
 (fa P 25 r4.1 0 r6.2).bind fun r7 =>
 (ld P 23 r7.1 r7.2).bind fun r8 =>
 (b_len P #[23] 3 #[r8.1] r8.2).bind fun r9 =>
 (EV P 82 #[r6.1, r9.1] r9.2).bind fun r10 =>
 (vl r10.1 r10.2).bind fun r11 =>
 (vl x0 r11.2).bind fun r12 =>
 (EV P 82 #[r12.1, (.int .i64 10)] r12.2).bind fun r13 =>
 (bo P .eql 3 (.tmp 13) (.const (.int .i64 0)) r13.1 (.int .i64 0) r13.2).bind fun r14 =>
 (vl r14.1 r14.2).bind fun r15 =>
 cnd r15.1 (
 (fa P 25 r4.1 0 (dw r15.2)).bind fun r17 =>
 ifP (r17.2 = (dw r15.2)) <|
 (ld P 23 r17.1 (dw r15.2)).bind fun r18 =>
 ifP (r18.2 = (dw r15.2)) <|
 (vl r11.1 (dw r15.2)).bind fun r19 =>
 ifP (r19.2 = (dw r15.2)) <|
 (vl x0 (dw r15.2)).bind fun r20 =>
 ifP (r20.2 = (dw r15.2)) <|
 (EV P 67 #[r20.1] (dw r15.2)).bind fun r21 =>
 ifP (ld P 23 r17.1 r21.2 = some (r18.1, r21.2) ∧ fa P 25 r4.1 0 r21.2 = some (r17.1, r21.2) ∧ True) <|
 (ia P 23 r18.1 r19.1 r21.2).bind fun r22 =>
 ifP (r22.2 = r21.2) <|
 (fa P 45 r22.1 0 r21.2).bind fun r23 =>
 ifP (r23.2 = r21.2) <|
 (st P 43 r23.1 r21.1 r21.2).bind fun r24 =>
 ifP (True ∧ True ∧ True ∧ True ∧ True) <|
 spec_l20AnyChain_j1 (ups (env0 #[x0]) [(2, r1.1), (5, r2.1), (6, r3.1), (3, r4.1), (7, r6.1), (8, r7.1), (9, r8.1), (10, r9.1), (11, r10.1), (4, r11.1), (12, r12.1), (13, r13.1), (15, r14.1), (14, r15.1), (16, r17.1), (17, r18.1), (18, r19.1), (19, r20.1), (20, r21.1), (21, r22.1), (22, r23.1)]) r24.2) (
 (bo P .eql 3 (.tmp 13) (.const (.int .i64 1)) r13.1 (.int .i64 1) r15.2).bind fun r25 =>
 (vl r25.1 r25.2).bind fun r26 =>
 cnd r26.1 (
 (fa P 25 r4.1 0 (dw r26.2)).bind fun r28 =>
 ifP (r28.2 = (dw r26.2)) <|
 (ld P 23 r28.1 (dw r26.2)).bind fun r29 =>
 ifP (r29.2 = (dw r26.2)) <|
 (vl r11.1 (dw r26.2)).bind fun r30 =>
 ifP (r30.2 = (dw r26.2)) <|
 (fa P 25 r4.1 0 (dw r26.2)).bind fun r31 =>
 ifP (r31.2 = (dw r26.2)) <|
 (ld P 23 r31.1 (dw r26.2)).bind fun r32 =>
 ifP (r32.2 = (dw r26.2)) <|
 (vl r11.1 (dw r26.2)).bind fun r33 =>
 ifP (r33.2 = (dw r26.2)) <|
 (ia P 23 r32.1 r33.1 (dw r26.2)).bind fun r34 =>
 ifP (r34.2 = (dw r26.2)) <|
 (fa P 45 r34.1 1 (dw r26.2)).bind fun r35 =>
 ifP (r35.2 = (dw r26.2)) <|
 (ld P 41 r35.1 (dw r26.2)).bind fun r36 =>
 ifP (r36.2 = (dw r26.2)) <|
 (vl x0 (dw r26.2)).bind fun r37 =>
 ifP (r37.2 = (dw r26.2)) <|
 (EV P 40 #[r37.1] (dw r26.2)).bind fun r38 =>
 ifP (ld P 41 r35.1 r38.2 = some (r36.1, r38.2) ∧ fa P 45 r34.1 1 r38.2 = some (r35.1, r38.2) ∧ ia P 23 r32.1 r33.1 r38.2 = some (r34.1, r38.2) ∧ ld P 23 r31.1 r38.2 = some (r32.1, r38.2) ∧ fa P 25 r4.1 0 r38.2 = some (r31.1, r38.2) ∧ ld P 23 r28.1 r38.2 = some (r29.1, r38.2) ∧ fa P 25 r4.1 0 r38.2 = some (r28.1, r38.2) ∧ True) <|
 (bs P 41 1 #[(0, r38.1)] r38.2).bind fun r39 =>
 ifP (ld P 41 r35.1 r39.2 = some (r36.1, r39.2) ∧ fa P 45 r34.1 1 r39.2 = some (r35.1, r39.2) ∧ ia P 23 r32.1 r33.1 r39.2 = some (r34.1, r39.2) ∧ ld P 23 r31.1 r39.2 = some (r32.1, r39.2) ∧ fa P 25 r4.1 0 r39.2 = some (r31.1, r39.2) ∧ ld P 23 r28.1 r39.2 = some (r29.1, r39.2) ∧ fa P 25 r4.1 0 r39.2 = some (r28.1, r39.2) ∧ True) <|
 (b_append P #[41, 41] 41 #[r36.1, r39.1] r39.2).bind fun r40 =>
 ifP (True ∧ True ∧ True ∧ True ∧ True ∧ ld P 23 r28.1 r40.2 = some (r29.1, r40.2) ∧ fa P 25 r4.1 0 r40.2 = some (r28.1, r40.2) ∧ True) <|
 (ia P 23 r29.1 r30.1 r40.2).bind fun r41 =>
 ifP (r41.2 = r40.2) <|
 (fa P 45 r41.1 1 r40.2).bind fun r42 =>
 ifP (r42.2 = r40.2) <|
 (st P 41 r42.1 r40.1 r40.2).bind fun r43 =>
 ifP (True ∧ True ∧ True ∧ True ∧ True ∧ True ∧ True ∧ True ∧ True ∧ True) <|
 spec_l20AnyChain_j1 (ups (env0 #[x0]) [(2, r1.1), (5, r2.1), (6, r3.1), (3, r4.1), (7, r6.1), (8, r7.1), (9, r8.1), (10, r9.1), (11, r10.1), (4, r11.1), (12, r12.1), (13, r13.1), (15, r14.1), (14, r15.1), (24, r25.1), (23, r26.1), (25, r28.1), (26, r29.1), (27, r30.1), (28, r31.1), (29, r32.1), (30, r33.1), (31, r34.1), (32, r35.1), (33, r36.1), (34, r37.1), (35, r38.1), (36, r39.1), (37, r40.1), (38, r41.1), (39, r42.1)]) r43.2) (
 (bo P .eql 3 (.tmp 13) (.const (.int .i64 2)) r13.1 (.int .i64 2) r26.2).bind fun r44 =>
 (vl r44.1 r44.2).bind fun r45 =>
 cnd r45.1 (
 (fa P 25 r4.1 0 r45.2).bind fun r46 =>
 (ld P 23 r46.1 r46.2).bind fun r47 =>
 (vl r11.1 r47.2).bind fun r48 =>
 (sl P 23 r47.1 none (some r48.1) none r48.2).bind fun r49 =>
 (fa P 25 r4.1 0 r49.2).bind fun r50 =>
 (st P 23 r50.1 r49.1 r50.2).bind fun r51 =>
 spec_l20AnyChain_j1 (ups (env0 #[x0]) [(2, r1.1), (5, r2.1), (6, r3.1), (3, r4.1), (7, r6.1), (8, r7.1), (9, r8.1), (10, r9.1), (11, r10.1), (4, r11.1), (12, r12.1), (13, r13.1), (15, r14.1), (14, r15.1), (24, r25.1), (23, r26.1), (41, r44.1), (40, r45.1), (42, r46.1), (43, r47.1), (44, r48.1), (45, r49.1), (46, r50.1)]) r51.2) (
 spec_l20AnyChain_j1 (ups (env0 #[x0]) [(2, r1.1), (5, r2.1), (6, r3.1), (3, r4.1), (7, r6.1), (8, r7.1), (9, r8.1), (10, r9.1), (11, r10.1), (4, r11.1), (12, r12.1), (13, r13.1), (15, r14.1), (14, r15.1), (24, r25.1), (23, r26.1), (41, r44.1), (40, r45.1)]) r45.2))) := by kernel_rfl
noncomputable def spec_l20AnyVer_j1 (e : Env) (w : World) : Option (Value × World) := exC P (EV P) 40 46 (cB (cB (cB (Yi P 40)))) e w (kFn P (fnOf P 40))
theorem spec_l20AnyVer_j1_eq (e : Env) (w : World) : spec_l20AnyVer_j1 e w =
 (ld P 32 (e 3) w).bind fun r1 =>
 (st P 32 (e 2) r1.1 r1.2).bind fun r2 =>
 ((ld P 32 (e 2) r2.2).bind fun r3 => ifP (r3.2 = r2.2) (some r3.1)).bind fun v4 =>
 some (v4, r2.2) := by kernel_rfl
theorem spec_l20AnyVer_fn (x0 : Value) (w : World) : fnC P (EV P) 40 #[x0] w =
 (al P 32 w).bind fun r1 =>
 (vl x0 r1.2).bind fun r2 =>
 (EV P 83 #[r2.1] r2.2).bind fun r3 =>
 (al P 32 r3.2).bind fun r4 =>
 (st P 32 r4.1 r3.1 r4.2).bind fun r5 =>
 (vl x0 r5.2).bind fun r6 =>
 (EV P 82 #[r6.1, (.int .i64 10)] r6.2).bind fun r7 =>
 (bo P .eql 3 (.tmp 7) (.const (.int .i64 0)) r7.1 (.int .i64 0) r7.2).bind fun r8 =>
 (vl r8.1 r8.2).bind fun r9 =>
 cnd r9.1 (
 (vl x0 r9.2).bind fun r10 =>
 (bs P 85 2 #[(0, (.int .i64 (-1))), (1, (.int .i64 4))] r10.2).bind fun r11 =>
 (EV P 62 #[r10.1, r11.1] r11.2).bind fun r12 =>
 (fa P 32 r4.1 0 r12.2).bind fun r13 =>
 (st P 3 r13.1 r12.1 r13.2).bind fun r14 =>
 spec_l20AnyVer_j1 (ups (env0 #[x0]) [(2, r1.1), (4, r2.1), (5, r3.1), (3, r4.1), (6, r6.1), (7, r7.1), (9, r8.1), (8, r9.1), (10, r10.1), (11, r11.1), (12, r12.1), (13, r13.1)]) r14.2) (
 (bo P .eql 3 (.tmp 7) (.const (.int .i64 1)) r7.1 (.int .i64 1) r9.2).bind fun r15 =>
 (vl r15.1 r15.2).bind fun r16 =>
 cnd r16.1 (
 (vl x0 r16.2).bind fun r17 =>
 (bs P 98 3 #[(0, (Go.Value.string { data := #[97, 32, 98] })), (1, (Go.Value.string { data := #[116, 111, 111, 108, 111, 110, 103, 101, 114] })), (2, (Go.Value.string { data := #[10] }))] r17.2).bind fun r18 =>
 (EV P 84 #[r17.1, r18.1] r18.2).bind fun r19 =>
 (fa P 32 r4.1 3 r19.2).bind fun r20 =>
 (st P 9 r20.1 r19.1 r20.2).bind fun r21 =>
 spec_l20AnyVer_j1 (ups (env0 #[x0]) [(2, r1.1), (4, r2.1), (5, r3.1), (3, r4.1), (6, r6.1), (7, r7.1), (9, r8.1), (8, r9.1), (15, r15.1), (14, r16.1), (16, r17.1), (17, r18.1), (18, r19.1), (19, r20.1)]) r21.2) (
 (bo P .eql 3 (.tmp 7) (.const (.int .i64 2)) r7.1 (.int .i64 2) r16.2).bind fun r22 =>
 (vl r22.1 r22.2).bind fun r23 =>
 cnd r23.1 (
 (fa P 32 r4.1 2 r23.2).bind fun r24 =>
 (fa P 30 r24.1 0 r24.2).bind fun r25 =>
 (ld P 28 r25.1 r25.2).bind fun r26 =>
 (sl P 28 r26.1 (some (.int .i64 1)) none none r26.2).bind fun r27 =>
 (fa P 32 r4.1 2 r27.2).bind fun r28 =>
 (fa P 30 r28.1 0 r28.2).bind fun r29 =>
 (st P 28 r29.1 r27.1 r29.2).bind fun r30 =>
 spec_l20AnyVer_j1 (ups (env0 #[x0]) [(2, r1.1), (4, r2.1), (5, r3.1), (3, r4.1), (6, r6.1), (7, r7.1), (9, r8.1), (8, r9.1), (15, r15.1), (14, r16.1), (21, r22.1), (20, r23.1), (22, r24.1), (23, r25.1), (24, r26.1), (25, r27.1), (26, r28.1), (27, r29.1)]) r30.2) (
 (bo P .eql 3 (.tmp 7) (.const (.int .i64 3)) r7.1 (.int .i64 3) r23.2).bind fun r31 =>
 (vl r31.1 r31.2).bind fun r32 =>
 cnd r32.1 (
 (fa P 32 r4.1 2 (dw r32.2)).bind fun r34 =>
 ifP (r34.2 = (dw r32.2)) <|
 (fa P 30 r34.1 0 (dw r32.2)).bind fun r35 =>
 ifP (r35.2 = (dw r32.2)) <|
 (ld P 28 r35.1 (dw r32.2)).bind fun r36 =>
 ifP (r36.2 = (dw r32.2)) <|
 (vl x0 (dw r32.2)).bind fun r37 =>
 ifP (r37.2 = (dw r32.2)) <|
 (bd P 27 #[(0, (.int .i64 50)), (1, (.int .i64 1))] (dw r32.2)).bind fun r38 =>
 ifP (r38.2 = (dw r32.2)) <|
 (EV P 82 #[r37.1, (.int .i64 4)] (dw r32.2)).bind fun r39 =>
 ifP (bd P 27 #[(0, (.int .i64 50)), (1, (.int .i64 1))] r39.2 = some (r38.1, r39.2) ∧ ld P 28 r35.1 r39.2 = some (r36.1, r39.2) ∧ fa P 30 r34.1 0 r39.2 = some (r35.1, r39.2) ∧ fa P 32 r4.1 2 r39.2 = some (r34.1, r39.2) ∧ True) <|
 (ia P 28 r36.1 r39.1 r39.2).bind fun r40 =>
 ifP (r40.2 = r39.2) <|
 (st P 27 r40.1 r38.1 r39.2).bind fun r41 =>
 ifP (True ∧ True ∧ True ∧ True ∧ True ∧ True) <|
 spec_l20AnyVer_j1 (ups (env0 #[x0]) [(2, r1.1), (4, r2.1), (5, r3.1), (3, r4.1), (6, r6.1), (7, r7.1), (9, r8.1), (8, r9.1), (15, r15.1), (14, r16.1), (21, r22.1), (20, r23.1), (29, r31.1), (28, r32.1), (30, r34.1), (31, r35.1), (32, r36.1), (33, r37.1), (35, r38.1), (34, r39.1), (36, r40.1)]) r41.2) (
 (bo P .eql 3 (.tmp 7) (.const (.int .i64 4)) r7.1 (.int .i64 4) r32.2).bind fun r42 =>
 (vl r42.1 r42.2).bind fun r43 =>
 cnd r43.1 (
 (vl x0 r43.2).bind fun r44 =>
 (EV P 85 #[r44.1] r44.2).bind fun r45 =>
 (fa P 32 r4.1 1 r45.2).bind fun r46 =>
 (st P 27 r46.1 r45.1 r46.2).bind fun r47 =>
 spec_l20AnyVer_j1 (ups (env0 #[x0]) [(2, r1.1), (4, r2.1), (5, r3.1), (3, r4.1), (6, r6.1), (7, r7.1), (9, r8.1), (8, r9.1), (15, r15.1), (14, r16.1), (21, r22.1), (20, r23.1), (29, r31.1), (28, r32.1), (38, r42.1), (37, r43.1), (39, r44.1), (40, r45.1), (41, r46.1)]) r47.2) (
 (bo P .eql 3 (.tmp 7) (.const (.int .i64 5)) r7.1 (.int .i64 5) r43.2).bind fun r48 =>
 (vl r48.1 r48.2).bind fun r49 =>
 cnd r49.1 (
 (fa P 32 r4.1 4 r49.2).bind fun r50 =>
 (st P 4 r50.1 (.bool true) r50.2).bind fun r51 =>
 spec_l20AnyVer_j1 (ups (env0 #[x0]) [(2, r1.1), (4, r2.1), (5, r3.1), (3, r4.1), (6, r6.1), (7, r7.1), (9, r8.1), (8, r9.1), (15, r15.1), (14, r16.1), (21, r22.1), (20, r23.1), (29, r31.1), (28, r32.1), (38, r42.1), (37, r43.1), (43, r48.1), (42, r49.1), (44, r50.1)]) r51.2) (
 spec_l20AnyVer_j1 (ups (env0 #[x0]) [(2, r1.1), (4, r2.1), (5, r3.1), (3, r4.1), (6, r6.1), (7, r7.1), (9, r8.1), (8, r9.1), (15, r15.1), (14, r16.1), (21, r22.1), (20, r23.1), (29, r31.1), (28, r32.1), (38, r42.1), (37, r43.1), (43, r48.1), (42, r49.1)]) r49.2)))))) := by kernel_rfl
theorem impl_tried_fn (x0 x1 : Value) (w : World) : fnC P (EV P) 41 #[x0, x1] w =
 (bx P 25 x0 w).bind fun r1 =>
 (al P 25 r1.2).bind fun r2 =>
 (vl (.bool false) r2.2).bind fun r3 =>
 (ld P 25 r1.1 r3.2).bind fun r4 =>
 (EV P 86 #[r4.1] r4.2).bind fun r5 =>
 (al P 25 r5.2).bind fun r6 =>
 (st P 25 r6.1 r5.1 r6.2).bind fun r7 =>
 (vl x1 r7.2).bind fun r8 =>
 (clo P r8.1 #[r6.1] r8.2).bind fun r9 =>
 (vl r9.1 r9.2).bind fun r10 =>
 (ld P 25 r6.1 r10.2).bind fun r11 =>
 (vl r10.1 r11.2).bind fun r12 =>
 (st P 25 r2.1 r11.1 r12.2).bind fun r13 =>
 (vl r12.1 r13.2).bind fun r14 =>
 ((ld P 25 r2.1 r14.2).bind fun r15 => ifP (r15.2 = r14.2) (some r15.1)).bind fun v16 =>
 some (.tuple #[v16, r14.1], r14.2) := by kernel_rfl
theorem impl_ChainPut_1_fn (x0 x1 : Value) (w : World) : fnC P (EV P) 42 #[x0, x1] w =
 (vl (.bool false) w).bind fun r1 =>
 (vl x0 r1.2).bind fun r2 =>
 (ld P 32 x1 r2.2).bind fun r3 =>
 (EV P 43 #[r2.1, r3.1] r3.2).bind fun r4 =>
 (vl r4.1 r4.2).bind fun r5 =>
 some (r5.1, r5.2) := by kernel_rfl
theorem impl_Chain_put_fn (x0 x1 : Value) (w : World) : fnC P (EV P) 43 #[x0, x1] w =
 (bx P 32 x1 w).bind fun r1 =>
 (vl (.bool false) r1.2).bind fun r2 =>
 (vl x0 r2.2).bind fun r3 =>
 (EV P 87 #[r3.1, (.int .i64 0)] r3.2).bind fun r4 =>
 cnd r4.1 (
 (vl (.bool false) r4.2).bind fun r5 =>
 some (r5.1, r5.2)) (
 (vl x0 r4.2).bind fun r6 =>
 (ld P 32 r1.1 r6.2).bind fun r7 =>
 (EV P 88 #[r6.1, (.int .i64 0), r7.1] r7.2).bind fun r8 =>
 (vl (.bool true) r8.2).bind fun r9 =>
 some (r9.1, r9.2)) := by kernel_rfl
noncomputable def spec_l3Ok_l1 (e : Env) (w : World) : Option (Value × World) := exC P (EV P) 44 90 (.loop (cA (cA (cB (cA (cB (Yi P 44))))))) e w (Yj 0 (kSeq P (EV P) 44 90 (cB (cB (Yi P 44))) (kFn P (fnOf P 44))))
noncomputable def spec_l3Ok_l2 (e : Env) (w : World) : Option (Value × World) := exC P (EV P) 44 90 (.loop (cA (cA (cB (cA (cB (cA (cA (cB (cA (cA (cB (cA (cB (Yi P 44))))))))))))))) e w (Yj 2 (kSeq P (EV P) 44 90 (cB (cB (cA (cA (cB (cA (cA (cB (cA (cB (Yi P 44))))))))))) (Yj 1 (kSeq P (EV P) 44 90 (cB (cB (cA (cA (cB (cA (cB (Yi P 44)))))))) (kLoop P (EV P) 44 90 (cA (cA (cB (cA (cB (Yi P 44)))))) (Yj 0 (kSeq P (EV P) 44 90 (cB (cB (Yi P 44))) (kFn P (fnOf P 44)))))))))
theorem spec_l3Ok_l1_eq (e : Env) (w : World) : spec_l3Ok_l1 e w =
 (vl (e 3) w).bind fun r1 =>
 (fa P 25 (e 1) 0 r1.2).bind fun r2 =>
 (ld P 23 r2.1 r2.2).bind fun r3 =>
 (b_len P #[23] 3 #[r3.1] r3.2).bind fun r4 =>
 (bo P .lss 3 (.tmp 6) (.tmp 9) r1.1 r4.1 r4.2).bind fun r5 =>
 cnd r5.1 (
 (fa P 25 (e 1) 0 r5.2).bind fun r6 =>
 (ld P 23 r6.1 r6.2).bind fun r7 =>
 (vl (e 3) r7.2).bind fun r8 =>
 (ia P 23 r7.1 r8.1 r8.2).bind fun r9 =>
 (fa P 45 r9.1 0 r9.2).bind fun r10 =>
 (ld P 43 r10.1 r10.2).bind fun r11 =>
 (EV P 68 #[r11.1] r11.2).bind fun r12 =>
 (uo P .not r12.1 r12.2).bind fun r13 =>
 (vl r13.1 r13.2).bind fun r14 =>
 (gif r14.1 false (fa P 25 (e 1) 0 r14.2) r14.2).bind fun r15 =>
 (gif r14.1 false (ld P 23 r15.1 r15.2) r15.2).bind fun r16 =>
 (gif r14.1 false (vl (e 3) r16.2) r16.2).bind fun r17 =>
 (gif r14.1 false (ia P 23 r16.1 r17.1 r17.2) r17.2).bind fun r18 =>
 (gif r14.1 false (fa P 45 r18.1 1 r18.2) r18.2).bind fun r19 =>
 (gif r14.1 false (ld P 41 r19.1 r19.2) r19.2).bind fun r20 =>
 (gif r14.1 false (b_len P #[41] 3 #[r20.1] r20.2) r20.2).bind fun r21 =>
 (gif r14.1 false (bo P .gtr 3 (.tmp 28) (.const (.int .i64 6)) r21.1 (.int .i64 6) r21.2) r21.2).bind fun r22 =>
 (pickV r14.1 (.bool true) r22.1 r22.2).bind fun r23 =>
 cnd r23.1 (
 (vl (.bool false) r23.2).bind fun r24 =>
 some (r24.1, r24.2)) (
 (vl (.int .i64 0) r23.2).bind fun r25 =>
 spec_l3Ok_l2 (ups e [(6, r1.1), (7, r2.1), (8, r3.1), (9, r4.1), (10, r5.1), (13, r6.1), (14, r7.1), (15, r8.1), (16, r9.1), (17, r10.1), (18, r11.1), (19, r12.1), (20, r13.1), (21, r14.1), (22, r15.1), (23, r16.1), (24, r17.1), (25, r18.1), (26, r19.1), (27, r20.1), (28, r21.1), (29, r22.1), (30, r23.1), (4, r25.1)]) r25.2)) (
 (fa P 25 (e 1) 0 r5.2).bind fun r26 =>
 (ld P 23 r26.1 r26.2).bind fun r27 =>
 (b_len P #[23] 3 #[r27.1] r27.2).bind fun r28 =>
 (vl r28.1 r28.2).bind fun r29 =>
 (vl r29.1 r29.2).bind fun r30 =>
 (EV P 90 #[r30.1, (.int .i64 1), (.int .i64 4)] r30.2).bind fun r31 =>
 (vl r31.1 r31.2).bind fun r32 =>
 (gif r32.1 true (fa P 25 (e 1) 0 r32.2) r32.2).bind fun r33 =>
 (gif r32.1 true (ld P 23 r33.1 r33.2) r33.2).bind fun r34 =>
 (gif r32.1 true (vl r29.1 r34.2) r34.2).bind fun r35 =>
 (gif r32.1 true (bo P .sub 3 (.tmp 82) (.const (.int .i64 1)) r35.1 (.int .i64 1) r35.2) r35.2).bind fun r36 =>
 (gif r32.1 true (ia P 23 r34.1 r36.1 r36.2) r36.2).bind fun r37 =>
 (gif r32.1 true (fa P 45 r37.1 1 r37.2) r37.2).bind fun r38 =>
 (gif r32.1 true (ld P 41 r38.1 r38.2) r38.2).bind fun r39 =>
 (gif r32.1 true (b_len P #[41] 3 #[r39.1] r39.2) r39.2).bind fun r40 =>
 (gif r32.1 true (bo P .eql 3 (.tmp 87) (.const (.int .i64 0)) r40.1 (.int .i64 0) r40.2) r40.2).bind fun r41 =>
 (pickV r32.1 r41.1 (.bool false) r41.2).bind fun r42 =>
 (vl r42.1 r42.2).bind fun r43 =>
 some (r43.1, r43.2)) := (exC_loop P (EV P) 44 90 (cA (cA (cB (cA (cB (Yi P 44)))))) e w (Yj 0 (kSeq P (EV P) 44 90 (cB (cB (Yi P 44))) (kFn P (fnOf P 44))))).trans (by kernel_rfl)
theorem spec_l3Ok_l2_eq (e : Env) (w : World) : spec_l3Ok_l2 e w =
 (vl (e 4) w).bind fun r1 =>
 (fa P 25 (e 1) 0 r1.2).bind fun r2 =>
 (ld P 23 r2.1 r2.2).bind fun r3 =>
 (vl (e 3) r3.2).bind fun r4 =>
 (ia P 23 r3.1 r4.1 r4.2).bind fun r5 =>
 (fa P 45 r5.1 1 r5.2).bind fun r6 =>
 (ld P 41 r6.1 r6.2).bind fun r7 =>
 (b_len P #[41] 3 #[r7.1] r7.2).bind fun r8 =>
 (bo P .lss 3 (.tmp 31) (.tmp 38) r1.1 r8.1 r8.2).bind fun r9 =>
 cnd r9.1 (
 (fa P 25 (e 1) 0 r9.2).bind fun r10 =>
 (ld P 23 r10.1 r10.2).bind fun r11 =>
 (vl (e 3) r11.2).bind fun r12 =>
 (ia P 23 r11.1 r12.1 r12.2).bind fun r13 =>
 (fa P 45 r13.1 1 r13.2).bind fun r14 =>
 (ld P 41 r14.1 r14.2).bind fun r15 =>
 (vl (e 4) r15.2).bind fun r16 =>
 (ia P 41 r15.1 r16.1 r16.2).bind fun r17 =>
 (ld P 32 r17.1 r17.2).bind fun r18 =>
 (EV P 45 #[r18.1] r18.2).bind fun r19 =>
 (uo P .not r19.1 r19.2).bind fun r20 =>
 cnd r20.1 (
 (vl (.bool false) r20.2).bind fun r21 =>
 some (r21.1, r21.2)) (
 (vl (e 4) r20.2).bind fun r22 =>
 (bo P .add 3 (.tmp 40) (.const (.int .i64 1)) r22.1 (.int .i64 1) r22.2).bind fun r23 =>
 (vl r23.1 r23.2).bind fun r24 =>
 spec_l3Ok_l2 (ups e [(31, r1.1), (32, r2.1), (33, r3.1), (34, r4.1), (35, r5.1), (36, r6.1), (37, r7.1), (38, r8.1), (39, r9.1), (42, r10.1), (43, r11.1), (44, r12.1), (45, r13.1), (46, r14.1), (47, r15.1), (48, r16.1), (49, r17.1), (50, r18.1), (51, r19.1), (52, r20.1), (40, r22.1), (41, r23.1), (4, r24.1)]) r24.2)) (
 (vl (e 3) (dw r9.2)).bind fun r26 =>
 ifP (r26.2 = (dw r9.2)) <|
 (bo P .add 3 (.tmp 53) (.const (.int .i64 1)) r26.1 (.int .i64 1) (dw r9.2)).bind fun r27 =>
 ifP (r27.2 = (dw r9.2)) <|
 (fa P 25 (e 1) 0 (dw r9.2)).bind fun r28 =>
 ifP (r28.2 = (dw r9.2)) <|
 (ld P 23 r28.1 (dw r9.2)).bind fun r29 =>
 ifP (r29.2 = (dw r9.2)) <|
 (b_len P #[23] 3 #[r29.1] (dw r9.2)).bind fun r30 =>
 ifP (r30.2 = (dw r9.2)) <|
 (bo P .lss 3 (.tmp 54) (.tmp 57) r27.1 r30.1 (dw r9.2)).bind fun r31 =>
 ifP (r31.2 = (dw r9.2)) <|
 (vl r31.1 (dw r9.2)).bind fun r32 =>
 ifP (r32.2 = (dw r9.2)) <|
 (gif r32.1 true (fa P 25 (e 1) 0 (dw r9.2)) (dw r9.2)).bind fun r33 =>
 ifP (r33.2 = (dw r9.2)) <|
 (gif r32.1 true (ld P 23 r33.1 (dw r9.2)) (dw r9.2)).bind fun r34 =>
 ifP (r34.2 = (dw r9.2)) <|
 (gif r32.1 true (vl (e 3) (dw r9.2)) (dw r9.2)).bind fun r35 =>
 ifP (r35.2 = (dw r9.2)) <|
 (gif r32.1 true (ia P 23 r34.1 r35.1 (dw r9.2)) (dw r9.2)).bind fun r36 =>
 ifP (r36.2 = (dw r9.2)) <|
 (gif r32.1 true (ld P 45 r36.1 (dw r9.2)) (dw r9.2)).bind fun r37 =>
 ifP (r37.2 = (dw r9.2)) <|
 (gif r32.1 true (fa P 25 (e 1) 0 (dw r9.2)) (dw r9.2)).bind fun r38 =>
 ifP (r38.2 = (dw r9.2)) <|
 (gif r32.1 true (ld P 23 r38.1 (dw r9.2)) (dw r9.2)).bind fun r39 =>
 ifP (r39.2 = (dw r9.2)) <|
 (gif r32.1 true (vl (e 3) (dw r9.2)) (dw r9.2)).bind fun r40 =>
 ifP (r40.2 = (dw r9.2)) <|
 (gif r32.1 true (bo P .add 3 (.tmp 67) (.const (.int .i64 1)) r40.1 (.int .i64 1) (dw r9.2)) (dw r9.2)).bind fun r41 =>
 ifP (r41.2 = (dw r9.2)) <|
 (gif r32.1 true (ia P 23 r39.1 r41.1 (dw r9.2)) (dw r9.2)).bind fun r42 =>
 ifP (r42.2 = (dw r9.2)) <|
 (gif r32.1 true (ld P 45 r42.1 (dw r9.2)) (dw r9.2)).bind fun r43 =>
 ifP (r43.2 = (dw r9.2)) <|
 (gif r32.1 true (EV P 89 #[r37.1, r43.1] (dw r9.2)) (dw r9.2)).bind fun r44 =>
 ifP (True ∧ True ∧ True ∧ True ∧ True ∧ True ∧ True ∧ True ∧ True ∧ True ∧ True ∧ True ∧ True ∧ True ∧ True) <|
 (gif r32.1 true (uo P .not r44.1 r44.2) r44.2).bind fun r45 =>
 ifP (r45.2 = r44.2) <|
 (pickV r32.1 r45.1 (.bool false) r44.2).bind fun r46 =>
 ifP (r46.2 = r44.2) <|
 cnd r46.1 (
 (vl (.bool false) r44.2).bind fun r47 =>
 some (r47.1, r47.2)) (
 (vl (e 3) r44.2).bind fun r48 =>
 (bo P .add 3 (.tmp 11) (.const (.int .i64 1)) r48.1 (.int .i64 1) r48.2).bind fun r49 =>
 (vl r49.1 r49.2).bind fun r50 =>
 spec_l3Ok_l1 (ups e [(31, r1.1), (32, r2.1), (33, r3.1), (34, r4.1), (35, r5.1), (36, r6.1), (37, r7.1), (38, r8.1), (39, r9.1), (53, r26.1), (54, r27.1), (55, r28.1), (56, r29.1), (57, r30.1), (58, r31.1), (59, r32.1), (60, r33.1), (61, r34.1), (62, r35.1), (63, r36.1), (64, r37.1), (65, r38.1), (66, r39.1), (67, r40.1), (68, r41.1), (69, r42.1), (70, r43.1), (71, r44.1), (72, r45.1), (73, r46.1), (11, r48.1), (12, r49.1), (3, r50.1)]) r50.2)) := (exC_loop P (EV P) 44 90 (cA (cA (cB (cA (cB (cA (cA (cB (cA (cA (cB (cA (cB (Yi P 44)))))))))))))) e w (Yj 2 (kSeq P (EV P) 44 90 (cB (cB (cA (cA (cB (cA (cA (cB (cA (cB (Yi P 44))))))))))) (Yj 1 (kSeq P (EV P) 44 90 (cB (cB (cA (cA (cB (cA (cB (Yi P 44)))))))) (kLoop P (EV P) 44 90 (cA (cA (cB (cA (cB (Yi P 44)))))) (Yj 0 (kSeq P (EV P) 44 90 (cB (cB (Yi P 44))) (kFn P (fnOf P 44)))))))))).trans (by kernel_rfl)
theorem spec_l3Ok_fn (x0 : Value) (w : World) : fnC P (EV P) 44 #[x0] w =
 (bx P 25 x0 w).bind fun r1 =>
 (vl (.bool false) r1.2).bind fun r2 =>
 (vl (.int .i64 0) r2.2).bind fun r3 =>
 spec_l3Ok_l1 (ups (env0 #[x0]) [(1, r1.1), (2, r2.1), (3, r3.1)]) r3.2 := by kernel_rfl
noncomputable def spec_l2Ok_l1 (e : Env) (w : World) : Option (Value × World) := exC P (EV P) 45 56 (.loop (cA (cA (cB (cA (cB (cB (Yi P 45)))))))) e w (Yj 0 (kSeq P (EV P) 45 56 (cB (cB (cB (Yi P 45)))) (kFn P (fnOf P 45))))
theorem spec_l2Ok_l1_eq (e : Env) (w : World) : spec_l2Ok_l1 e w =
 (vl (e 3) w).bind fun r1 =>
 (bo P .lss 3 (.tmp 41) (.const (.int .i64 4)) r1.1 (.int .i64 4) r1.2).bind fun r2 =>
 cnd r2.1 (
 (fa P 32 (e 1) 2 (dw r2.2)).bind fun r4 =>
 ifP (r4.2 = (dw r2.2)) <|
 (fa P 30 r4.1 0 (dw r2.2)).bind fun r5 =>
 ifP (r5.2 = (dw r2.2)) <|
 (ld P 28 r5.1 (dw r2.2)).bind fun r6 =>
 ifP (r6.2 = (dw r2.2)) <|
 (vl (e 3) (dw r2.2)).bind fun r7 =>
 ifP (r7.2 = (dw r2.2)) <|
 (ia P 28 r6.1 r7.1 (dw r2.2)).bind fun r8 =>
 ifP (r8.2 = (dw r2.2)) <|
 (fa P 27 r8.1 0 (dw r2.2)).bind fun r9 =>
 ifP (r9.2 = (dw r2.2)) <|
 (ld P 3 r9.1 (dw r2.2)).bind fun r10 =>
 ifP (r10.2 = (dw r2.2)) <|
 (fa P 32 (e 1) 1 (dw r2.2)).bind fun r11 =>
 ifP (r11.2 = (dw r2.2)) <|
 (fa P 27 r11.1 0 (dw r2.2)).bind fun r12 =>
 ifP (r12.2 = (dw r2.2)) <|
 (ld P 3 r12.1 (dw r2.2)).bind fun r13 =>
 ifP (r13.2 = (dw r2.2)) <|
 (bo P .geq 3 (.tmp 51) (.tmp 54) r10.1 r13.1 (dw r2.2)).bind fun r14 =>
 ifP (r14.2 = (dw r2.2)) <|
 cnd r14.1 (
 (vl (.bool false) (dw r2.2)).bind fun r15 =>
 some (r15.1, r15.2)) (
 (vl (e 3) (dw r2.2)).bind fun r16 =>
 (bo P .add 3 (.tmp 43) (.const (.int .i64 1)) r16.1 (.int .i64 1) r16.2).bind fun r17 =>
 (vl r17.1 r17.2).bind fun r18 =>
 spec_l2Ok_l1 (ups e [(41, r1.1), (42, r2.1), (45, r4.1), (46, r5.1), (47, r6.1), (48, r7.1), (49, r8.1), (50, r9.1), (51, r10.1), (52, r11.1), (53, r12.1), (54, r13.1), (55, r14.1), (43, r16.1), (44, r17.1), (3, r18.1)]) r18.2)) (
 (vl (.bool true) r2.2).bind fun r19 =>
 some (r19.1, r19.2)) := (exC_loop P (EV P) 45 56 (cA (cA (cB (cA (cB (cB (Yi P 45))))))) e w (Yj 0 (kSeq P (EV P) 45 56 (cB (cB (cB (Yi P 45)))) (kFn P (fnOf P 45))))).trans (by kernel_rfl)
theorem spec_l2Ok_fn (x0 : Value) (w : World) : fnC P (EV P) 45 #[x0] w =
 (bx P 32 x0 w).bind fun r1 =>
 (vl (.bool false) r1.2).bind fun r2 =>
 (fa P 32 r1.1 0 r2.2).bind fun r3 =>
 (ld P 3 r3.1 r3.2).bind fun r4 =>
 (EV P 90 #[r4.1, (.int .i64 0), (.int .i64 3)] r4.2).bind fun r5 =>
 (uo P .not r5.1 r5.2).bind fun r6 =>
 (vl r6.1 r6.2).bind fun r7 =>
 (gif r7.1 false (fa P 32 r1.1 3 r7.2) r7.2).bind fun r8 =>
 (gif r7.1 false (ld P 9 r8.1 r8.2) r8.2).bind fun r9 =>
 (gif r7.1 false (EV P 91 #[r9.1] r9.2) r9.2).bind fun r10 =>
 (gif r7.1 false (uo P .not r10.1 r10.2) r10.2).bind fun r11 =>
 (pickV r7.1 (.bool true) r11.1 r11.2).bind fun r12 =>
 (vl r12.1 r12.2).bind fun r13 =>
 (gif r13.1 false (fa P 32 r1.1 1 r13.2) r13.2).bind fun r14 =>
 (gif r13.1 false (ld P 27 r14.1 r14.2) r14.2).bind fun r15 =>
 (gif r13.1 false (EV P 92 #[r15.1] r15.2) r15.2).bind fun r16 =>
 (gif r13.1 false (uo P .not r16.1 r16.2) r16.2).bind fun r17 =>
 (pickV r13.1 (.bool true) r17.1 r17.2).bind fun r18 =>
 (vl r18.1 r18.2).bind fun r19 =>
 (gif r19.1 false (fa P 32 r1.1 1 r19.2) r19.2).bind fun r20 =>
 (gif r19.1 false (fa P 27 r20.1 0 r20.2) r20.2).bind fun r21 =>
 (gif r19.1 false (ld P 3 r21.1 r21.2) r21.2).bind fun r22 =>
 (gif r19.1 false (bo P .eql 3 (.tmp 23) (.const (.int .i64 0)) r22.1 (.int .i64 0) r22.2) r22.2).bind fun r23 =>
 (pickV r19.1 (.bool true) r23.1 r23.2).bind fun r24 =>
 (vl r24.1 r24.2).bind fun r25 =>
 (gif r25.1 false (fa P 32 r1.1 4 r25.2) r25.2).bind fun r26 =>
 (gif r25.1 false (ld P 4 r26.1 r26.2) r26.2).bind fun r27 =>
 (gif r25.1 false (vl r27.1 r27.2) r27.2).bind fun r28 =>
 (gif r28.1 true (fa P 32 r1.1 3 r28.2) r28.2).bind fun r29 =>
 (gif r28.1 true (ld P 9 r29.1 r29.2) r29.2).bind fun r30 =>
 (gif r28.1 true (bo P .neq 9 (.tmp 31) (.const (Go.Value.string { data := #[] })) r30.1 (Go.Value.string { data := #[] }) r30.2) r30.2).bind fun r31 =>
 (gif r25.1 false (pickV r28.1 r31.1 (.bool false) r31.2) r31.2).bind fun r32 =>
 (pickV r25.1 (.bool true) r32.1 r32.2).bind fun r33 =>
 (vl r33.1 r33.2).bind fun r34 =>
 (gif r34.1 false (fa P 32 r1.1 2 r34.2) r34.2).bind fun r35 =>
 (gif r34.1 false (ld P 30 r35.1 r35.2) r35.2).bind fun r36 =>
 (gif r34.1 false (EV P 76 #[r36.1] r36.2) r36.2).bind fun r37 =>
 (gif r34.1 false (uo P .not r37.1 r37.2) r37.2).bind fun r38 =>
 (pickV r34.1 (.bool true) r38.1 r38.2).bind fun r39 =>
 cnd r39.1 (
 (vl (.bool false) r39.2).bind fun r40 =>
 some (r40.1, r40.2)) (
 (vl (.int .i64 0) r39.2).bind fun r41 =>
 spec_l2Ok_l1 (ups (env0 #[x0]) [(1, r1.1), (2, r2.1), (4, r3.1), (5, r4.1), (6, r5.1), (7, r6.1), (8, r7.1), (9, r8.1), (10, r9.1), (11, r10.1), (12, r11.1), (13, r12.1), (14, r13.1), (15, r14.1), (16, r15.1), (17, r16.1), (18, r17.1), (19, r18.1), (20, r19.1), (21, r20.1), (22, r21.1), (23, r22.1), (24, r23.1), (25, r24.1), (26, r25.1), (27, r26.1), (28, r27.1), (29, r28.1), (30, r29.1), (31, r30.1), (32, r31.1), (33, r32.1), (34, r33.1), (35, r34.1), (36, r35.1), (37, r36.1), (38, r37.1), (39, r38.1), (40, r39.1), (3, r41.1)]) r41.2) := by kernel_rfl
theorem spec_l3Room_fn (x0 : Value) (w : World) : fnC P (EV P) 46 #[x0] w =
 (bx P 25 x0 w).bind fun r1 =>
 (vl (.bool false) r1.2).bind fun r2 =>
 (fa P 25 r1.1 0 r2.2).bind fun r3 =>
 (ld P 23 r3.1 r3.2).bind fun r4 =>
 (ia P 23 r4.1 (.int .i64 0) r4.2).bind fun r5 =>
 (fa P 45 r5.1 1 r5.2).bind fun r6 =>
 (ld P 41 r6.1 r6.2).bind fun r7 =>
 (b_len P #[41] 3 #[r7.1] r7.2).bind fun r8 =>
 (bo P .lss 3 (.tmp 8) (.const (.int .i64 6)) r8.1 (.int .i64 6) r8.2).bind fun r9 =>
 (vl r9.1 r9.2).bind fun r10 =>
 some (r10.1, r10.2) := by kernel_rfl
noncomputable def spec_l3Copy_l1 (e : Env) (w : World) : Option (Value × World) := exC P (EV P) 47 56 (.loop (cA (cA (cB (cA (cB (cB (Yi P 47)))))))) e w (Yj 0 (kSeq P (EV P) 47 56 (cB (cB (cB (Yi P 47)))) (kFn P (fnOf P 47))))
noncomputable def spec_l3Copy_l2 (e : Env) (w : World) : Option (Value × World) := exC P (EV P) 47 56 (.loop (cA (cA (cB (cA (cB (cA (cA (cB (cA (cA (cB (cA (cB (cB (Yi P 47)))))))))))))))) e w (Yj 2 (kSeq P (EV P) 47 56 (cB (cB (cA (cA (cB (cA (cA (cB (cA (cB (cB (Yi P 47)))))))))))) (Yj 1 (kSeq P (EV P) 47 56 (cB (cB (cA (cA (cB (cA (cB (cB (Yi P 47))))))))) (kLoop P (EV P) 47 56 (cA (cA (cB (cA (cB (cB (Yi P 47))))))) (Yj 0 (kSeq P (EV P) 47 56 (cB (cB (cB (Yi P 47)))) (kFn P (fnOf P 47)))))))))
theorem spec_l3Copy_l1_eq (e : Env) (w : World) : spec_l3Copy_l1 e w =
 (vl (e 4) w).bind fun r1 =>
 (fa P 25 (e 1) 0 r1.2).bind fun r2 =>
 (ld P 23 r2.1 r2.2).bind fun r3 =>
 (b_len P #[23] 3 #[r3.1] r3.2).bind fun r4 =>
 (bo P .lss 3 (.tmp 8) (.tmp 11) r1.1 r4.1 r4.2).bind fun r5 =>
 cnd r5.1 (
 (fa P 25 (e 1) 0 r5.2).bind fun r6 =>
 (ld P 23 r6.1 r6.2).bind fun r7 =>
 (vl (e 4) r7.2).bind fun r8 =>
 (ia P 23 r7.1 r8.1 r8.2).bind fun r9 =>
 (fa P 45 r9.1 0 r9.2).bind fun r10 =>
 (ld P 43 r10.1 r10.2).bind fun r11 =>
 (EV P 70 #[r11.1] r11.2).bind fun r12 =>
 (bd P 45 #[(0, r12.1)] r12.2).bind fun r13 =>
 (al P 45 r13.2).bind fun r14 =>
 (st P 45 r14.1 r13.1 r14.2).bind fun r15 =>
 (vl (.int .i64 0) r15.2).bind fun r16 =>
 spec_l3Copy_l2 (ups e [(8, r1.1), (9, r2.1), (10, r3.1), (11, r4.1), (12, r5.1), (15, r6.1), (16, r7.1), (17, r8.1), (18, r9.1), (19, r10.1), (20, r11.1), (21, r12.1), (22, r13.1), (5, r14.1), (6, r16.1)]) r16.2) (
 (ld P 25 (e 3) r5.2).bind fun r17 =>
 (st P 25 (e 2) r17.1 r17.2).bind fun r18 =>
 ((ld P 25 (e 2) r18.2).bind fun r19 => ifP (r19.2 = r18.2) (some r19.1)).bind fun v20 =>
 some (v20, r18.2)) := (exC_loop P (EV P) 47 56 (cA (cA (cB (cA (cB (cB (Yi P 47))))))) e w (Yj 0 (kSeq P (EV P) 47 56 (cB (cB (cB (Yi P 47)))) (kFn P (fnOf P 47))))).trans (by kernel_rfl)
theorem spec_l3Copy_l2_eq (e : Env) (w : World) : spec_l3Copy_l2 e w =
 (vl (e 6) w).bind fun r1 =>
 (fa P 25 (e 1) 0 r1.2).bind fun r2 =>
 (ld P 23 r2.1 r2.2).bind fun r3 =>
 (vl (e 4) r3.2).bind fun r4 =>
 (ia P 23 r3.1 r4.1 r4.2).bind fun r5 =>
 (fa P 45 r5.1 1 r5.2).bind fun r6 =>
 (ld P 41 r6.1 r6.2).bind fun r7 =>
 (b_len P #[41] 3 #[r7.1] r7.2).bind fun r8 =>
 (bo P .lss 3 (.tmp 23) (.tmp 30) r1.1 r8.1 r8.2).bind fun r9 =>
 cnd r9.1 (
 (fa P 45 (e 5) 1 (dw r9.2)).bind fun r11 =>
 ifP (r11.2 = (dw r9.2)) <|
 (ld P 41 r11.1 (dw r9.2)).bind fun r12 =>
 ifP (r12.2 = (dw r9.2)) <|
 (fa P 25 (e 1) 0 (dw r9.2)).bind fun r13 =>
 ifP (r13.2 = (dw r9.2)) <|
 (ld P 23 r13.1 (dw r9.2)).bind fun r14 =>
 ifP (r14.2 = (dw r9.2)) <|
 (vl (e 4) (dw r9.2)).bind fun r15 =>
 ifP (r15.2 = (dw r9.2)) <|
 (ia P 23 r14.1 r15.1 (dw r9.2)).bind fun r16 =>
 ifP (r16.2 = (dw r9.2)) <|
 (fa P 45 r16.1 1 (dw r9.2)).bind fun r17 =>
 ifP (r17.2 = (dw r9.2)) <|
 (ld P 41 r17.1 (dw r9.2)).bind fun r18 =>
 ifP (r18.2 = (dw r9.2)) <|
 (vl (e 6) (dw r9.2)).bind fun r19 =>
 ifP (r19.2 = (dw r9.2)) <|
 (ia P 41 r18.1 r19.1 (dw r9.2)).bind fun r20 =>
 ifP (r20.2 = (dw r9.2)) <|
 (ld P 32 r20.1 (dw r9.2)).bind fun r21 =>
 ifP (r21.2 = (dw r9.2)) <|
 (EV P 93 #[r21.1] (dw r9.2)).bind fun r22 =>
 ifP (True ∧ True ∧ True ∧ True ∧ True ∧ True ∧ True ∧ ld P 41 r11.1 r22.2 = some (r12.1, r22.2) ∧ fa P 45 (e 5) 1 r22.2 = some (r11.1, r22.2) ∧ True) <|
 (bs P 41 1 #[(0, r22.1)] r22.2).bind fun r23 =>
 ifP (True ∧ True ∧ True ∧ True ∧ True ∧ True ∧ True ∧ ld P 41 r11.1 r23.2 = some (r12.1, r23.2) ∧ fa P 45 (e 5) 1 r23.2 = some (r11.1, r23.2) ∧ True) <|
 (b_append P #[41, 41] 41 #[r12.1, r23.1] r23.2).bind fun r24 =>
 ifP (True ∧ True ∧ True ∧ True ∧ True ∧ True ∧ True ∧ True ∧ True ∧ True) <|
 (fa P 45 (e 5) 1 r24.2).bind fun r25 =>
 ifP (r25.2 = r24.2) <|
 (st P 41 r25.1 r24.1 r24.2).bind fun r26 =>
 ifP (True ∧ True ∧ True ∧ True ∧ True ∧ True ∧ True ∧ True ∧ True ∧ True ∧ True) <|
 (vl (e 6) r26.2).bind fun r27 =>
 (bo P .add 3 (.tmp 32) (.const (.int .i64 1)) r27.1 (.int .i64 1) r27.2).bind fun r28 =>
 (vl r28.1 r28.2).bind fun r29 =>
 spec_l3Copy_l2 (ups e [(23, r1.1), (24, r2.1), (25, r3.1), (26, r4.1), (27, r5.1), (28, r6.1), (29, r7.1), (30, r8.1), (31, r9.1), (34, r11.1), (35, r12.1), (36, r13.1), (37, r14.1), (38, r15.1), (39, r16.1), (40, r17.1), (41, r18.1), (42, r19.1), (43, r20.1), (44, r21.1), (45, r22.1), (46, r23.1), (47, r24.1), (48, r25.1), (32, r27.1), (33, r28.1), (6, r29.1)]) r29.2) (
 (fa P 25 (e 3) 0 r9.2).bind fun r30 =>
 (ld P 23 r30.1 r30.2).bind fun r31 =>
 (ld P 45 (e 5) r31.2).bind fun r32 =>
 (bs P 23 1 #[(0, r32.1)] r32.2).bind fun r33 =>
 (b_append P #[23, 23] 23 #[r31.1, r33.1] r33.2).bind fun r34 =>
 (fa P 25 (e 3) 0 r34.2).bind fun r35 =>
 (st P 23 r35.1 r34.1 r35.2).bind fun r36 =>
 (vl (e 4) r36.2).bind fun r37 =>
 (bo P .add 3 (.tmp 13) (.const (.int .i64 1)) r37.1 (.int .i64 1) r37.2).bind fun r38 =>
 (vl r38.1 r38.2).bind fun r39 =>
 spec_l3Copy_l1 (ups e [(23, r1.1), (24, r2.1), (25, r3.1), (26, r4.1), (27, r5.1), (28, r6.1), (29, r7.1), (30, r8.1), (31, r9.1), (49, r30.1), (50, r31.1), (51, r32.1), (52, r33.1), (53, r34.1), (54, r35.1), (13, r37.1), (14, r38.1), (4, r39.1)]) r39.2) := (exC_loop P (EV P) 47 56 (cA (cA (cB (cA (cB (cA (cA (cB (cA (cA (cB (cA (cB (cB (Yi P 47))))))))))))))) e w (Yj 2 (kSeq P (EV P) 47 56 (cB (cB (cA (cA (cB (cA (cA (cB (cA (cB (cB (Yi P 47)))))))))))) (Yj 1 (kSeq P (EV P) 47 56 (cB (cB (cA (cA (cB (cA (cB (cB (Yi P 47))))))))) (kLoop P (EV P) 47 56 (cA (cA (cB (cA (cB (cB (Yi P 47))))))) (Yj 0 (kSeq P (EV P) 47 56 (cB (cB (cB (Yi P 47)))) (kFn P (fnOf P 47)))))))))).trans (by kernel_rfl)
theorem spec_l3Copy_fn (x0 : Value) (w : World) : fnC P (EV P) 47 #[x0] w =
 (bx P 25 x0 w).bind fun r1 =>
 (al P 25 r1.2).bind fun r2 =>
 (bd P 25 #[] r2.2).bind fun r3 =>
 (al P 25 r3.2).bind fun r4 =>
 (st P 25 r4.1 r3.1 r4.2).bind fun r5 =>
 (vl (.int .i64 0) r5.2).bind fun r6 =>
 spec_l3Copy_l1 (ups (env0 #[x0]) [(1, r1.1), (2, r2.1), (7, r3.1), (3, r4.1), (4, r6.1)]) r6.2 := by kernel_rfl
noncomputable def spec_l3Add_j1 (e : Env) (w : World) : Option (Value × World) := exC P (EV P) 48 59 (cB (cB (cB (cB (Yi P 48))))) e w (kFn P (fnOf P 48))
theorem spec_l3Add_j1_eq (e : Env) (w : World) : spec_l3Add_j1 e w =
 (ld P 25 (e 3) w).bind fun r1 =>
 (st P 25 (e 6) r1.1 r1.2).bind fun r2 =>
 ((ld P 25 (e 6) r2.2).bind fun r3 => ifP (r3.2 = r2.2) (some r3.1)).bind fun v4 =>
 some (v4, r2.2) := by kernel_rfl
theorem spec_l3Add_fn (x0 x1 x2 : Value) (w : World) : fnC P (EV P) 48 #[x0, x1, x2] w =
 (bx P 25 x0 w).bind fun r1 =>
 (bx P 32 x2 r1.2).bind fun r2 =>
 (al P 25 r2.2).bind fun r3 =>
 (fa P 25 r1.1 0 (dw r3.2)).bind fun r5 =>
 ifP (r5.2 = (dw r3.2)) <|
 (ld P 23 r5.1 (dw r3.2)).bind fun r6 =>
 ifP (r6.2 = (dw r3.2)) <|
 (vl x1 (dw r3.2)).bind fun r7 =>
 ifP (r7.2 = (dw r3.2)) <|
 (ia P 23 r6.1 r7.1 (dw r3.2)).bind fun r8 =>
 ifP (r8.2 = (dw r3.2)) <|
 (fa P 45 r8.1 0 (dw r3.2)).bind fun r9 =>
 ifP (r9.2 = (dw r3.2)) <|
 (fa P 43 r9.1 0 (dw r3.2)).bind fun r10 =>
 ifP (r10.2 = (dw r3.2)) <|
 (ld P 41 r10.1 (dw r3.2)).bind fun r11 =>
 ifP (r11.2 = (dw r3.2)) <|
 (fa P 32 r2.1 0 (dw r3.2)).bind fun r12 =>
 ifP (r12.2 = (dw r3.2)) <|
 (ld P 3 r12.1 (dw r3.2)).bind fun r13 =>
 ifP (r13.2 = (dw r3.2)) <|
 (ia P 41 r11.1 r13.1 (dw r3.2)).bind fun r14 =>
 ifP (r14.2 = (dw r3.2)) <|
 (fa P 32 r14.1 1 (dw r3.2)).bind fun r15 =>
 ifP (r15.2 = (dw r3.2)) <|
 (ld P 27 r15.1 (dw r3.2)).bind fun r16 =>
 ifP (r16.2 = (dw r3.2)) <|
 (fa P 32 r2.1 1 (dw r3.2)).bind fun r17 =>
 ifP (r17.2 = (dw r3.2)) <|
 (ld P 27 r17.1 (dw r3.2)).bind fun r18 =>
 ifP (r18.2 = (dw r3.2)) <|
 (EV P 94 #[r16.1, r18.1] (dw r3.2)).bind fun r19 =>
 ifP (True ∧ True ∧ True ∧ True ∧ True ∧ True ∧ True ∧ True ∧ True ∧ True ∧ True ∧ True ∧ True ∧ True) <|
 (uo P .not r19.1 r19.2).bind fun r20 =>
 ifP (r20.2 = r19.2) <|
 cnd r20.1 (
 (ld P 25 r1.1 r19.2).bind fun r21 =>
 (st P 25 r3.1 r21.1 r21.2).bind fun r22 =>
 ((ld P 25 r3.1 r22.2).bind fun r23 => ifP (r23.2 = r22.2) (some r23.1)).bind fun v24 =>
 some (v24, r22.2)) (
 (fa P 25 r1.1 0 (dw r19.2)).bind fun r26 =>
 ifP (r26.2 = (dw r19.2)) <|
 (ld P 23 r26.1 (dw r19.2)).bind fun r27 =>
 ifP (r27.2 = (dw r19.2)) <|
 (vl x1 (dw r19.2)).bind fun r28 =>
 ifP (r28.2 = (dw r19.2)) <|
 (fa P 25 r1.1 0 (dw r19.2)).bind fun r29 =>
 ifP (r29.2 = (dw r19.2)) <|
 (ld P 23 r29.1 (dw r19.2)).bind fun r30 =>
 ifP (r30.2 = (dw r19.2)) <|
 (vl x1 (dw r19.2)).bind fun r31 =>
 ifP (r31.2 = (dw r19.2)) <|
 (ia P 23 r30.1 r31.1 (dw r19.2)).bind fun r32 =>
 ifP (r32.2 = (dw r19.2)) <|
 (fa P 45 r32.1 0 (dw r19.2)).bind fun r33 =>
 ifP (r33.2 = (dw r19.2)) <|
 (ld P 43 r33.1 (dw r19.2)).bind fun r34 =>
 ifP (r34.2 = (dw r19.2)) <|
 (ld P 32 r2.1 (dw r19.2)).bind fun r35 =>
 ifP (r35.2 = (dw r19.2)) <|
 (EV P 69 #[r34.1, r35.1] (dw r19.2)).bind fun r36 =>
 ifP (True ∧ True ∧ True ∧ True ∧ True ∧ True ∧ ld P 23 r26.1 r36.2 = some (r27.1, r36.2) ∧ fa P 25 r1.1 0 r36.2 = some (r26.1, r36.2) ∧ True) <|
 (ia P 23 r27.1 r28.1 r36.2).bind fun r37 =>
 ifP (r37.2 = r36.2) <|
 (fa P 45 r37.1 0 r36.2).bind fun r38 =>
 ifP (r38.2 = r36.2) <|
 (st P 43 r38.1 r36.1 r36.2).bind fun r39 =>
 ifP (True ∧ True ∧ True ∧ True ∧ True ∧ True ∧ True ∧ True ∧ True ∧ True ∧ True) <|
 (vl x1 r39.2).bind fun r40 =>
 (fa P 25 r1.1 0 r40.2).bind fun r41 =>
 (ld P 23 r41.1 r41.2).bind fun r42 =>
 (b_len P #[23] 3 #[r42.1] r42.2).bind fun r43 =>
 (bo P .sub 3 (.tmp 40) (.const (.int .i64 1)) r43.1 (.int .i64 1) r43.2).bind fun r44 =>
 (bo P .lss 3 (.tmp 37) (.tmp 41) r40.1 r44.1 r44.2).bind fun r45 =>
 cnd r45.1 (
 (fa P 25 r1.1 0 (dw r45.2)).bind fun r47 =>
 ifP (r47.2 = (dw r45.2)) <|
 (ld P 23 r47.1 (dw r45.2)).bind fun r48 =>
 ifP (r48.2 = (dw r45.2)) <|
 (vl x1 (dw r45.2)).bind fun r49 =>
 ifP (r49.2 = (dw r45.2)) <|
 (fa P 25 r1.1 0 (dw r45.2)).bind fun r50 =>
 ifP (r50.2 = (dw r45.2)) <|
 (ld P 23 r50.1 (dw r45.2)).bind fun r51 =>
 ifP (r51.2 = (dw r45.2)) <|
 (vl x1 (dw r45.2)).bind fun r52 =>
 ifP (r52.2 = (dw r45.2)) <|
 (ia P 23 r51.1 r52.1 (dw r45.2)).bind fun r53 =>
 ifP (r53.2 = (dw r45.2)) <|
 (fa P 45 r53.1 1 (dw r45.2)).bind fun r54 =>
 ifP (r54.2 = (dw r45.2)) <|
 (ld P 41 r54.1 (dw r45.2)).bind fun r55 =>
 ifP (r55.2 = (dw r45.2)) <|
 (ld P 32 r2.1 (dw r45.2)).bind fun r56 =>
 ifP (r56.2 = (dw r45.2)) <|
 (EV P 93 #[r56.1] (dw r45.2)).bind fun r57 =>
 ifP (True ∧ ld P 41 r54.1 r57.2 = some (r55.1, r57.2) ∧ fa P 45 r53.1 1 r57.2 = some (r54.1, r57.2) ∧ ia P 23 r51.1 r52.1 r57.2 = some (r53.1, r57.2) ∧ ld P 23 r50.1 r57.2 = some (r51.1, r57.2) ∧ fa P 25 r1.1 0 r57.2 = some (r50.1, r57.2) ∧ ld P 23 r47.1 r57.2 = some (r48.1, r57.2) ∧ fa P 25 r1.1 0 r57.2 = some (r47.1, r57.2) ∧ True) <|
 (bs P 41 1 #[(0, r57.1)] r57.2).bind fun r58 =>
 ifP (True ∧ ld P 41 r54.1 r58.2 = some (r55.1, r58.2) ∧ fa P 45 r53.1 1 r58.2 = some (r54.1, r58.2) ∧ ia P 23 r51.1 r52.1 r58.2 = some (r53.1, r58.2) ∧ ld P 23 r50.1 r58.2 = some (r51.1, r58.2) ∧ fa P 25 r1.1 0 r58.2 = some (r50.1, r58.2) ∧ ld P 23 r47.1 r58.2 = some (r48.1, r58.2) ∧ fa P 25 r1.1 0 r58.2 = some (r47.1, r58.2) ∧ True) <|
 (b_append P #[41, 41] 41 #[r55.1, r58.1] r58.2).bind fun r59 =>
 ifP (True ∧ True ∧ True ∧ True ∧ True ∧ True ∧ ld P 23 r47.1 r59.2 = some (r48.1, r59.2) ∧ fa P 25 r1.1 0 r59.2 = some (r47.1, r59.2) ∧ True) <|
 (ia P 23 r48.1 r49.1 r59.2).bind fun r60 =>
 ifP (r60.2 = r59.2) <|
 (fa P 45 r60.1 1 r59.2).bind fun r61 =>
 ifP (r61.2 = r59.2) <|
 (st P 41 r61.1 r59.1 r59.2).bind fun r62 =>
 ifP (True ∧ True ∧ True ∧ True ∧ True ∧ True ∧ True ∧ True ∧ True ∧ True ∧ True) <|
 spec_l3Add_j1 (ups (env0 #[x0, x1, x2]) [(3, r1.1), (5, r2.1), (6, r3.1), (7, r5.1), (8, r6.1), (9, r7.1), (10, r8.1), (11, r9.1), (12, r10.1), (13, r11.1), (14, r12.1), (15, r13.1), (16, r14.1), (17, r15.1), (18, r16.1), (19, r17.1), (20, r18.1), (21, r19.1), (22, r20.1), (24, r26.1), (25, r27.1), (26, r28.1), (27, r29.1), (28, r30.1), (29, r31.1), (30, r32.1), (31, r33.1), (32, r34.1), (33, r35.1), (34, r36.1), (35, r37.1), (36, r38.1), (37, r40.1), (38, r41.1), (39, r42.1), (40, r43.1), (41, r44.1), (42, r45.1), (43, r47.1), (44, r48.1), (45, r49.1), (46, r50.1), (47, r51.1), (48, r52.1), (49, r53.1), (50, r54.1), (51, r55.1), (52, r56.1), (53, r57.1), (54, r58.1), (55, r59.1), (56, r60.1), (57, r61.1)]) r62.2) (
 spec_l3Add_j1 (ups (env0 #[x0, x1, x2]) [(3, r1.1), (5, r2.1), (6, r3.1), (7, r5.1), (8, r6.1), (9, r7.1), (10, r8.1), (11, r9.1), (12, r10.1), (13, r11.1), (14, r12.1), (15, r13.1), (16, r14.1), (17, r15.1), (18, r16.1), (19, r17.1), (20, r18.1), (21, r19.1), (22, r20.1), (24, r26.1), (25, r27.1), (26, r28.1), (27, r29.1), (28, r30.1), (29, r31.1), (30, r32.1), (31, r33.1), (32, r34.1), (33, r35.1), (34, r36.1), (35, r37.1), (36, r38.1), (37, r40.1), (38, r41.1), (39, r42.1), (40, r43.1), (41, r44.1), (42, r45.1)]) r45.2)) := by kernel_rfl
noncomputable def laws_cfVers_l1 (e : Env) (w : World) : Option (Value × World) := exC P (EV P) 49 27 (.loop (cA (cA (cB (cA (cB (cB (Yi P 49)))))))) e w (Yj 0 (kSeq P (EV P) 49 27 (cB (cB (cB (Yi P 49)))) (kFn P (fnOf P 49))))
theorem laws_cfVers_l1_eq (e : Env) (w : World) : laws_cfVers_l1 e w =
 (vl (e 5) w).bind fun r1 =>
 (vl (e 0) r1.2).bind fun r2 =>
 (b_len P #[41] 3 #[r2.1] r2.2).bind fun r3 =>
 (bo P .lss 3 (.tmp 11) (.tmp 13) r1.1 r3.1 r3.2).bind fun r4 =>
 cnd r4.1 (
 (vl (e 0) (dw r4.2)).bind fun r6 =>
 ifP (r6.2 = (dw r4.2)) <|
 (vl (e 5) (dw r4.2)).bind fun r7 =>
 ifP (r7.2 = (dw r4.2)) <|
 (ia P 41 r6.1 r7.1 (dw r4.2)).bind fun r8 =>
 ifP (r8.2 = (dw r4.2)) <|
 (ld P 32 r8.1 (dw r4.2)).bind fun r9 =>
 ifP (r9.2 = (dw r4.2)) <|
 (vl (e 1) (dw r4.2)).bind fun r10 =>
 ifP (r10.2 = (dw r4.2)) <|
 (vl (e 5) (dw r4.2)).bind fun r11 =>
 ifP (r11.2 = (dw r4.2)) <|
 (ia P 41 r10.1 r11.1 (dw r4.2)).bind fun r12 =>
 ifP (r12.2 = (dw r4.2)) <|
 (ld P 32 r12.1 (dw r4.2)).bind fun r13 =>
 ifP (r13.2 = (dw r4.2)) <|
 (EV P 58 #[r9.1, r13.1] (dw r4.2)).bind fun r14 =>
 ifP (True ∧ True ∧ True ∧ True ∧ True) <|
 (uo P .not r14.1 r14.2).bind fun r15 =>
 ifP (r15.2 = r14.2) <|
 cnd r15.1 (
 (vl (.bool false) r14.2).bind fun r16 =>
 some (r16.1, r16.2)) (
 (vl (e 5) r14.2).bind fun r17 =>
 (bo P .add 3 (.tmp 15) (.const (.int .i64 1)) r17.1 (.int .i64 1) r17.2).bind fun r18 =>
 (vl r18.1 r18.2).bind fun r19 =>
 laws_cfVers_l1 (ups e [(11, r1.1), (12, r2.1), (13, r3.1), (14, r4.1), (17, r6.1), (18, r7.1), (19, r8.1), (20, r9.1), (21, r10.1), (22, r11.1), (23, r12.1), (24, r13.1), (25, r14.1), (26, r15.1), (15, r17.1), (16, r18.1), (5, r19.1)]) r19.2)) (
 (vl (.bool true) r4.2).bind fun r20 =>
 some (r20.1, r20.2)) := (exC_loop P (EV P) 49 27 (cA (cA (cB (cA (cB (cB (Yi P 49))))))) e w (Yj 0 (kSeq P (EV P) 49 27 (cB (cB (cB (Yi P 49)))) (kFn P (fnOf P 49))))).trans (by kernel_rfl)
theorem laws_cfVers_fn (x0 x1 : Value) (w : World) : fnC P (EV P) 49 #[x0, x1] w =
 (vl (.bool false) w).bind fun r1 =>
 (vl x0 r1.2).bind fun r2 =>
 (b_len P #[41] 3 #[r2.1] r2.2).bind fun r3 =>
 (vl x1 r3.2).bind fun r4 =>
 (b_len P #[41] 3 #[r4.1] r4.2).bind fun r5 =>
 (bo P .neq 3 (.tmp 7) (.tmp 9) r3.1 r5.1 r5.2).bind fun r6 =>
 cnd r6.1 (
 (vl (.bool false) r6.2).bind fun r7 =>
 some (r7.1, r7.2)) (
 (vl (.int .i64 0) r6.2).bind fun r8 =>
 laws_cfVers_l1 (ups (env0 #[x0, x1]) [(4, r1.1), (6, r2.1), (7, r3.1), (8, r4.1), (9, r5.1), (10, r6.1), (5, r8.1)]) r8.2) := by kernel_rfl
theorem impl_nodesOk_fn (x0 : Value) (w : World) : fnC P (EV P) 50 #[x0] w =
 (vl (.bool false) w).bind fun r1 =>
 (vl x0 r1.2).bind fun r2 =>
 (EV P 95 #[r2.1, (.int .i64 1), (.int .i64 4)] r2.2).bind fun r3 =>
 (vl r3.1 r3.2).bind fun r4 =>
 some (r4.1, r4.2) := by kernel_rfl
theorem slices_ContainsFunc_Ver_fn (x0 x1 : Value) (w : World) : fnC P (EV P) 51 #[x0, x1] w =
 (vl (.bool false) w).bind fun r1 =>
 (vl x0 r1.2).bind fun r2 =>
 (vl x1 r2.2).bind fun r3 =>
 (EV P 96 #[r2.1, r3.1] r3.2).bind fun r4 =>
 (bo P .geq 3 (.tmp 7) (.const (.int .i64 0)) r4.1 (.int .i64 0) r4.2).bind fun r5 =>
 (vl r5.1 r5.2).bind fun r6 =>
 some (r6.1, r6.2) := by kernel_rfl
theorem impl_ChainOk_1_fn (x0 : Value) (w : World) : fnC P (EV P) 52 #[x0] w =
 (bx P 32 x0 w).bind fun r1 =>
 (vl (.bool false) r1.2).bind fun r2 =>
 (ld P 32 r1.1 r2.2).bind fun r3 =>
 (EV P 14 #[r3.1] r3.2).bind fun r4 =>
 (uo P .not r4.1 r4.2).bind fun r5 =>
 (vl r5.1 r5.2).bind fun r6 =>
 some (r6.1, r6.2) := by kernel_rfl
theorem impl_Chain_last_fn (x0 x1 : Value) (w : World) : fnC P (EV P) 53 #[x0, x1] w =
 (bx P 25 x0 w).bind fun r1 =>
 (vl (.bool false) r1.2).bind fun r2 =>
 (vl x1 r2.2).bind fun r3 =>
 (fa P 25 r1.1 0 r3.2).bind fun r4 =>
 (ld P 23 r4.1 r4.2).bind fun r5 =>
 (b_len P #[23] 3 #[r5.1] r5.2).bind fun r6 =>
 (bo P .sub 3 (.tmp 8) (.const (.int .i64 1)) r6.1 (.int .i64 1) r6.2).bind fun r7 =>
 (bo P .eql 3 (.tmp 5) (.tmp 9) r3.1 r7.1 r7.2).bind fun r8 =>
 (vl r8.1 r8.2).bind fun r9 =>
 some (r9.1, r9.2) := by kernel_rfl
noncomputable def impl_Node_fits_l1 (e : Env) (w : World) : Option (Value × World) := exC P (EV P) 54 32 (.loop (cA (cA (cB (cA (cB (cB (Yi P 54)))))))) e w (Yj 0 (kSeq P (EV P) 54 32 (cB (cB (cB (Yi P 54)))) (kFn P (fnOf P 54))))
theorem impl_Node_fits_l1_eq (e : Env) (w : World) : impl_Node_fits_l1 e w =
 (bo P .lss 3 (.tmp 13) (.tmp 12) (e 13) (e 12) w).bind fun r1 =>
 cnd r1.1 (
 (ia P 41 (e 11) (e 13) r1.2).bind fun r2 =>
 (ld P 32 r2.1 r2.2).bind fun r3 =>
 (al P 32 r3.2).bind fun r4 =>
 (st P 32 r4.1 r3.1 r4.2).bind fun r5 =>
 (ld P 43 (e 5) r5.2).bind fun r6 =>
 (ld P 32 r4.1 r6.2).bind fun r7 =>
 (EV P 60 #[r6.1, r7.1] r7.2).bind fun r8 =>
 (uo P .not r8.1 r8.2).bind fun r9 =>
 cnd r9.1 (
 (vl (.bool false) r9.2).bind fun r10 =>
 some (r10.1, r10.2)) (
 (fa P 43 (e 5) 0 r9.2).bind fun r11 =>
 (ld P 41 r11.1 r11.2).bind fun r12 =>
 (fa P 32 r4.1 0 r12.2).bind fun r13 =>
 (ld P 3 r13.1 r13.2).bind fun r14 =>
 (ld P 32 r4.1 r14.2).bind fun r15 =>
 (ia P 41 r12.1 r14.1 r15.2).bind fun r16 =>
 (st P 32 r16.1 r15.1 r16.2).bind fun r17 =>
 (bo P .add 3 (.tmp 13) (.const (.int .i64 1)) (e 13) (.int .i64 1) r17.2).bind fun r18 =>
 (vl r18.1 r18.2).bind fun r19 =>
 impl_Node_fits_l1 (ups e [(14, r1.1), (15, r2.1), (16, r3.1), (7, r4.1), (17, r6.1), (18, r7.1), (19, r8.1), (20, r9.1), (21, r11.1), (22, r12.1), (23, r13.1), (24, r14.1), (25, r15.1), (26, r16.1), (27, r18.1), (13, r19.1)]) r19.2)) (
 (ld P 43 (e 5) r1.2).bind fun r20 =>
 (fa P 45 (e 2) 0 r20.2).bind fun r21 =>
 (ld P 43 r21.1 r21.2).bind fun r22 =>
 (EV P 97 #[r20.1, r22.1] r22.2).bind fun r23 =>
 (vl r23.1 r23.2).bind fun r24 =>
 some (r24.1, r24.2)) := (exC_loop P (EV P) 54 32 (cA (cA (cB (cA (cB (cB (Yi P 54))))))) e w (Yj 0 (kSeq P (EV P) 54 32 (cB (cB (cB (Yi P 54)))) (kFn P (fnOf P 54))))).trans (by kernel_rfl)
theorem impl_Node_fits_fn (x0 x1 : Value) (w : World) : fnC P (EV P) 54 #[x0, x1] w =
 (bx P 45 x0 w).bind fun r1 =>
 (bx P 43 x1 r1.2).bind fun r2 =>
 (vl (.bool false) r2.2).bind fun r3 =>
 (ld P 43 r2.1 r3.2).bind fun r4 =>
 (EV P 59 #[r4.1] r4.2).bind fun r5 =>
 (al P 43 r5.2).bind fun r6 =>
 (st P 43 r6.1 r5.1 r6.2).bind fun r7 =>
 (fa P 45 r1.1 1 r7.2).bind fun r8 =>
 (ld P 41 r8.1 r8.2).bind fun r9 =>
 (b_len P #[41] 3 #[r9.1] r9.2).bind fun r10 =>
 (vl (.int .i64 0) r10.2).bind fun r11 =>
 impl_Node_fits_l1 (ups (env0 #[x0, x1]) [(2, r1.1), (3, r2.1), (4, r3.1), (8, r4.1), (9, r5.1), (5, r6.1), (10, r8.1), (11, r9.1), (12, r10.1), (13, r11.1)]) r11.2 := by kernel_rfl
theorem impl_Ver_written_fn (x0 : Value) (w : World) : fnC P (EV P) 55 #[x0] w =
 (bx P 32 x0 w).bind fun r1 =>
 (vl (.bool false) r1.2).bind fun r2 =>
 (fa P 32 r1.1 0 r2.2).bind fun r3 =>
 (ld P 3 r3.1 r3.2).bind fun r4 =>
 (EV P 98 #[r4.1] r4.2).bind fun r5 =>
 (vl r5.1 r5.2).bind fun r6 =>
 (gif r6.1 true (fa P 32 r1.1 3 r6.2) r6.2).bind fun r7 =>
 (gif r6.1 true (ld P 9 r7.1 r7.2) r7.2).bind fun r8 =>
 (gif r6.1 true (EV P 99 #[r8.1] r8.2) r8.2).bind fun r9 =>
 (pickV r6.1 r9.1 (.bool false) r9.2).bind fun r10 =>
 (vl r10.1 r10.2).bind fun r11 =>
 (gif r11.1 true (fa P 32 r1.1 4 r11.2) r11.2).bind fun r12 =>
 (gif r11.1 true (ld P 4 r12.1 r12.2) r12.2).bind fun r13 =>
 (gif r11.1 true (uo P .not r13.1 r13.2) r13.2).bind fun r14 =>
 (gif r11.1 true (vl r14.1 r14.2) r14.2).bind fun r15 =>
 (gif r15.1 false (fa P 32 r1.1 3 r15.2) r15.2).bind fun r16 =>
 (gif r15.1 false (ld P 9 r16.1 r16.2) r16.2).bind fun r17 =>
 (gif r15.1 false (bo P .eql 9 (.tmp 17) (.const (Go.Value.string { data := #[] })) r17.1 (Go.Value.string { data := #[] }) r17.2) r17.2).bind fun r18 =>
 (gif r11.1 true (pickV r15.1 (.bool true) r18.1 r18.2) r18.2).bind fun r19 =>
 (pickV r11.1 r19.1 (.bool false) r19.2).bind fun r20 =>
 (vl r20.1 r20.2).bind fun r21 =>
 (gif r21.1 true (fa P 32 r1.1 2 r21.2) r21.2).bind fun r22 =>
 (gif r21.1 true (ld P 30 r22.1 r22.2) r22.2).bind fun r23 =>
 (gif r21.1 true (EV P 34 #[r23.1] r23.2) r23.2).bind fun r24 =>
 (pickV r21.1 r24.1 (.bool false) r24.2).bind fun r25 =>
 (vl r25.1 r25.2).bind fun r26 =>
 some (r26.1, r26.2) := by kernel_rfl
theorem impl_TagOk_fn (x0 : Value) (w : World) : fnC P (EV P) 56 #[x0] w =
 (bx P 27 x0 w).bind fun r1 =>
 (vl (.bool false) r1.2).bind fun r2 =>
 (ld P 27 r1.1 r2.2).bind fun r3 =>
 (bd P 27 #[] r3.2).bind fun r4 =>
 (bo P .eql 27 (.tmp 3) (.tmp 4) r3.1 r4.1 r4.2).bind fun r5 =>
 (vl r5.1 r5.2).bind fun r6 =>
 (gif r6.1 false (fa P 27 r1.1 0 r6.2) r6.2).bind fun r7 =>
 (gif r6.1 false (ld P 3 r7.1 r7.2) r7.2).bind fun r8 =>
 (gif r6.1 false (EV P 95 #[r8.1, (.int .i64 1), (.int .i64 999)] r8.2) r8.2).bind fun r9 =>
 (gif r6.1 false (vl r9.1 r9.2) r9.2).bind fun r10 =>
 (gif r10.1 true (fa P 27 r1.1 1 r10.2) r10.2).bind fun r11 =>
 (gif r10.1 true (ld P 3 r11.1 r11.2) r11.2).bind fun r12 =>
 (gif r10.1 true (EV P 100 #[r12.1] r12.2) r12.2).bind fun r13 =>
 (gif r6.1 false (pickV r10.1 r13.1 (.bool false) r13.2) r13.2).bind fun r14 =>
 (pickV r6.1 (.bool true) r14.1 r14.2).bind fun r15 =>
 (vl r15.1 r15.2).bind fun r16 =>
 some (r16.1, r16.2) := by kernel_rfl
noncomputable def impl_Past_latest_l1 (e : Env) (w : World) : Option (Value × World) := exC P (EV P) 57 19 (.loop (cA (cA (cB (cA (cB (cB (Yi P 57)))))))) e w (Yj 0 (kSeq P (EV P) 57 19 (cB (cB (cB (Yi P 57)))) (kFn P (fnOf P 57))))
theorem impl_Past_latest_l1_eq (e : Env) (w : World) : impl_Past_latest_l1 e w =
 (bo P .lss 3 (.tmp 9) (.tmp 8) (e 9) (e 8) w).bind fun r1 =>
 cnd r1.1 (
 (ia P 28 (e 7) (e 9) r1.2).bind fun r2 =>
 (ld P 27 r2.1 r2.2).bind fun r3 =>
 (al P 27 r3.2).bind fun r4 =>
 (st P 27 r4.1 r3.1 r4.2).bind fun r5 =>
 (vl (e 3) r5.2).bind fun r6 =>
 (fa P 27 r4.1 0 r6.2).bind fun r7 =>
 (ld P 3 r7.1 r7.2).bind fun r8 =>
 (b_max P #[3, 3] 3 #[r6.1, r8.1] r8.2).bind fun r9 =>
 (vl r9.1 r9.2).bind fun r10 =>
 (bo P .add 3 (.tmp 9) (.const (.int .i64 1)) (e 9) (.int .i64 1) r10.2).bind fun r11 =>
 (vl r11.1 r11.2).bind fun r12 =>
 impl_Past_latest_l1 (ups e [(10, r1.1), (11, r2.1), (12, r3.1), (5, r4.1), (13, r6.1), (14, r7.1), (15, r8.1), (16, r9.1), (3, r10.1), (17, r11.1), (9, r12.1)]) r12.2) (
 (vl (e 3) r1.2).bind fun r13 =>
 (vl r13.1 r13.2).bind fun r14 =>
 some (r14.1, r14.2)) := (exC_loop P (EV P) 57 19 (cA (cA (cB (cA (cB (cB (Yi P 57))))))) e w (Yj 0 (kSeq P (EV P) 57 19 (cB (cB (cB (Yi P 57)))) (kFn P (fnOf P 57))))).trans (by kernel_rfl)
theorem impl_Past_latest_fn (x0 : Value) (w : World) : fnC P (EV P) 57 #[x0] w =
 (bx P 30 x0 w).bind fun r1 =>
 (vl (.int .i64 0) r1.2).bind fun r2 =>
 (vl (.int .i64 0) r2.2).bind fun r3 =>
 (fa P 30 r1.1 0 r3.2).bind fun r4 =>
 (ld P 28 r4.1 r4.2).bind fun r5 =>
 (b_len P #[28] 3 #[r5.1] r5.2).bind fun r6 =>
 (vl (.int .i64 0) r6.2).bind fun r7 =>
 impl_Past_latest_l1 (ups (env0 #[x0]) [(1, r1.1), (2, r2.1), (3, r3.1), (6, r4.1), (7, r5.1), (8, r6.1), (9, r7.1)]) r7.2 := by kernel_rfl
theorem laws_cfVer_fn (x0 x1 : Value) (w : World) : fnC P (EV P) 58 #[x0, x1] w =
 (bx P 32 x0 w).bind fun r1 =>
 (bx P 32 x1 r1.2).bind fun r2 =>
 (vl (.bool false) r2.2).bind fun r3 =>
 (fa P 32 r1.1 0 r3.2).bind fun r4 =>
 (ld P 3 r4.1 r4.2).bind fun r5 =>
 (fa P 32 r2.1 0 r5.2).bind fun r6 =>
 (ld P 3 r6.1 r6.2).bind fun r7 =>
 (bo P .eql 3 (.tmp 6) (.tmp 8) r5.1 r7.1 r7.2).bind fun r8 =>
 (vl r8.1 r8.2).bind fun r9 =>
 (gif r9.1 true (fa P 32 r1.1 1 r9.2) r9.2).bind fun r10 =>
 (gif r9.1 true (ld P 27 r10.1 r10.2) r10.2).bind fun r11 =>
 (gif r9.1 true (fa P 32 r2.1 1 r11.2) r11.2).bind fun r12 =>
 (gif r9.1 true (ld P 27 r12.1 r12.2) r12.2).bind fun r13 =>
 (gif r9.1 true (bo P .eql 27 (.tmp 12) (.tmp 14) r11.1 r13.1 r13.2) r13.2).bind fun r14 =>
 (pickV r9.1 r14.1 (.bool false) r14.2).bind fun r15 =>
 (vl r15.1 r15.2).bind fun r16 =>
 (gif r16.1 true (fa P 32 r1.1 2 r16.2) r16.2).bind fun r17 =>
 (gif r16.1 true (ld P 30 r17.1 r17.2) r17.2).bind fun r18 =>
 (gif r16.1 true (fa P 32 r2.1 2 r18.2) r18.2).bind fun r19 =>
 (gif r16.1 true (ld P 30 r19.1 r19.2) r19.2).bind fun r20 =>
 (gif r16.1 true (EV P 29 #[r18.1, r20.1] r20.2) r20.2).bind fun r21 =>
 (pickV r16.1 r21.1 (.bool false) r21.2).bind fun r22 =>
 (vl r22.1 r22.2).bind fun r23 =>
 (gif r23.1 true (fa P 32 r1.1 3 r23.2) r23.2).bind fun r24 =>
 (gif r23.1 true (ld P 9 r24.1 r24.2) r24.2).bind fun r25 =>
 (gif r23.1 true (fa P 32 r2.1 3 r25.2) r25.2).bind fun r26 =>
 (gif r23.1 true (ld P 9 r26.1 r26.2) r26.2).bind fun r27 =>
 (gif r23.1 true (bo P .eql 9 (.tmp 26) (.tmp 28) r25.1 r27.1 r27.2) r27.2).bind fun r28 =>
 (pickV r23.1 r28.1 (.bool false) r28.2).bind fun r29 =>
 (vl r29.1 r29.2).bind fun r30 =>
 (gif r30.1 true (fa P 32 r1.1 4 r30.2) r30.2).bind fun r31 =>
 (gif r30.1 true (ld P 4 r31.1 r31.2) r31.2).bind fun r32 =>
 (gif r30.1 true (fa P 32 r2.1 4 r32.2) r32.2).bind fun r33 =>
 (gif r30.1 true (ld P 4 r33.1 r33.2) r33.2).bind fun r34 =>
 (gif r30.1 true (bo P .eql 4 (.tmp 33) (.tmp 35) r32.1 r34.1 r34.2) r34.2).bind fun r35 =>
 (pickV r30.1 r35.1 (.bool false) r35.2).bind fun r36 =>
 (vl r36.1 r36.2).bind fun r37 =>
 some (r37.1, r37.2) := by kernel_rfl
theorem impl_Store_copied_fn (x0 : Value) (w : World) : fnC P (EV P) 59 #[x0] w =
 (bx P 43 x0 w).bind fun r1 =>
 (al P 43 r1.2).bind fun r2 =>
 (fa P 43 r1.1 0 r2.2).bind fun r3 =>
 (ld P 41 r3.1 r3.2).bind fun r4 =>
 (EV P 101 #[r4.1] r4.2).bind fun r5 =>
 (bd P 43 #[(0, r5.1)] r5.2).bind fun r6 =>
 (st P 43 r2.1 r6.1 r6.2).bind fun r7 =>
 ((ld P 43 r2.1 r7.2).bind fun r8 => ifP (r8.2 = r7.2) (some r8.1)).bind fun v9 =>
 some (v9, r7.2) := by kernel_rfl
theorem impl_Store_later_fn (x0 x1 : Value) (w : World) : fnC P (EV P) 60 #[x0, x1] w =
 (bx P 43 x0 w).bind fun r1 =>
 (bx P 32 x1 r1.2).bind fun r2 =>
 (vl (.bool false) r2.2).bind fun r3 =>
 (fa P 43 r1.1 0 (dw r3.2)).bind fun r5 =>
 ifP (r5.2 = (dw r3.2)) <|
 (ld P 41 r5.1 (dw r3.2)).bind fun r6 =>
 ifP (r6.2 = (dw r3.2)) <|
 (fa P 32 r2.1 0 (dw r3.2)).bind fun r7 =>
 ifP (r7.2 = (dw r3.2)) <|
 (ld P 3 r7.1 (dw r3.2)).bind fun r8 =>
 ifP (r8.2 = (dw r3.2)) <|
 (ia P 41 r6.1 r8.1 (dw r3.2)).bind fun r9 =>
 ifP (r9.2 = (dw r3.2)) <|
 (fa P 32 r9.1 1 (dw r3.2)).bind fun r10 =>
 ifP (r10.2 = (dw r3.2)) <|
 (ld P 27 r10.1 (dw r3.2)).bind fun r11 =>
 ifP (r11.2 = (dw r3.2)) <|
 (fa P 32 r2.1 1 (dw r3.2)).bind fun r12 =>
 ifP (r12.2 = (dw r3.2)) <|
 (ld P 27 r12.1 (dw r3.2)).bind fun r13 =>
 ifP (r13.2 = (dw r3.2)) <|
 (EV P 73 #[r11.1, r13.1] (dw r3.2)).bind fun r14 =>
 ifP (True ∧ True ∧ True ∧ True ∧ True ∧ True ∧ True ∧ True ∧ True ∧ True) <|
 (vl r14.1 r14.2).bind fun r15 =>
 ifP (r15.2 = r14.2) <|
 some (r15.1, r14.2) := by kernel_rfl
theorem impl_Ver_copied_fn (x0 : Value) (w : World) : fnC P (EV P) 61 #[x0] w =
 (bx P 32 x0 w).bind fun r1 =>
 (al P 32 r1.2).bind fun r2 =>
 (fa P 32 r1.1 2 r2.2).bind fun r3 =>
 (ld P 30 r3.1 r3.2).bind fun r4 =>
 (EV P 102 #[r4.1] r4.2).bind fun r5 =>
 (fa P 32 r1.1 2 r5.2).bind fun r6 =>
 (st P 30 r6.1 r5.1 r6.2).bind fun r7 =>
 (ld P 32 r1.1 r7.2).bind fun r8 =>
 (st P 32 r2.1 r8.1 r8.2).bind fun r9 =>
 ((ld P 32 r2.1 r9.2).bind fun r10 => ifP (r10.2 = r9.2) (some r10.1)).bind fun v11 =>
 some (v11, r9.2) := by kernel_rfl
theorem spec_l20Rd_one_fn (x0 x1 : Value) (w : World) : fnC P (EV P) 62 #[x0, x1] w =
 (vl (.int .i64 0) w).bind fun r1 =>
 (vl x1 r1.2).bind fun r2 =>
 (vl x0 r2.2).bind fun r3 =>
 (vl x1 r3.2).bind fun r4 =>
 (b_len P #[85] 3 #[r4.1] r4.2).bind fun r5 =>
 (EV P 82 #[r3.1, r5.1] r5.2).bind fun r6 =>
 (ia P 85 r2.1 r6.1 r6.2).bind fun r7 =>
 (ld P 3 r7.1 r7.2).bind fun r8 =>
 (vl r8.1 r8.2).bind fun r9 =>
 some (r9.1, r9.2) := by kernel_rfl
theorem spec_l3Can_fn (x0 x1 : Value) (w : World) : fnC P (EV P) 65 #[x0, x1] w =
 (bx P 25 x0 w).bind fun r1 =>
 (vl (.bool false) r1.2).bind fun r2 =>
 (vl x1 r2.2).bind fun r3 =>
 (fa P 25 r1.1 0 r3.2).bind fun r4 =>
 (ld P 23 r4.1 r4.2).bind fun r5 =>
 (b_len P #[23] 3 #[r5.1] r5.2).bind fun r6 =>
 (bo P .sub 3 (.tmp 8) (.const (.int .i64 2)) r6.1 (.int .i64 2) r6.2).bind fun r7 =>
 (EV P 90 #[r3.1, (.int .i64 0), r7.1] r7.2).bind fun r8 =>
 (vl r8.1 r8.2).bind fun r9 =>
 (gif r9.1 true (fa P 25 r1.1 0 r9.2) r9.2).bind fun r10 =>
 (gif r9.1 true (ld P 23 r10.1 r10.2) r10.2).bind fun r11 =>
 (gif r9.1 true (vl x1 r11.2) r11.2).bind fun r12 =>
 (gif r9.1 true (ia P 23 r11.1 r12.1 r12.2) r12.2).bind fun r13 =>
 (gif r9.1 true (fa P 45 r13.1 1 r13.2) r13.2).bind fun r14 =>
 (gif r9.1 true (ld P 41 r14.1 r14.2) r14.2).bind fun r15 =>
 (gif r9.1 true (b_len P #[41] 3 #[r15.1] r15.2) r15.2).bind fun r16 =>
 (gif r9.1 true (bo P .gtr 3 (.tmp 18) (.const (.int .i64 0)) r16.1 (.int .i64 0) r16.2) r16.2).bind fun r17 =>
 (pickV r9.1 r17.1 (.bool false) r17.2).bind fun r18 =>
 (vl r18.1 r18.2).bind fun r19 =>
 (gif r19.1 true (fa P 25 r1.1 0 r19.2) r19.2).bind fun r20 =>
 (gif r19.1 true (ld P 23 r20.1 r20.2) r20.2).bind fun r21 =>
 (gif r19.1 true (vl x1 r21.2) r21.2).bind fun r22 =>
 (gif r19.1 true (bo P .add 3 (.tmp 24) (.const (.int .i64 1)) r22.1 (.int .i64 1) r22.2) r22.2).bind fun r23 =>
 (gif r19.1 true (ia P 23 r21.1 r23.1 r23.2) r23.2).bind fun r24 =>
 (gif r19.1 true (fa P 45 r24.1 1 r24.2) r24.2).bind fun r25 =>
 (gif r19.1 true (ld P 41 r25.1 r25.2) r25.2).bind fun r26 =>
 (gif r19.1 true (b_len P #[41] 3 #[r26.1] r26.2) r26.2).bind fun r27 =>
 (gif r19.1 true (bo P .lss 3 (.tmp 29) (.const (.int .i64 6)) r27.1 (.int .i64 6) r27.2) r27.2).bind fun r28 =>
 (pickV r19.1 r28.1 (.bool false) r28.2).bind fun r29 =>
 (vl r29.1 r29.2).bind fun r30 =>
 some (r30.1, r30.2) := by kernel_rfl
theorem spec_l3Pass_fn (x0 x1 : Value) (w : World) : fnC P (EV P) 66 #[x0, x1] w =
 (bx P 25 x0 w).bind fun r1 =>
 (al P 25 r1.2).bind fun r2 =>
 (fa P 25 r1.1 0 r2.2).bind fun r3 =>
 (ld P 23 r3.1 r3.2).bind fun r4 =>
 (vl x1 r4.2).bind fun r5 =>
 (ia P 23 r4.1 r5.1 r5.2).bind fun r6 =>
 (fa P 45 r6.1 1 r6.2).bind fun r7 =>
 (ld P 41 r7.1 r7.2).bind fun r8 =>
 (ia P 41 r8.1 (.int .i64 0) r8.2).bind fun r9 =>
 (ld P 32 r9.1 r9.2).bind fun r10 =>
 (al P 32 r10.2).bind fun r11 =>
 (st P 32 r11.1 r10.1 r11.2).bind fun r12 =>
 (fa P 25 r1.1 0 (dw r12.2)).bind fun r14 =>
 ifP (r14.2 = (dw r12.2)) <|
 (ld P 23 r14.1 (dw r12.2)).bind fun r15 =>
 ifP (r15.2 = (dw r12.2)) <|
 (vl x1 (dw r12.2)).bind fun r16 =>
 ifP (r16.2 = (dw r12.2)) <|
 (fa P 25 r1.1 0 (dw r12.2)).bind fun r17 =>
 ifP (r17.2 = (dw r12.2)) <|
 (ld P 23 r17.1 (dw r12.2)).bind fun r18 =>
 ifP (r18.2 = (dw r12.2)) <|
 (vl x1 (dw r12.2)).bind fun r19 =>
 ifP (r19.2 = (dw r12.2)) <|
 (ia P 23 r18.1 r19.1 (dw r12.2)).bind fun r20 =>
 ifP (r20.2 = (dw r12.2)) <|
 (fa P 45 r20.1 1 (dw r12.2)).bind fun r21 =>
 ifP (r21.2 = (dw r12.2)) <|
 (ld P 41 r21.1 (dw r12.2)).bind fun r22 =>
 ifP (r22.2 = (dw r12.2)) <|
 (sl P 41 r22.1 (some (.int .i64 1)) none none (dw r12.2)).bind fun r23 =>
 ifP (r23.2 = (dw r12.2)) <|
 (bs P 41 0 #[] (dw r12.2)).bind fun r24 =>
 ifP (sl P 41 r22.1 (some (.int .i64 1)) none none r24.2 = some (r23.1, r24.2) ∧ ld P 41 r21.1 r24.2 = some (r22.1, r24.2) ∧ fa P 45 r20.1 1 r24.2 = some (r21.1, r24.2) ∧ ia P 23 r18.1 r19.1 r24.2 = some (r20.1, r24.2) ∧ ld P 23 r17.1 r24.2 = some (r18.1, r24.2) ∧ fa P 25 r1.1 0 r24.2 = some (r17.1, r24.2) ∧ ld P 23 r14.1 r24.2 = some (r15.1, r24.2) ∧ fa P 25 r1.1 0 r24.2 = some (r14.1, r24.2) ∧ True) <|
 (b_append P #[41, 41] 41 #[r24.1, r23.1] r24.2).bind fun r25 =>
 ifP (True ∧ True ∧ True ∧ True ∧ True ∧ True ∧ ld P 23 r14.1 r25.2 = some (r15.1, r25.2) ∧ fa P 25 r1.1 0 r25.2 = some (r14.1, r25.2) ∧ True) <|
 (ia P 23 r15.1 r16.1 r25.2).bind fun r26 =>
 ifP (r26.2 = r25.2) <|
 (fa P 45 r26.1 1 r25.2).bind fun r27 =>
 ifP (r27.2 = r25.2) <|
 (st P 41 r27.1 r25.1 r25.2).bind fun r28 =>
 ifP (True ∧ True ∧ True ∧ True ∧ True ∧ True ∧ True ∧ True ∧ True ∧ True ∧ True) <|
 (ld P 25 r1.1 r28.2).bind fun r29 =>
 (vl x1 r29.2).bind fun r30 =>
 (bo P .add 3 (.tmp 29) (.const (.int .i64 1)) r30.1 (.int .i64 1) r30.2).bind fun r31 =>
 (ld P 32 r11.1 r31.2).bind fun r32 =>
 (EV P 48 #[r29.1, r31.1, r32.1] r32.2).bind fun r33 =>
 (st P 25 r2.1 r33.1 r33.2).bind fun r34 =>
 ((ld P 25 r2.1 r34.2).bind fun r35 => ifP (r35.2 = r34.2) (some r35.1)).bind fun v36 =>
 some (v36, r34.2) := by kernel_rfl
noncomputable def spec_l20AnyStore_j1 (e : Env) (w : World) : Option (Value × World) := exC P (EV P) 67 32 (cB (cB (cB (Yi P 67)))) e w (kFn P (fnOf P 67))
theorem spec_l20AnyStore_j1_eq (e : Env) (w : World) : spec_l20AnyStore_j1 e w =
 (ld P 43 (e 3) w).bind fun r1 =>
 (st P 43 (e 2) r1.1 r1.2).bind fun r2 =>
 ((ld P 43 (e 2) r2.2).bind fun r3 => ifP (r3.2 = r2.2) (some r3.1)).bind fun v4 =>
 some (v4, r2.2) := by kernel_rfl
theorem spec_l20AnyStore_fn (x0 : Value) (w : World) : fnC P (EV P) 67 #[x0] w =
 (al P 43 w).bind fun r1 =>
 (vl x0 r1.2).bind fun r2 =>
 (EV P 105 #[r2.1] r2.2).bind fun r3 =>
 (al P 43 r3.2).bind fun r4 =>
 (st P 43 r4.1 r3.1 r4.2).bind fun r5 =>
 (vl x0 r5.2).bind fun r6 =>
 (EV P 82 #[r6.1, (.int .i64 10)] r6.2).bind fun r7 =>
 (bo P .eql 3 (.tmp 7) (.const (.int .i64 0)) r7.1 (.int .i64 0) r7.2).bind fun r8 =>
 (vl r8.1 r8.2).bind fun r9 =>
 cnd r9.1 (
 (fa P 43 r4.1 0 r9.2).bind fun r10 =>
 (ld P 41 r10.1 r10.2).bind fun r11 =>
 (sl P 41 r11.1 (some (.int .i64 1)) none none r11.2).bind fun r12 =>
 (fa P 43 r4.1 0 r12.2).bind fun r13 =>
 (st P 41 r13.1 r12.1 r13.2).bind fun r14 =>
 spec_l20AnyStore_j1 (ups (env0 #[x0]) [(2, r1.1), (4, r2.1), (5, r3.1), (3, r4.1), (6, r6.1), (7, r7.1), (9, r8.1), (8, r9.1), (10, r10.1), (11, r11.1), (12, r12.1), (13, r13.1)]) r14.2) (
 (bo P .eql 3 (.tmp 7) (.const (.int .i64 1)) r7.1 (.int .i64 1) r9.2).bind fun r15 =>
 (vl r15.1 r15.2).bind fun r16 =>
 cnd r16.1 (
 (fa P 43 r4.1 0 (dw r16.2)).bind fun r18 =>
 ifP (r18.2 = (dw r16.2)) <|
 (ld P 41 r18.1 (dw r16.2)).bind fun r19 =>
 ifP (r19.2 = (dw r16.2)) <|
 (vl x0 (dw r16.2)).bind fun r20 =>
 ifP (r20.2 = (dw r16.2)) <|
 (vl x0 (dw r16.2)).bind fun r21 =>
 ifP (r21.2 = (dw r16.2)) <|
 (EV P 82 #[r20.1, (.int .i64 4)] (dw r16.2)).bind fun r22 =>
 ifP (ld P 41 r18.1 r22.2 = some (r19.1, r22.2) ∧ fa P 43 r4.1 0 r22.2 = some (r18.1, r22.2) ∧ True) <|
 (EV P 40 #[r21.1] r22.2).bind fun r23 =>
 ifP (ld P 41 r18.1 r23.2 = some (r19.1, r23.2) ∧ fa P 43 r4.1 0 r23.2 = some (r18.1, r23.2) ∧ True) <|
 (ia P 41 r19.1 r22.1 r23.2).bind fun r24 =>
 ifP (r24.2 = r23.2) <|
 (st P 32 r24.1 r23.1 r23.2).bind fun r25 =>
 ifP (True ∧ True ∧ True ∧ True) <|
 spec_l20AnyStore_j1 (ups (env0 #[x0]) [(2, r1.1), (4, r2.1), (5, r3.1), (3, r4.1), (6, r6.1), (7, r7.1), (9, r8.1), (8, r9.1), (15, r15.1), (14, r16.1), (16, r18.1), (17, r19.1), (18, r20.1), (20, r21.1), (19, r22.1), (21, r23.1), (22, r24.1)]) r25.2) (
 (bo P .eql 3 (.tmp 7) (.const (.int .i64 2)) r7.1 (.int .i64 2) r16.2).bind fun r26 =>
 (vl r26.1 r26.2).bind fun r27 =>
 cnd r27.1 (
 (fa P 43 r4.1 0 (dw r27.2)).bind fun r29 =>
 ifP (r29.2 = (dw r27.2)) <|
 (ld P 41 r29.1 (dw r27.2)).bind fun r30 =>
 ifP (r30.2 = (dw r27.2)) <|
 (vl x0 (dw r27.2)).bind fun r31 =>
 ifP (r31.2 = (dw r27.2)) <|
 (bd P 32 #[(3, (Go.Value.string { data := #[120] }))] (dw r27.2)).bind fun r32 =>
 ifP (r32.2 = (dw r27.2)) <|
 (EV P 82 #[r31.1, (.int .i64 4)] (dw r27.2)).bind fun r33 =>
 ifP (bd P 32 #[(3, (Go.Value.string { data := #[120] }))] r33.2 = some (r32.1, r33.2) ∧ ld P 41 r29.1 r33.2 = some (r30.1, r33.2) ∧ fa P 43 r4.1 0 r33.2 = some (r29.1, r33.2) ∧ True) <|
 (ia P 41 r30.1 r33.1 r33.2).bind fun r34 =>
 ifP (r34.2 = r33.2) <|
 (st P 32 r34.1 r32.1 r33.2).bind fun r35 =>
 ifP (True ∧ True ∧ True ∧ True ∧ True) <|
 spec_l20AnyStore_j1 (ups (env0 #[x0]) [(2, r1.1), (4, r2.1), (5, r3.1), (3, r4.1), (6, r6.1), (7, r7.1), (9, r8.1), (8, r9.1), (15, r15.1), (14, r16.1), (24, r26.1), (23, r27.1), (25, r29.1), (26, r30.1), (27, r31.1), (29, r32.1), (28, r33.1), (30, r34.1)]) r35.2) (
 spec_l20AnyStore_j1 (ups (env0 #[x0]) [(2, r1.1), (4, r2.1), (5, r3.1), (3, r4.1), (6, r6.1), (7, r7.1), (9, r8.1), (8, r9.1), (15, r15.1), (14, r16.1), (24, r26.1), (23, r27.1)]) r27.2))) := by kernel_rfl
end Go.Proofs.Ytjagkbamkohnoaa.X
