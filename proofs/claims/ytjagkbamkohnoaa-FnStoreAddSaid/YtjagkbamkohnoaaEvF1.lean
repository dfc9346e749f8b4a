/- A part of the proof: an evaluator of the model, its laws, and contracts of functions; no condition. -/
import Derived.Test.YtjagkbamkohnoaaEvT
set_option linter.unusedVariables false
set_option maxRecDepth 100000
namespace Go.Proofs.Ytjagkbamkohnoaa.X
open Go Go.Ev
noncomputable def laws_cfPast_l1 (e : Env) (w : World) : Option (Value × World) := exC P (EV P) 29 31 (.loop (cA (cA (cB (cA (cB (cB (bodyOf P 29)))))))) e w (kBlock 0 (kSeq P (EV P) 29 31 (cB (cB (cB (bodyOf P 29)))) (kFn P (fnOf P 29))))
theorem laws_cfPast_l1_eq (e : Env) (w : World) : laws_cfPast_l1 e w =
 (vl (e 5) w).bind fun r1 =>
 (fa P 30 (e 2) 0 r1.2).bind fun r2 =>
 (ld P 28 r2.1 r2.2).bind fun r3 =>
 (b_len P #[28] 3 #[r3.1] r3.2).bind fun r4 =>
 (bo P .lss 3 (.tmp 13) (.tmp 16) r1.1 r4.1 r4.2).bind fun r5 =>
 cnd r5.1 (
 (fa P 30 (e 2) 0 (dw r5.2)).bind fun r7 =>
 ifP (r7.2 = (dw r5.2)) <|
 (ld P 28 r7.1 (dw r5.2)).bind fun r8 =>
 ifP (r8.2 = (dw r5.2)) <|
 (vl (e 5) (dw r5.2)).bind fun r9 =>
 ifP (r9.2 = (dw r5.2)) <|
 (ia P 28 r8.1 r9.1 (dw r5.2)).bind fun r10 =>
 ifP (r10.2 = (dw r5.2)) <|
 (ld P 27 r10.1 (dw r5.2)).bind fun r11 =>
 ifP (r11.2 = (dw r5.2)) <|
 (fa P 30 (e 3) 0 (dw r5.2)).bind fun r12 =>
 ifP (r12.2 = (dw r5.2)) <|
 (ld P 28 r12.1 (dw r5.2)).bind fun r13 =>
 ifP (r13.2 = (dw r5.2)) <|
 (vl (e 5) (dw r5.2)).bind fun r14 =>
 ifP (r14.2 = (dw r5.2)) <|
 (ia P 28 r13.1 r14.1 (dw r5.2)).bind fun r15 =>
 ifP (r15.2 = (dw r5.2)) <|
 (ld P 27 r15.1 (dw r5.2)).bind fun r16 =>
 ifP (r16.2 = (dw r5.2)) <|
 (bo P .neq 27 (.tmp 24) (.tmp 29) r11.1 r16.1 (dw r5.2)).bind fun r17 =>
 ifP (r17.2 = (dw r5.2)) <|
 cnd r17.1 (
 (vl (.bool false) (dw r5.2)).bind fun r18 =>
 some (r18.1, r18.2)) (
 (vl (e 5) (dw r5.2)).bind fun r19 =>
 (bo P .add 3 (.tmp 18) (.const (.int .i64 1)) r19.1 (.int .i64 1) r19.2).bind fun r20 =>
 (vl r20.1 r20.2).bind fun r21 =>
 laws_cfPast_l1 (ups e [(13, r1.1), (14, r2.1), (15, r3.1), (16, r4.1), (17, r5.1), (20, r7.1), (21, r8.1), (22, r9.1), (23, r10.1), (24, r11.1), (25, r12.1), (26, r13.1), (27, r14.1), (28, r15.1), (29, r16.1), (30, r17.1), (18, r19.1), (19, r20.1), (5, r21.1)]) r21.2)) (
 (vl (.bool true) r5.2).bind fun r22 =>
 some (r22.1, r22.2)) := (exC_loop P (EV P) 29 31 (cA (cA (cB (cA (cB (cB (bodyOf P 29))))))) e w (kBlock 0 (kSeq P (EV P) 29 31 (cB (cB (cB (bodyOf P 29)))) (kFn P (fnOf P 29))))).trans (by kernel_rfl)
theorem laws_cfPast_fn (x0 x1 : Value) (w : World) : fnC P (EV P) 29 #[x0, x1] w =
 (bx P 30 x0 w).bind fun r1 =>
 (bx P 30 x1 r1.2).bind fun r2 =>
 (vl (.bool false) r2.2).bind fun r3 =>
 (fa P 30 r1.1 0 r3.2).bind fun r4 =>
 (ld P 28 r4.1 r4.2).bind fun r5 =>
 (b_len P #[28] 3 #[r5.1] r5.2).bind fun r6 =>
 (fa P 30 r2.1 0 r6.2).bind fun r7 =>
 (ld P 28 r7.1 r7.2).bind fun r8 =>
 (b_len P #[28] 3 #[r8.1] r8.2).bind fun r9 =>
 (bo P .neq 3 (.tmp 8) (.tmp 11) r6.1 r9.1 r9.2).bind fun r10 =>
 cnd r10.1 (
 (vl (.bool false) r10.2).bind fun r11 =>
 some (r11.1, r11.2)) (
 (vl (.int .i64 0) r10.2).bind fun r12 =>
 laws_cfPast_l1 (ups (env0 #[x0, x1]) [(2, r1.1), (3, r2.1), (4, r3.1), (6, r4.1), (7, r5.1), (8, r6.1), (9, r7.1), (10, r8.1), (11, r9.1), (12, r10.1), (5, r12.1)]) r12.2) := by kernel_rfl
theorem impl_PastOk_fn (x0 : Value) (w : World) : fnC P (EV P) 34 #[x0] w =
 (bx P 30 x0 w).bind fun r1 =>
 (vl (.bool false) r1.2).bind fun r2 =>
 (fa P 30 r1.1 0 r2.2).bind fun r3 =>
 (ld P 28 r3.1 r3.2).bind fun r4 =>
 (b_len P #[28] 3 #[r4.1] r4.2).bind fun r5 =>
 (bo P .eql 3 (.tmp 5) (.const (.int .i64 4)) r5.1 (.int .i64 4) r5.2).bind fun r6 =>
 (vl r6.1 r6.2).bind fun r7 =>
 (gif r7.1 true (fa P 30 r1.1 0 r7.2) r7.2).bind fun r8 =>
 (gif r7.1 true (ld P 28 r8.1 r8.2) r8.2).bind fun r9 =>
 (gif r7.1 true (EV P 78 #[r9.1, (.func (.func 79) #[] #[])] r9.2) r9.2).bind fun r10 =>
 (gif r7.1 true (uo P .not r10.1 r10.2) r10.2).bind fun r11 =>
 (pickV r7.1 r11.1 (.bool false) r11.2).bind fun r12 =>
 (vl r12.1 r12.2).bind fun r13 =>
 some (r13.1, r13.2) := by kernel_rfl
theorem impl_PastNone_fn (w : World) : fnC P (EV P) 37 #[] w =
 (al P 30 w).bind fun r1 =>
 (ms P 28 (.int .i64 4) (.int .i64 4) r1.2).bind fun r2 =>
 (bd P 30 #[(0, r2.1)] r2.2).bind fun r3 =>
 (st P 30 r1.1 r3.1 r3.2).bind fun r4 =>
 ((ld P 30 r1.1 r4.2).bind fun r5 => ifP (r5.2 = r4.2) (some r5.1)).bind fun v6 =>
 some (v6, r4.2) := by kernel_rfl
noncomputable def spec_l20Open_j1 (e : Env) (w : World) : Option (Value × World) := exC P (EV P) 38 11 (cB (cB (bodyOf P 38))) e w (kFn P (fnOf P 38))
theorem spec_l20Open_j1_eq (e : Env) (w : World) : spec_l20Open_j1 e w =
 (vl (e 0) w).bind fun r1 =>
 (bd P 95 #[(0, r1.1)] r1.2).bind fun r2 =>
 (bx P 95 r2.1 r2.2).bind fun r3 =>
 (vl r3.1 r3.2).bind fun r4 =>
 some (r4.1, r4.2) := by kernel_rfl
theorem spec_l20Open_fn (x0 : Value) (w : World) : fnC P (EV P) 38 #[x0] w =
 (vl (Go.Value.pointer none) w).bind fun r1 =>
 (vl x0 r1.2).bind fun r2 =>
 (b_len P #[22] 3 #[r2.1] r2.2).bind fun r3 =>
 (bo P .gtr 3 (.tmp 4) (.const (.int .i64 2000)) r3.1 (.int .i64 2000) r3.2).bind fun r4 =>
 cnd r4.1 (
 (vl x0 r4.2).bind fun r5 =>
 (sl P 22 r5.1 none (some (.int .i64 2000)) none r5.2).bind fun r6 =>
 (vl r6.1 r6.2).bind fun r7 =>
 spec_l20Open_j1 (ups (env0 #[x0]) [(2, r1.1), (3, r2.1), (4, r3.1), (5, r4.1), (6, r5.1), (7, r6.1), (0, r7.1)]) r7.2) (
 spec_l20Open_j1 (ups (env0 #[x0]) [(2, r1.1), (3, r2.1), (4, r3.1), (5, r4.1)]) r4.2) := by kernel_rfl
noncomputable def spec_l20AnyVer_j1 (e : Env) (w : World) : Option (Value × World) := exC P (EV P) 40 46 (cB (cB (cB (bodyOf P 40)))) e w (kFn P (fnOf P 40))
theorem spec_l20AnyVer_j1_eq (e : Env) (w : World) : spec_l20AnyVer_j1 e w =
 (ld P 32 (e 3) w).bind fun r1 =>
 (st P 32 (e 2) r1.1 r1.2).bind fun r2 =>
 ((ld P 32 (e 2) r2.2).bind fun r3 => ifP (r3.2 = r2.2) (some r3.1)).bind fun v4 =>
 some (v4, r2.2) := by kernel_rfl
theorem spec_l20AnyVer_fn (x0 : Value) (w : World) : fnC P (EV P) 40 #[x0] w =
 (al P 32 w).bind fun r1 =>
 (vl x0 r1.2).bind fun r2 =>
 (EV P 83 #[r2.1] r2.2).bind fun r3 =>
 (al P 32 r3.2).bind fun r4 =>
 (st P 32 r4.1 r3.1 r4.2).bind fun r5 =>
 (vl x0 r5.2).bind fun r6 =>
 (EV P 82 #[r6.1, (.int .i64 10)] r6.2).bind fun r7 =>
 (bo P .eql 3 (.tmp 7) (.const (.int .i64 0)) r7.1 (.int .i64 0) r7.2).bind fun r8 =>
 (vl r8.1 r8.2).bind fun r9 =>
 cnd r9.1 (
 (vl x0 r9.2).bind fun r10 =>
 (bs P 85 2 #[(0, (.int .i64 (-1))), (1, (.int .i64 4))] r10.2).bind fun r11 =>
 (EV P 62 #[r10.1, r11.1] r11.2).bind fun r12 =>
 (fa P 32 r4.1 0 r12.2).bind fun r13 =>
 (st P 3 r13.1 r12.1 r13.2).bind fun r14 =>
 spec_l20AnyVer_j1 (ups (env0 #[x0]) [(2, r1.1), (4, r2.1), (5, r3.1), (3, r4.1), (6, r6.1), (7, r7.1), (9, r8.1), (8, r9.1), (10, r10.1), (11, r11.1), (12, r12.1), (13, r13.1)]) r14.2) (
 (bo P .eql 3 (.tmp 7) (.const (.int .i64 1)) r7.1 (.int .i64 1) r9.2).bind fun r15 =>
 (vl r15.1 r15.2).bind fun r16 =>
 cnd r16.1 (
 (vl x0 r16.2).bind fun r17 =>
 (bs P 98 3 #[(0, (Go.Value.string { data := #[97, 32, 98] })), (1, (Go.Value.string { data := #[116, 111, 111, 108, 111, 110, 103, 101, 114] })), (2, (Go.Value.string { data := #[10] }))] r17.2).bind fun r18 =>
 (EV P 84 #[r17.1, r18.1] r18.2).bind fun r19 =>
 (fa P 32 r4.1 3 r19.2).bind fun r20 =>
 (st P 9 r20.1 r19.1 r20.2).bind fun r21 =>
 spec_l20AnyVer_j1 (ups (env0 #[x0]) [(2, r1.1), (4, r2.1), (5, r3.1), (3, r4.1), (6, r6.1), (7, r7.1), (9, r8.1), (8, r9.1), (15, r15.1), (14, r16.1), (16, r17.1), (17, r18.1), (18, r19.1), (19, r20.1)]) r21.2) (
 (bo P .eql 3 (.tmp 7) (.const (.int .i64 2)) r7.1 (.int .i64 2) r16.2).bind fun r22 =>
 (vl r22.1 r22.2).bind fun r23 =>
 cnd r23.1 (
 (fa P 32 r4.1 2 r23.2).bind fun r24 =>
 (fa P 30 r24.1 0 r24.2).bind fun r25 =>
 (ld P 28 r25.1 r25.2).bind fun r26 =>
 (sl P 28 r26.1 (some (.int .i64 1)) none none r26.2).bind fun r27 =>
 (fa P 32 r4.1 2 r27.2).bind fun r28 =>
 (fa P 30 r28.1 0 r28.2).bind fun r29 =>
 (st P 28 r29.1 r27.1 r29.2).bind fun r30 =>
 spec_l20AnyVer_j1 (ups (env0 #[x0]) [(2, r1.1), (4, r2.1), (5, r3.1), (3, r4.1), (6, r6.1), (7, r7.1), (9, r8.1), (8, r9.1), (15, r15.1), (14, r16.1), (21, r22.1), (20, r23.1), (22, r24.1), (23, r25.1), (24, r26.1), (25, r27.1), (26, r28.1), (27, r29.1)]) r30.2) (
 (bo P .eql 3 (.tmp 7) (.const (.int .i64 3)) r7.1 (.int .i64 3) r23.2).bind fun r31 =>
 (vl r31.1 r31.2).bind fun r32 =>
 cnd r32.1 (
 (fa P 32 r4.1 2 (dw r32.2)).bind fun r34 =>
 ifP (r34.2 = (dw r32.2)) <|
 (fa P 30 r34.1 0 (dw r32.2)).bind fun r35 =>
 ifP (r35.2 = (dw r32.2)) <|
 (ld P 28 r35.1 (dw r32.2)).bind fun r36 =>
 ifP (r36.2 = (dw r32.2)) <|
 (vl x0 (dw r32.2)).bind fun r37 =>
 ifP (r37.2 = (dw r32.2)) <|
 (bd P 27 #[(0, (.int .i64 50)), (1, (.int .i64 1))] (dw r32.2)).bind fun r38 =>
 ifP (r38.2 = (dw r32.2)) <|
 (EV P 82 #[r37.1, (.int .i64 4)] (dw r32.2)).bind fun r39 =>
 ifP (bd P 27 #[(0, (.int .i64 50)), (1, (.int .i64 1))] r39.2 = some (r38.1, r39.2) ∧ ld P 28 r35.1 r39.2 = some (r36.1, r39.2) ∧ fa P 30 r34.1 0 r39.2 = some (r35.1, r39.2) ∧ fa P 32 r4.1 2 r39.2 = some (r34.1, r39.2) ∧ True) <|
 (ia P 28 r36.1 r39.1 r39.2).bind fun r40 =>
 ifP (r40.2 = r39.2) <|
 (st P 27 r40.1 r38.1 r39.2).bind fun r41 =>
 ifP (True ∧ True ∧ True ∧ True ∧ True ∧ True) <|
 spec_l20AnyVer_j1 (ups (env0 #[x0]) [(2, r1.1), (4, r2.1), (5, r3.1), (3, r4.1), (6, r6.1), (7, r7.1), (9, r8.1), (8, r9.1), (15, r15.1), (14, r16.1), (21, r22.1), (20, r23.1), (29, r31.1), (28, r32.1), (30, r34.1), (31, r35.1), (32, r36.1), (33, r37.1), (35, r38.1), (34, r39.1), (36, r40.1)]) r41.2) (
 (bo P .eql 3 (.tmp 7) (.const (.int .i64 4)) r7.1 (.int .i64 4) r32.2).bind fun r42 =>
 (vl r42.1 r42.2).bind fun r43 =>
 cnd r43.1 (
 (vl x0 r43.2).bind fun r44 =>
 (EV P 85 #[r44.1] r44.2).bind fun r45 =>
 (fa P 32 r4.1 1 r45.2).bind fun r46 =>
 (st P 27 r46.1 r45.1 r46.2).bind fun r47 =>
 spec_l20AnyVer_j1 (ups (env0 #[x0]) [(2, r1.1), (4, r2.1), (5, r3.1), (3, r4.1), (6, r6.1), (7, r7.1), (9, r8.1), (8, r9.1), (15, r15.1), (14, r16.1), (21, r22.1), (20, r23.1), (29, r31.1), (28, r32.1), (38, r42.1), (37, r43.1), (39, r44.1), (40, r45.1), (41, r46.1)]) r47.2) (
 (bo P .eql 3 (.tmp 7) (.const (.int .i64 5)) r7.1 (.int .i64 5) r43.2).bind fun r48 =>
 (vl r48.1 r48.2).bind fun r49 =>
 cnd r49.1 (
 (fa P 32 r4.1 4 r49.2).bind fun r50 =>
 (st P 4 r50.1 (.bool true) r50.2).bind fun r51 =>
 spec_l20AnyVer_j1 (ups (env0 #[x0]) [(2, r1.1), (4, r2.1), (5, r3.1), (3, r4.1), (6, r6.1), (7, r7.1), (9, r8.1), (8, r9.1), (15, r15.1), (14, r16.1), (21, r22.1), (20, r23.1), (29, r31.1), (28, r32.1), (38, r42.1), (37, r43.1), (43, r48.1), (42, r49.1), (44, r50.1)]) r51.2) (
 spec_l20AnyVer_j1 (ups (env0 #[x0]) [(2, r1.1), (4, r2.1), (5, r3.1), (3, r4.1), (6, r6.1), (7, r7.1), (9, r8.1), (8, r9.1), (15, r15.1), (14, r16.1), (21, r22.1), (20, r23.1), (29, r31.1), (28, r32.1), (38, r42.1), (37, r43.1), (43, r48.1), (42, r49.1)]) r49.2)))))) := by kernel_rfl
noncomputable def spec_l2Ok_l1 (e : Env) (w : World) : Option (Value × World) := exC P (EV P) 45 56 (.loop (cA (cA (cB (cA (cB (cB (bodyOf P 45)))))))) e w (kBlock 0 (kSeq P (EV P) 45 56 (cB (cB (cB (bodyOf P 45)))) (kFn P (fnOf P 45))))
theorem spec_l2Ok_l1_eq (e : Env) (w : World) : spec_l2Ok_l1 e w =
 (vl (e 3) w).bind fun r1 =>
 (bo P .lss 3 (.tmp 41) (.const (.int .i64 4)) r1.1 (.int .i64 4) r1.2).bind fun r2 =>
 cnd r2.1 (
 (fa P 32 (e 1) 2 (dw r2.2)).bind fun r4 =>
 ifP (r4.2 = (dw r2.2)) <|
 (fa P 30 r4.1 0 (dw r2.2)).bind fun r5 =>
 ifP (r5.2 = (dw r2.2)) <|
 (ld P 28 r5.1 (dw r2.2)).bind fun r6 =>
 ifP (r6.2 = (dw r2.2)) <|
 (vl (e 3) (dw r2.2)).bind fun r7 =>
 ifP (r7.2 = (dw r2.2)) <|
 (ia P 28 r6.1 r7.1 (dw r2.2)).bind fun r8 =>
 ifP (r8.2 = (dw r2.2)) <|
 (fa P 27 r8.1 0 (dw r2.2)).bind fun r9 =>
 ifP (r9.2 = (dw r2.2)) <|
 (ld P 3 r9.1 (dw r2.2)).bind fun r10 =>
 ifP (r10.2 = (dw r2.2)) <|
 (fa P 32 (e 1) 1 (dw r2.2)).bind fun r11 =>
 ifP (r11.2 = (dw r2.2)) <|
 (fa P 27 r11.1 0 (dw r2.2)).bind fun r12 =>
 ifP (r12.2 = (dw r2.2)) <|
 (ld P 3 r12.1 (dw r2.2)).bind fun r13 =>
 ifP (r13.2 = (dw r2.2)) <|
 (bo P .geq 3 (.tmp 51) (.tmp 54) r10.1 r13.1 (dw r2.2)).bind fun r14 =>
 ifP (r14.2 = (dw r2.2)) <|
 cnd r14.1 (
 (vl (.bool false) (dw r2.2)).bind fun r15 =>
 some (r15.1, r15.2)) (
 (vl (e 3) (dw r2.2)).bind fun r16 =>
 (bo P .add 3 (.tmp 43) (.const (.int .i64 1)) r16.1 (.int .i64 1) r16.2).bind fun r17 =>
 (vl r17.1 r17.2).bind fun r18 =>
 spec_l2Ok_l1 (ups e [(41, r1.1), (42, r2.1), (45, r4.1), (46, r5.1), (47, r6.1), (48, r7.1), (49, r8.1), (50, r9.1), (51, r10.1), (52, r11.1), (53, r12.1), (54, r13.1), (55, r14.1), (43, r16.1), (44, r17.1), (3, r18.1)]) r18.2)) (
 (vl (.bool true) r2.2).bind fun r19 =>
 some (r19.1, r19.2)) := (exC_loop P (EV P) 45 56 (cA (cA (cB (cA (cB (cB (bodyOf P 45))))))) e w (kBlock 0 (kSeq P (EV P) 45 56 (cB (cB (cB (bodyOf P 45)))) (kFn P (fnOf P 45))))).trans (by kernel_rfl)
theorem spec_l2Ok_fn (x0 : Value) (w : World) : fnC P (EV P) 45 #[x0] w =
 (bx P 32 x0 w).bind fun r1 =>
 (vl (.bool false) r1.2).bind fun r2 =>
 (fa P 32 r1.1 0 r2.2).bind fun r3 =>
 (ld P 3 r3.1 r3.2).bind fun r4 =>
 (EV P 90 #[r4.1, (.int .i64 0), (.int .i64 3)] r4.2).bind fun r5 =>
 (uo P .not r5.1 r5.2).bind fun r6 =>
 (vl r6.1 r6.2).bind fun r7 =>
 (gif r7.1 false (fa P 32 r1.1 3 r7.2) r7.2).bind fun r8 =>
 (gif r7.1 false (ld P 9 r8.1 r8.2) r8.2).bind fun r9 =>
 (gif r7.1 false (EV P 91 #[r9.1] r9.2) r9.2).bind fun r10 =>
 (gif r7.1 false (uo P .not r10.1 r10.2) r10.2).bind fun r11 =>
 (pickV r7.1 (.bool true) r11.1 r11.2).bind fun r12 =>
 (vl r12.1 r12.2).bind fun r13 =>
 (gif r13.1 false (fa P 32 r1.1 1 r13.2) r13.2).bind fun r14 =>
 (gif r13.1 false (ld P 27 r14.1 r14.2) r14.2).bind fun r15 =>
 (gif r13.1 false (EV P 92 #[r15.1] r15.2) r15.2).bind fun r16 =>
 (gif r13.1 false (uo P .not r16.1 r16.2) r16.2).bind fun r17 =>
 (pickV r13.1 (.bool true) r17.1 r17.2).bind fun r18 =>
 (vl r18.1 r18.2).bind fun r19 =>
 (gif r19.1 false (fa P 32 r1.1 1 r19.2) r19.2).bind fun r20 =>
 (gif r19.1 false (fa P 27 r20.1 0 r20.2) r20.2).bind fun r21 =>
 (gif r19.1 false (ld P 3 r21.1 r21.2) r21.2).bind fun r22 =>
 (gif r19.1 false (bo P .eql 3 (.tmp 23) (.const (.int .i64 0)) r22.1 (.int .i64 0) r22.2) r22.2).bind fun r23 =>
 (pickV r19.1 (.bool true) r23.1 r23.2).bind fun r24 =>
 (vl r24.1 r24.2).bind fun r25 =>
 (gif r25.1 false (fa P 32 r1.1 4 r25.2) r25.2).bind fun r26 =>
 (gif r25.1 false (ld P 4 r26.1 r26.2) r26.2).bind fun r27 =>
 (gif r25.1 false (vl r27.1 r27.2) r27.2).bind fun r28 =>
 (gif r28.1 true (fa P 32 r1.1 3 r28.2) r28.2).bind fun r29 =>
 (gif r28.1 true (ld P 9 r29.1 r29.2) r29.2).bind fun r30 =>
 (gif r28.1 true (bo P .neq 9 (.tmp 31) (.const (Go.Value.string { data := #[] })) r30.1 (Go.Value.string { data := #[] }) r30.2) r30.2).bind fun r31 =>
 (gif r25.1 false (pickV r28.1 r31.1 (.bool false) r31.2) r31.2).bind fun r32 =>
 (pickV r25.1 (.bool true) r32.1 r32.2).bind fun r33 =>
 (vl r33.1 r33.2).bind fun r34 =>
 (gif r34.1 false (fa P 32 r1.1 2 r34.2) r34.2).bind fun r35 =>
 (gif r34.1 false (ld P 30 r35.1 r35.2) r35.2).bind fun r36 =>
 (gif r34.1 false (EV P 76 #[r36.1] r36.2) r36.2).bind fun r37 =>
 (gif r34.1 false (uo P .not r37.1 r37.2) r37.2).bind fun r38 =>
 (pickV r34.1 (.bool true) r38.1 r38.2).bind fun r39 =>
 cnd r39.1 (
 (vl (.bool false) r39.2).bind fun r40 =>
 some (r40.1, r40.2)) (
 (vl (.int .i64 0) r39.2).bind fun r41 =>
 spec_l2Ok_l1 (ups (env0 #[x0]) [(1, r1.1), (2, r2.1), (4, r3.1), (5, r4.1), (6, r5.1), (7, r6.1), (8, r7.1), (9, r8.1), (10, r9.1), (11, r10.1), (12, r11.1), (13, r12.1), (14, r13.1), (15, r14.1), (16, r15.1), (17, r16.1), (18, r17.1), (19, r18.1), (20, r19.1), (21, r20.1), (22, r21.1), (23, r22.1), (24, r23.1), (25, r24.1), (26, r25.1), (27, r26.1), (28, r27.1), (29, r28.1), (30, r29.1), (31, r30.1), (32, r31.1), (33, r32.1), (34, r33.1), (35, r34.1), (36, r35.1), (37, r36.1), (38, r37.1), (39, r38.1), (40, r39.1), (3, r41.1)]) r41.2) := by kernel_rfl
theorem impl_Ver_written_fn (x0 : Value) (w : World) : fnC P (EV P) 55 #[x0] w =
 (bx P 32 x0 w).bind fun r1 =>
 (vl (.bool false) r1.2).bind fun r2 =>
 (fa P 32 r1.1 0 r2.2).bind fun r3 =>
 (ld P 3 r3.1 r3.2).bind fun r4 =>
 (EV P 98 #[r4.1] r4.2).bind fun r5 =>
 (vl r5.1 r5.2).bind fun r6 =>
 (gif r6.1 true (fa P 32 r1.1 3 r6.2) r6.2).bind fun r7 =>
 (gif r6.1 true (ld P 9 r7.1 r7.2) r7.2).bind fun r8 =>
 (gif r6.1 true (EV P 99 #[r8.1] r8.2) r8.2).bind fun r9 =>
 (pickV r6.1 r9.1 (.bool false) r9.2).bind fun r10 =>
 (vl r10.1 r10.2).bind fun r11 =>
 (gif r11.1 true (fa P 32 r1.1 4 r11.2) r11.2).bind fun r12 =>
 (gif r11.1 true (ld P 4 r12.1 r12.2) r12.2).bind fun r13 =>
 (gif r11.1 true (uo P .not r13.1 r13.2) r13.2).bind fun r14 =>
 (gif r11.1 true (vl r14.1 r14.2) r14.2).bind fun r15 =>
 (gif r15.1 false (fa P 32 r1.1 3 r15.2) r15.2).bind fun r16 =>
 (gif r15.1 false (ld P 9 r16.1 r16.2) r16.2).bind fun r17 =>
 (gif r15.1 false (bo P .eql 9 (.tmp 17) (.const (Go.Value.string { data := #[] })) r17.1 (Go.Value.string { data := #[] }) r17.2) r17.2).bind fun r18 =>
 (gif r11.1 true (pickV r15.1 (.bool true) r18.1 r18.2) r18.2).bind fun r19 =>
 (pickV r11.1 r19.1 (.bool false) r19.2).bind fun r20 =>
 (vl r20.1 r20.2).bind fun r21 =>
 (gif r21.1 true (fa P 32 r1.1 2 r21.2) r21.2).bind fun r22 =>
 (gif r21.1 true (ld P 30 r22.1 r22.2) r22.2).bind fun r23 =>
 (gif r21.1 true (EV P 34 #[r23.1] r23.2) r23.2).bind fun r24 =>
 (pickV r21.1 r24.1 (.bool false) r24.2).bind fun r25 =>
 (vl r25.1 r25.2).bind fun r26 =>
 some (r26.1, r26.2) := by kernel_rfl
theorem impl_TagOk_fn (x0 : Value) (w : World) : fnC P (EV P) 56 #[x0] w =
 (bx P 27 x0 w).bind fun r1 =>
 (vl (.bool false) r1.2).bind fun r2 =>
 (ld P 27 r1.1 r2.2).bind fun r3 =>
 (bd P 27 #[] r3.2).bind fun r4 =>
 (bo P .eql 27 (.tmp 3) (.tmp 4) r3.1 r4.1 r4.2).bind fun r5 =>
 (vl r5.1 r5.2).bind fun r6 =>
 (gif r6.1 false (fa P 27 r1.1 0 r6.2) r6.2).bind fun r7 =>
 (gif r6.1 false (ld P 3 r7.1 r7.2) r7.2).bind fun r8 =>
 (gif r6.1 false (EV P 95 #[r8.1, (.int .i64 1), (.int .i64 999)] r8.2) r8.2).bind fun r9 =>
 (gif r6.1 false (vl r9.1 r9.2) r9.2).bind fun r10 =>
 (gif r10.1 true (fa P 27 r1.1 1 r10.2) r10.2).bind fun r11 =>
 (gif r10.1 true (ld P 3 r11.1 r11.2) r11.2).bind fun r12 =>
 (gif r10.1 true (EV P 100 #[r12.1] r12.2) r12.2).bind fun r13 =>
 (gif r6.1 false (pickV r10.1 r13.1 (.bool false) r13.2) r13.2).bind fun r14 =>
 (pickV r6.1 (.bool true) r14.1 r14.2).bind fun r15 =>
 (vl r15.1 r15.2).bind fun r16 =>
 some (r16.1, r16.2) := by kernel_rfl
noncomputable def impl_Past_latest_l1 (e : Env) (w : World) : Option (Value × World) := exC P (EV P) 57 19 (.loop (cA (cA (cB (cA (cB (cB (bodyOf P 57)))))))) e w (kBlock 0 (kSeq P (EV P) 57 19 (cB (cB (cB (bodyOf P 57)))) (kFn P (fnOf P 57))))
theorem impl_Past_latest_l1_eq (e : Env) (w : World) : impl_Past_latest_l1 e w =
 (bo P .lss 3 (.tmp 9) (.tmp 8) (e 9) (e 8) w).bind fun r1 =>
 cnd r1.1 (
 (ia P 28 (e 7) (e 9) r1.2).bind fun r2 =>
 (ld P 27 r2.1 r2.2).bind fun r3 =>
 (al P 27 r3.2).bind fun r4 =>
 (st P 27 r4.1 r3.1 r4.2).bind fun r5 =>
 (vl (e 3) r5.2).bind fun r6 =>
 (fa P 27 r4.1 0 r6.2).bind fun r7 =>
 (ld P 3 r7.1 r7.2).bind fun r8 =>
 (b_max P #[3, 3] 3 #[r6.1, r8.1] r8.2).bind fun r9 =>
 (vl r9.1 r9.2).bind fun r10 =>
 (bo P .add 3 (.tmp 9) (.const (.int .i64 1)) (e 9) (.int .i64 1) r10.2).bind fun r11 =>
 (vl r11.1 r11.2).bind fun r12 =>
 impl_Past_latest_l1 (ups e [(10, r1.1), (11, r2.1), (12, r3.1), (5, r4.1), (13, r6.1), (14, r7.1), (15, r8.1), (16, r9.1), (3, r10.1), (17, r11.1), (9, r12.1)]) r12.2) (
 (vl (e 3) r1.2).bind fun r13 =>
 (vl r13.1 r13.2).bind fun r14 =>
 some (r14.1, r14.2)) := (exC_loop P (EV P) 57 19 (cA (cA (cB (cA (cB (cB (bodyOf P 57))))))) e w (kBlock 0 (kSeq P (EV P) 57 19 (cB (cB (cB (bodyOf P 57)))) (kFn P (fnOf P 57))))).trans (by kernel_rfl)
theorem impl_Past_latest_fn (x0 : Value) (w : World) : fnC P (EV P) 57 #[x0] w =
 (bx P 30 x0 w).bind fun r1 =>
 (vl (.int .i64 0) r1.2).bind fun r2 =>
 (vl (.int .i64 0) r2.2).bind fun r3 =>
 (fa P 30 r1.1 0 r3.2).bind fun r4 =>
 (ld P 28 r4.1 r4.2).bind fun r5 =>
 (b_len P #[28] 3 #[r5.1] r5.2).bind fun r6 =>
 (vl (.int .i64 0) r6.2).bind fun r7 =>
 impl_Past_latest_l1 (ups (env0 #[x0]) [(1, r1.1), (2, r2.1), (3, r3.1), (6, r4.1), (7, r5.1), (8, r6.1), (9, r7.1)]) r7.2 := by kernel_rfl
theorem laws_cfVer_fn (x0 x1 : Value) (w : World) : fnC P (EV P) 58 #[x0, x1] w =
 (bx P 32 x0 w).bind fun r1 =>
 (bx P 32 x1 r1.2).bind fun r2 =>
 (vl (.bool false) r2.2).bind fun r3 =>
 (fa P 32 r1.1 0 r3.2).bind fun r4 =>
 (ld P 3 r4.1 r4.2).bind fun r5 =>
 (fa P 32 r2.1 0 r5.2).bind fun r6 =>
 (ld P 3 r6.1 r6.2).bind fun r7 =>
 (bo P .eql 3 (.tmp 6) (.tmp 8) r5.1 r7.1 r7.2).bind fun r8 =>
 (vl r8.1 r8.2).bind fun r9 =>
 (gif r9.1 true (fa P 32 r1.1 1 r9.2) r9.2).bind fun r10 =>
 (gif r9.1 true (ld P 27 r10.1 r10.2) r10.2).bind fun r11 =>
 (gif r9.1 true (fa P 32 r2.1 1 r11.2) r11.2).bind fun r12 =>
 (gif r9.1 true (ld P 27 r12.1 r12.2) r12.2).bind fun r13 =>
 (gif r9.1 true (bo P .eql 27 (.tmp 12) (.tmp 14) r11.1 r13.1 r13.2) r13.2).bind fun r14 =>
 (pickV r9.1 r14.1 (.bool false) r14.2).bind fun r15 =>
 (vl r15.1 r15.2).bind fun r16 =>
 (gif r16.1 true (fa P 32 r1.1 2 r16.2) r16.2).bind fun r17 =>
 (gif r16.1 true (ld P 30 r17.1 r17.2) r17.2).bind fun r18 =>
 (gif r16.1 true (fa P 32 r2.1 2 r18.2) r18.2).bind fun r19 =>
 (gif r16.1 true (ld P 30 r19.1 r19.2) r19.2).bind fun r20 =>
 (gif r16.1 true (EV P 29 #[r18.1, r20.1] r20.2) r20.2).bind fun r21 =>
 (pickV r16.1 r21.1 (.bool false) r21.2).bind fun r22 =>
 (vl r22.1 r22.2).bind fun r23 =>
 (gif r23.1 true (fa P 32 r1.1 3 r23.2) r23.2).bind fun r24 =>
 (gif r23.1 true (ld P 9 r24.1 r24.2) r24.2).bind fun r25 =>
 (gif r23.1 true (fa P 32 r2.1 3 r25.2) r25.2).bind fun r26 =>
 (gif r23.1 true (ld P 9 r26.1 r26.2) r26.2).bind fun r27 =>
 (gif r23.1 true (bo P .eql 9 (.tmp 26) (.tmp 28) r25.1 r27.1 r27.2) r27.2).bind fun r28 =>
 (pickV r23.1 r28.1 (.bool false) r28.2).bind fun r29 =>
 (vl r29.1 r29.2).bind fun r30 =>
 (gif r30.1 true (fa P 32 r1.1 4 r30.2) r30.2).bind fun r31 =>
 (gif r30.1 true (ld P 4 r31.1 r31.2) r31.2).bind fun r32 =>
 (gif r30.1 true (fa P 32 r2.1 4 r32.2) r32.2).bind fun r33 =>
 (gif r30.1 true (ld P 4 r33.1 r33.2) r33.2).bind fun r34 =>
 (gif r30.1 true (bo P .eql 4 (.tmp 33) (.tmp 35) r32.1 r34.1 r34.2) r34.2).bind fun r35 =>
 (pickV r30.1 r35.1 (.bool false) r35.2).bind fun r36 =>
 (vl r36.1 r36.2).bind fun r37 =>
 some (r37.1, r37.2) := by kernel_rfl
theorem impl_Store_copied_fn (x0 : Value) (w : World) : fnC P (EV P) 59 #[x0] w =
 (bx P 43 x0 w).bind fun r1 =>
 (al P 43 r1.2).bind fun r2 =>
 (fa P 43 r1.1 0 r2.2).bind fun r3 =>
 (ld P 41 r3.1 r3.2).bind fun r4 =>
 (EV P 101 #[r4.1] r4.2).bind fun r5 =>
 (bd P 43 #[(0, r5.1)] r5.2).bind fun r6 =>
 (st P 43 r2.1 r6.1 r6.2).bind fun r7 =>
 ((ld P 43 r2.1 r7.2).bind fun r8 => ifP (r8.2 = r7.2) (some r8.1)).bind fun v9 =>
 some (v9, r7.2) := by kernel_rfl
theorem impl_Store_later_fn (x0 x1 : Value) (w : World) : fnC P (EV P) 60 #[x0, x1] w =
 (bx P 43 x0 w).bind fun r1 =>
 (bx P 32 x1 r1.2).bind fun r2 =>
 (vl (.bool false) r2.2).bind fun r3 =>
 (fa P 43 r1.1 0 (dw r3.2)).bind fun r5 =>
 ifP (r5.2 = (dw r3.2)) <|
 (ld P 41 r5.1 (dw r3.2)).bind fun r6 =>
 ifP (r6.2 = (dw r3.2)) <|
 (fa P 32 r2.1 0 (dw r3.2)).bind fun r7 =>
 ifP (r7.2 = (dw r3.2)) <|
 (ld P 3 r7.1 (dw r3.2)).bind fun r8 =>
 ifP (r8.2 = (dw r3.2)) <|
 (ia P 41 r6.1 r8.1 (dw r3.2)).bind fun r9 =>
 ifP (r9.2 = (dw r3.2)) <|
 (fa P 32 r9.1 1 (dw r3.2)).bind fun r10 =>
 ifP (r10.2 = (dw r3.2)) <|
 (ld P 27 r10.1 (dw r3.2)).bind fun r11 =>
 ifP (r11.2 = (dw r3.2)) <|
 (fa P 32 r2.1 1 (dw r3.2)).bind fun r12 =>
 ifP (r12.2 = (dw r3.2)) <|
 (ld P 27 r12.1 (dw r3.2)).bind fun r13 =>
 ifP (r13.2 = (dw r3.2)) <|
 (EV P 73 #[r11.1, r13.1] (dw r3.2)).bind fun r14 =>
 ifP (True ∧ True ∧ True ∧ True ∧ True ∧ True ∧ True ∧ True ∧ True ∧ True) <|
 (vl r14.1 r14.2).bind fun r15 =>
 ifP (r15.2 = r14.2) <|
 some (r15.1, r14.2) := by kernel_rfl
theorem impl_Ver_copied_fn (x0 : Value) (w : World) : fnC P (EV P) 61 #[x0] w =
 (bx P 32 x0 w).bind fun r1 =>
 (al P 32 r1.2).bind fun r2 =>
 (fa P 32 r1.1 2 r2.2).bind fun r3 =>
 (ld P 30 r3.1 r3.2).bind fun r4 =>
 (EV P 102 #[r4.1] r4.2).bind fun r5 =>
 (fa P 32 r1.1 2 r5.2).bind fun r6 =>
 (st P 30 r6.1 r5.1 r6.2).bind fun r7 =>
 (ld P 32 r1.1 r7.2).bind fun r8 =>
 (st P 32 r2.1 r8.1 r8.2).bind fun r9 =>
 ((ld P 32 r2.1 r9.2).bind fun r10 => ifP (r10.2 = r9.2) (some r10.1)).bind fun v11 =>
 some (v11, r9.2) := by kernel_rfl
theorem spec_l20Rd_one_fn (x0 x1 : Value) (w : World) : fnC P (EV P) 62 #[x0, x1] w =
 (vl (.int .i64 0) w).bind fun r1 =>
 (vl x1 r1.2).bind fun r2 =>
 (vl x0 r2.2).bind fun r3 =>
 (vl x1 r3.2).bind fun r4 =>
 (b_len P #[85] 3 #[r4.1] r4.2).bind fun r5 =>
 (EV P 82 #[r3.1, r5.1] r5.2).bind fun r6 =>
 (ia P 85 r2.1 r6.1 r6.2).bind fun r7 =>
 (ld P 3 r7.1 r7.2).bind fun r8 =>
 (vl r8.1 r8.2).bind fun r9 =>
 some (r9.1, r9.2) := by kernel_rfl
noncomputable def spec_l20AnyStore_j1 (e : Env) (w : World) : Option (Value × World) := exC P (EV P) 67 32 (cB (cB (cB (bodyOf P 67)))) e w (kFn P (fnOf P 67))
theorem spec_l20AnyStore_j1_eq (e : Env) (w : World) : spec_l20AnyStore_j1 e w =
 (ld P 43 (e 3) w).bind fun r1 =>
 (st P 43 (e 2) r1.1 r1.2).bind fun r2 =>
 ((ld P 43 (e 2) r2.2).bind fun r3 => ifP (r3.2 = r2.2) (some r3.1)).bind fun v4 =>
 some (v4, r2.2) := by kernel_rfl
theorem spec_l20AnyStore_fn (x0 : Value) (w : World) : fnC P (EV P) 67 #[x0] w =
 (al P 43 w).bind fun r1 =>
 (vl x0 r1.2).bind fun r2 =>
 (EV P 105 #[r2.1] r2.2).bind fun r3 =>
 (al P 43 r3.2).bind fun r4 =>
 (st P 43 r4.1 r3.1 r4.2).bind fun r5 =>
 (vl x0 r5.2).bind fun r6 =>
 (EV P 82 #[r6.1, (.int .i64 10)] r6.2).bind fun r7 =>
 (bo P .eql 3 (.tmp 7) (.const (.int .i64 0)) r7.1 (.int .i64 0) r7.2).bind fun r8 =>
 (vl r8.1 r8.2).bind fun r9 =>
 cnd r9.1 (
 (fa P 43 r4.1 0 r9.2).bind fun r10 =>
 (ld P 41 r10.1 r10.2).bind fun r11 =>
 (sl P 41 r11.1 (some (.int .i64 1)) none none r11.2).bind fun r12 =>
 (fa P 43 r4.1 0 r12.2).bind fun r13 =>
 (st P 41 r13.1 r12.1 r13.2).bind fun r14 =>
 spec_l20AnyStore_j1 (ups (env0 #[x0]) [(2, r1.1), (4, r2.1), (5, r3.1), (3, r4.1), (6, r6.1), (7, r7.1), (9, r8.1), (8, r9.1), (10, r10.1), (11, r11.1), (12, r12.1), (13, r13.1)]) r14.2) (
 (bo P .eql 3 (.tmp 7) (.const (.int .i64 1)) r7.1 (.int .i64 1) r9.2).bind fun r15 =>
 (vl r15.1 r15.2).bind fun r16 =>
 cnd r16.1 (
 (fa P 43 r4.1 0 (dw r16.2)).bind fun r18 =>
 ifP (r18.2 = (dw r16.2)) <|
 (ld P 41 r18.1 (dw r16.2)).bind fun r19 =>
 ifP (r19.2 = (dw r16.2)) <|
 (vl x0 (dw r16.2)).bind fun r20 =>
 ifP (r20.2 = (dw r16.2)) <|
 (vl x0 (dw r16.2)).bind fun r21 =>
 ifP (r21.2 = (dw r16.2)) <|
 (EV P 82 #[r20.1, (.int .i64 4)] (dw r16.2)).bind fun r22 =>
 ifP (ld P 41 r18.1 r22.2 = some (r19.1, r22.2) ∧ fa P 43 r4.1 0 r22.2 = some (r18.1, r22.2) ∧ True) <|
 (EV P 40 #[r21.1] r22.2).bind fun r23 =>
 ifP (ld P 41 r18.1 r23.2 = some (r19.1, r23.2) ∧ fa P 43 r4.1 0 r23.2 = some (r18.1, r23.2) ∧ True) <|
 (ia P 41 r19.1 r22.1 r23.2).bind fun r24 =>
 ifP (r24.2 = r23.2) <|
 (st P 32 r24.1 r23.1 r23.2).bind fun r25 =>
 ifP (True ∧ True ∧ True ∧ True) <|
 spec_l20AnyStore_j1 (ups (env0 #[x0]) [(2, r1.1), (4, r2.1), (5, r3.1), (3, r4.1), (6, r6.1), (7, r7.1), (9, r8.1), (8, r9.1), (15, r15.1), (14, r16.1), (16, r18.1), (17, r19.1), (18, r20.1), (20, r21.1), (19, r22.1), (21, r23.1), (22, r24.1)]) r25.2) (
 (bo P .eql 3 (.tmp 7) (.const (.int .i64 2)) r7.1 (.int .i64 2) r16.2).bind fun r26 =>
 (vl r26.1 r26.2).bind fun r27 =>
 cnd r27.1 (
 (fa P 43 r4.1 0 (dw r27.2)).bind fun r29 =>
 ifP (r29.2 = (dw r27.2)) <|
 (ld P 41 r29.1 (dw r27.2)).bind fun r30 =>
 ifP (r30.2 = (dw r27.2)) <|
 (vl x0 (dw r27.2)).bind fun r31 =>
 ifP (r31.2 = (dw r27.2)) <|
 (bd P 32 #[(3, (Go.Value.string { data := #[120] }))] (dw r27.2)).bind fun r32 =>
 ifP (r32.2 = (dw r27.2)) <|
 (EV P 82 #[r31.1, (.int .i64 4)] (dw r27.2)).bind fun r33 =>
 ifP (bd P 32 #[(3, (Go.Value.string { data := #[120] }))] r33.2 = some (r32.1, r33.2) ∧ ld P 41 r29.1 r33.2 = some (r30.1, r33.2) ∧ fa P 43 r4.1 0 r33.2 = some (r29.1, r33.2) ∧ True) <|
 (ia P 41 r30.1 r33.1 r33.2).bind fun r34 =>
 ifP (r34.2 = r33.2) <|
 (st P 32 r34.1 r32.1 r33.2).bind fun r35 =>
 ifP (True ∧ True ∧ True ∧ True ∧ True) <|
 spec_l20AnyStore_j1 (ups (env0 #[x0]) [(2, r1.1), (4, r2.1), (5, r3.1), (3, r4.1), (6, r6.1), (7, r7.1), (9, r8.1), (8, r9.1), (15, r15.1), (14, r16.1), (24, r26.1), (23, r27.1), (25, r29.1), (26, r30.1), (27, r31.1), (29, r32.1), (28, r33.1), (30, r34.1)]) r35.2) (
 spec_l20AnyStore_j1 (ups (env0 #[x0]) [(2, r1.1), (4, r2.1), (5, r3.1), (3, r4.1), (6, r6.1), (7, r7.1), (9, r8.1), (8, r9.1), (15, r15.1), (14, r16.1), (24, r26.1), (23, r27.1)]) r27.2))) := by kernel_rfl
end Go.Proofs.Ytjagkbamkohnoaa.X
