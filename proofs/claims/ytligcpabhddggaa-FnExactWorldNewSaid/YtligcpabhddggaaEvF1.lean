/- A part of the proof: an evaluator of the model, its laws, and contracts of functions; no condition. -/
import Derived.Test.YtligcpabhddggaaEvT
set_option linter.unusedVariables false
set_option maxRecDepth 100000
namespace Go.Proofs.Ytligcpabhddggaa.X
open Go Go.Ev
noncomputable def laws_markVerS_l1 (e : Env) (w : World) : Option (Value × World) := exC P (EV P) 36 61 (.loop (cA (cA (cB (cA (cB (bodyOf P 36))))))) e w (kBlock 0 (kSeq P (EV P) 36 61 (cB (cB (bodyOf P 36))) (kFn P (fnOf P 36))))
theorem laws_markVerS_l1_eq (e : Env) (w : World) : laws_markVerS_l1 e w =
 (vl (e 5) w).bind fun r1 =>
 (vl (e 0) r1.2).bind fun r2 =>
 (b_len P #[44] 3 #[r2.1] r2.2).bind fun r3 =>
 (bo P .lss 3 (.tmp 6) (.tmp 8) r1.1 r3.1 r3.2).bind fun r4 =>
 cnd r4.1 (
 (vl (e 0) r4.2).bind fun r5 =>
 (vl (e 5) r5.2).bind fun r6 =>
 (vl (e 1) r6.2).bind fun r7 =>
 (ia P 44 r5.1 r6.1 r7.2).bind fun r8 =>
 (fa P 62 r8.1 0 r8.2).bind fun r9 =>
 (st P 3 r9.1 r7.1 r9.2).bind fun r10 =>
 (vl (e 1) r10.2).bind fun r11 =>
 (bo P .add 3 (.tmp 17) (.const (.int .i64 1)) r11.1 (.int .i64 1) r11.2).bind fun r12 =>
 (vl r12.1 r12.2).bind fun r13 =>
 (vl (e 0) r13.2).bind fun r14 =>
 (vl (e 5) r14.2).bind fun r15 =>
 (vl r13.1 r15.2).bind fun r16 =>
 (ia P 44 r14.1 r15.1 r16.2).bind fun r17 =>
 (fa P 62 r17.1 1 r17.2).bind fun r18 =>
 (fa P 54 r18.1 0 r18.2).bind fun r19 =>
 (st P 3 r19.1 r16.1 r19.2).bind fun r20 =>
 (vl r13.1 r20.2).bind fun r21 =>
 (bo P .add 3 (.tmp 25) (.const (.int .i64 1)) r21.1 (.int .i64 1) r21.2).bind fun r22 =>
 (vl r22.1 r22.2).bind fun r23 =>
 (vl (e 0) r23.2).bind fun r24 =>
 (vl (e 5) r24.2).bind fun r25 =>
 (vl r23.1 r25.2).bind fun r26 =>
 (ia P 44 r24.1 r25.1 r26.2).bind fun r27 =>
 (fa P 62 r27.1 1 r27.2).bind fun r28 =>
 (fa P 54 r28.1 1 r28.2).bind fun r29 =>
 (st P 3 r29.1 r26.1 r29.2).bind fun r30 =>
 (vl r23.1 r30.2).bind fun r31 =>
 (bo P .add 3 (.tmp 33) (.const (.int .i64 1)) r31.1 (.int .i64 1) r31.2).bind fun r32 =>
 (vl r32.1 r32.2).bind fun r33 =>
 (vl (e 0) r33.2).bind fun r34 =>
 (vl (e 5) r34.2).bind fun r35 =>
 (ia P 44 r34.1 r35.1 r35.2).bind fun r36 =>
 (fa P 62 r36.1 2 r36.2).bind fun r37 =>
 (fa P 51 r37.1 0 r37.2).bind fun r38 =>
 (ld P 49 r38.1 r38.2).bind fun r39 =>
 (vl r33.1 r39.2).bind fun r40 =>
 (EV P 38 #[r39.1, r40.1] r40.2).bind fun r41 =>
 (vl r41.1 r41.2).bind fun r42 =>
 (vl (e 0) r42.2).bind fun r43 =>
 (vl (e 5) r43.2).bind fun r44 =>
 (vl r42.1 r44.2).bind fun r45 =>
 (EV P 39 #[r45.1] r45.2).bind fun r46 =>
 (ia P 44 r43.1 r44.1 r46.2).bind fun r47 =>
 (fa P 62 r47.1 3 r47.2).bind fun r48 =>
 (st P 9 r48.1 r46.1 r48.2).bind fun r49 =>
 (vl r42.1 r49.2).bind fun r50 =>
 (bo P .add 3 (.tmp 49) (.const (.int .i64 1)) r50.1 (.int .i64 1) r50.2).bind fun r51 =>
 (vl r51.1 r51.2).bind fun r52 =>
 (vl (e 0) r52.2).bind fun r53 =>
 (vl (e 5) r53.2).bind fun r54 =>
 (vl r52.1 r54.2).bind fun r55 =>
 (bo P .rem 3 (.tmp 53) (.const (.int .i64 3)) r55.1 (.int .i64 3) r55.2).bind fun r56 =>
 (bo P .eql 3 (.tmp 54) (.const (.int .i64 0)) r56.1 (.int .i64 0) r56.2).bind fun r57 =>
 (ia P 44 r53.1 r54.1 r57.2).bind fun r58 =>
 (fa P 62 r58.1 4 r58.2).bind fun r59 =>
 (st P 4 r59.1 r57.1 r59.2).bind fun r60 =>
 (vl r52.1 r60.2).bind fun r61 =>
 (bo P .add 3 (.tmp 58) (.const (.int .i64 1)) r61.1 (.int .i64 1) r61.2).bind fun r62 =>
 (vl r62.1 r62.2).bind fun r63 =>
 (vl (e 5) r63.2).bind fun r64 =>
 (bo P .add 3 (.tmp 10) (.const (.int .i64 1)) r64.1 (.int .i64 1) r64.2).bind fun r65 =>
 (vl r65.1 r65.2).bind fun r66 =>
 laws_markVerS_l1 (ups e [(6, r1.1), (7, r2.1), (8, r3.1), (9, r4.1), (12, r5.1), (13, r6.1), (14, r7.1), (15, r8.1), (16, r9.1), (17, r11.1), (18, r12.1), (1, r13.1), (19, r14.1), (20, r15.1), (21, r16.1), (22, r17.1), (23, r18.1), (24, r19.1), (25, r21.1), (26, r22.1), (1, r23.1), (27, r24.1), (28, r25.1), (29, r26.1), (30, r27.1), (31, r28.1), (32, r29.1), (33, r31.1), (34, r32.1), (1, r33.1), (35, r34.1), (36, r35.1), (37, r36.1), (38, r37.1), (39, r38.1), (40, r39.1), (41, r40.1), (42, r41.1), (1, r42.1), (43, r43.1), (44, r44.1), (45, r45.1), (46, r46.1), (47, r47.1), (48, r48.1), (49, r50.1), (50, r51.1), (1, r52.1), (51, r53.1), (52, r54.1), (53, r55.1), (54, r56.1), (55, r57.1), (56, r58.1), (57, r59.1), (58, r61.1), (59, r62.1), (1, r63.1), (10, r64.1), (11, r65.1), (5, r66.1)]) r66.2) (
 (vl (e 1) r4.2).bind fun r67 =>
 (vl r67.1 r67.2).bind fun r68 =>
 some (r68.1, r68.2)) := (exC_loop P (EV P) 36 61 (cA (cA (cB (cA (cB (bodyOf P 36)))))) e w (kBlock 0 (kSeq P (EV P) 36 61 (cB (cB (bodyOf P 36))) (kFn P (fnOf P 36))))).trans (by kernel_rfl)
theorem laws_markVerS_fn (x0 x1 : Value) (w : World) : fnC P (EV P) 36 #[x0, x1] w =
 (vl (.int .i64 0) w).bind fun r1 =>
 (vl (.int .i64 0) r1.2).bind fun r2 =>
 laws_markVerS_l1 (ups (env0 #[x0, x1]) [(4, r1.1), (5, r2.1)]) r2.2 := by kernel_rfl
noncomputable def laws_markVerSS_l1 (e : Env) (w : World) : Option (Value × World) := exC P (EV P) 37 19 (.loop (cA (cA (cB (cA (cB (bodyOf P 37))))))) e w (kBlock 0 (kSeq P (EV P) 37 19 (cB (cB (bodyOf P 37))) (kFn P (fnOf P 37))))
theorem laws_markVerSS_l1_eq (e : Env) (w : World) : laws_markVerSS_l1 e w =
 (vl (e 5) w).bind fun r1 =>
 (vl (e 0) r1.2).bind fun r2 =>
 (b_len P #[45] 3 #[r2.1] r2.2).bind fun r3 =>
 (bo P .lss 3 (.tmp 6) (.tmp 8) r1.1 r3.1 r3.2).bind fun r4 =>
 cnd r4.1 (
 (vl (e 0) r4.2).bind fun r5 =>
 (vl (e 5) r5.2).bind fun r6 =>
 (ia P 45 r5.1 r6.1 r6.2).bind fun r7 =>
 (ld P 44 r7.1 r7.2).bind fun r8 =>
 (vl (e 1) r8.2).bind fun r9 =>
 (EV P 36 #[r8.1, r9.1] r9.2).bind fun r10 =>
 (vl r10.1 r10.2).bind fun r11 =>
 (vl (e 5) r11.2).bind fun r12 =>
 (bo P .add 3 (.tmp 10) (.const (.int .i64 1)) r12.1 (.int .i64 1) r12.2).bind fun r13 =>
 (vl r13.1 r13.2).bind fun r14 =>
 laws_markVerSS_l1 (ups e [(6, r1.1), (7, r2.1), (8, r3.1), (9, r4.1), (12, r5.1), (13, r6.1), (14, r7.1), (15, r8.1), (16, r9.1), (17, r10.1), (1, r11.1), (10, r12.1), (11, r13.1), (5, r14.1)]) r14.2) (
 (vl (e 1) r4.2).bind fun r15 =>
 (vl r15.1 r15.2).bind fun r16 =>
 some (r16.1, r16.2)) := (exC_loop P (EV P) 37 19 (cA (cA (cB (cA (cB (bodyOf P 37)))))) e w (kBlock 0 (kSeq P (EV P) 37 19 (cB (cB (bodyOf P 37))) (kFn P (fnOf P 37))))).trans (by kernel_rfl)
theorem laws_markVerSS_fn (x0 x1 : Value) (w : World) : fnC P (EV P) 37 #[x0, x1] w =
 (vl (.int .i64 0) w).bind fun r1 =>
 (vl (.int .i64 0) r1.2).bind fun r2 =>
 laws_markVerSS_l1 (ups (env0 #[x0, x1]) [(4, r1.1), (5, r2.1)]) r2.2 := by kernel_rfl
noncomputable def laws_markTagS_l1 (e : Env) (w : World) : Option (Value × World) := exC P (EV P) 38 27 (.loop (cA (cA (cB (cA (cB (bodyOf P 38))))))) e w (kBlock 0 (kSeq P (EV P) 38 27 (cB (cB (bodyOf P 38))) (kFn P (fnOf P 38))))
theorem laws_markTagS_l1_eq (e : Env) (w : World) : laws_markTagS_l1 e w =
 (vl (e 5) w).bind fun r1 =>
 (vl (e 0) r1.2).bind fun r2 =>
 (b_len P #[49] 3 #[r2.1] r2.2).bind fun r3 =>
 (bo P .lss 3 (.tmp 6) (.tmp 8) r1.1 r3.1 r3.2).bind fun r4 =>
 cnd r4.1 (
 (vl (e 0) r4.2).bind fun r5 =>
 (vl (e 5) r5.2).bind fun r6 =>
 (vl (e 1) r6.2).bind fun r7 =>
 (ia P 49 r5.1 r6.1 r7.2).bind fun r8 =>
 (fa P 54 r8.1 0 r8.2).bind fun r9 =>
 (st P 3 r9.1 r7.1 r9.2).bind fun r10 =>
 (vl (e 1) r10.2).bind fun r11 =>
 (bo P .add 3 (.tmp 17) (.const (.int .i64 1)) r11.1 (.int .i64 1) r11.2).bind fun r12 =>
 (vl r12.1 r12.2).bind fun r13 =>
 (vl (e 0) r13.2).bind fun r14 =>
 (vl (e 5) r14.2).bind fun r15 =>
 (vl r13.1 r15.2).bind fun r16 =>
 (ia P 49 r14.1 r15.1 r16.2).bind fun r17 =>
 (fa P 54 r17.1 1 r17.2).bind fun r18 =>
 (st P 3 r18.1 r16.1 r18.2).bind fun r19 =>
 (vl r13.1 r19.2).bind fun r20 =>
 (bo P .add 3 (.tmp 24) (.const (.int .i64 1)) r20.1 (.int .i64 1) r20.2).bind fun r21 =>
 (vl r21.1 r21.2).bind fun r22 =>
 (vl (e 5) r22.2).bind fun r23 =>
 (bo P .add 3 (.tmp 10) (.const (.int .i64 1)) r23.1 (.int .i64 1) r23.2).bind fun r24 =>
 (vl r24.1 r24.2).bind fun r25 =>
 laws_markTagS_l1 (ups e [(6, r1.1), (7, r2.1), (8, r3.1), (9, r4.1), (12, r5.1), (13, r6.1), (14, r7.1), (15, r8.1), (16, r9.1), (17, r11.1), (18, r12.1), (1, r13.1), (19, r14.1), (20, r15.1), (21, r16.1), (22, r17.1), (23, r18.1), (24, r20.1), (25, r21.1), (1, r22.1), (10, r23.1), (11, r24.1), (5, r25.1)]) r25.2) (
 (vl (e 1) r4.2).bind fun r26 =>
 (vl r26.1 r26.2).bind fun r27 =>
 some (r27.1, r27.2)) := (exC_loop P (EV P) 38 27 (cA (cA (cB (cA (cB (bodyOf P 38)))))) e w (kBlock 0 (kSeq P (EV P) 38 27 (cB (cB (bodyOf P 38))) (kFn P (fnOf P 38))))).trans (by kernel_rfl)
theorem laws_markTagS_fn (x0 x1 : Value) (w : World) : fnC P (EV P) 38 #[x0, x1] w =
 (vl (.int .i64 0) w).bind fun r1 =>
 (vl (.int .i64 0) r1.2).bind fun r2 =>
 laws_markTagS_l1 (ups (env0 #[x0, x1]) [(4, r1.1), (5, r2.1)]) r2.2 := by kernel_rfl
noncomputable def laws_markText_l1 (e : Env) (w : World) : Option (Value × World) := exC P (EV P) 39 20 (.loop (cA (cA (cA (cB (cB (cB (bodyOf P 39)))))))) e w (kBlock 0 (kSeq P (EV P) 39 20 (cB (cB (cB (cB (bodyOf P 39))))) (kFn P (fnOf P 39))))
theorem laws_markText_l1_eq (e : Env) (w : World) : laws_markText_l1 e w =
 (vl (e 0) w).bind fun r1 =>
 (bo P .gtr 3 (.tmp 6) (.const (.int .i64 0)) r1.1 (.int .i64 0) r1.2).bind fun r2 =>
 cnd r2.1 (
 (vl (e 0) r2.2).bind fun r3 =>
 (bo P .rem 3 (.tmp 8) (.const (.int .i64 10)) r3.1 (.int .i64 10) r3.2).bind fun r4 =>
 (bo P .add 3 (.const (.int .i64 48)) (.tmp 9) (.int .i64 48) r4.1 r4.2).bind fun r5 =>
 (cv P 3 5 r5.1 r5.2).bind fun r6 =>
 (bs P 84 1 #[(0, r6.1)] r6.2).bind fun r7 =>
 (cv P 84 9 r7.1 r7.2).bind fun r8 =>
 (vl (e 3) r8.2).bind fun r9 =>
 (bo P .add 9 (.tmp 13) (.tmp 14) r8.1 r9.1 r9.2).bind fun r10 =>
 (vl r10.1 r10.2).bind fun r11 =>
 (vl (e 0) r11.2).bind fun r12 =>
 (bo P .quo 3 (.tmp 16) (.const (.int .i64 10)) r12.1 (.int .i64 10) r12.2).bind fun r13 =>
 (vl r13.1 r13.2).bind fun r14 =>
 laws_markText_l1 (ups e [(6, r1.1), (7, r2.1), (8, r3.1), (9, r4.1), (10, r5.1), (11, r6.1), (12, r7.1), (13, r8.1), (14, r9.1), (15, r10.1), (3, r11.1), (16, r12.1), (17, r13.1), (0, r14.1)]) r14.2) (
 (vl (e 3) r2.2).bind fun r15 =>
 (bo P .add 9 (.const (Go.Value.string { data := #[109] })) (.tmp 18) (Go.Value.string { data := #[109] }) r15.1 r15.2).bind fun r16 =>
 (vl r16.1 r16.2).bind fun r17 =>
 some (r17.1, r17.2)) := (exC_loop P (EV P) 39 20 (cA (cA (cA (cB (cB (cB (bodyOf P 39))))))) e w (kBlock 0 (kSeq P (EV P) 39 20 (cB (cB (cB (cB (bodyOf P 39))))) (kFn P (fnOf P 39))))).trans (by kernel_rfl)
theorem laws_markText_fn (x0 : Value) (w : World) : fnC P (EV P) 39 #[x0] w =
 (vl (Go.Value.string { data := #[] }) w).bind fun r1 =>
 (vl x0 r1.2).bind fun r2 =>
 (bo P .leq 3 (.tmp 4) (.const (.int .i64 0)) r2.1 (.int .i64 0) r2.2).bind fun r3 =>
 cnd r3.1 (
 (vl (Go.Value.string { data := #[109, 48] }) r3.2).bind fun r4 =>
 some (r4.1, r4.2)) (
 (vl (Go.Value.string { data := #[] }) r3.2).bind fun r5 =>
 laws_markText_l1 (ups (env0 #[x0]) [(2, r1.1), (4, r2.1), (5, r3.1), (3, r5.1)]) r5.2) := by kernel_rfl
noncomputable def laws_heldNodeS_l1 (e : Env) (w : World) : Option (Value × World) := exC P (EV P) 40 32 (.loop (cA (cA (cB (cA (cB (bodyOf P 40))))))) e w (kBlock 0 (kSeq P (EV P) 40 32 (cB (cB (bodyOf P 40))) (kFn P (fnOf P 40))))
theorem laws_heldNodeS_l1_eq (e : Env) (w : World) : laws_heldNodeS_l1 e w =
 (vl (e 5) w).bind fun r1 =>
 (vl (e 0) r1.2).bind fun r2 =>
 (b_len P #[41] 3 #[r2.1] r2.2).bind fun r3 =>
 (bo P .lss 3 (.tmp 6) (.tmp 8) r1.1 r3.1 r3.2).bind fun r4 =>
 cnd r4.1 (
 (vl (e 0) r4.2).bind fun r5 =>
 (vl (e 5) r5.2).bind fun r6 =>
 (ia P 41 r5.1 r6.1 r6.2).bind fun r7 =>
 (fa P 83 r7.1 0 r7.2).bind fun r8 =>
 (fa P 81 r8.1 0 r8.2).bind fun r9 =>
 (ld P 44 r9.1 r9.2).bind fun r10 =>
 (vl (e 1) r10.2).bind fun r11 =>
 (EV P 41 #[r10.1, r11.1] r11.2).bind fun r12 =>
 (vl r12.1 r12.2).bind fun r13 =>
 (vl r13.1 r13.2).bind fun r14 =>
 (bo P .lss 3 (.tmp 20) (.const (.int .i64 0)) r14.1 (.int .i64 0) r14.2).bind fun r15 =>
 cnd r15.1 (
 (vl (.int .i64 (-1)) r15.2).bind fun r16 =>
 some (r16.1, r16.2)) (
 (vl (e 0) r15.2).bind fun r17 =>
 (vl (e 5) r17.2).bind fun r18 =>
 (ia P 41 r17.1 r18.1 r18.2).bind fun r19 =>
 (fa P 83 r19.1 1 r19.2).bind fun r20 =>
 (ld P 44 r20.1 r20.2).bind fun r21 =>
 (vl r13.1 r21.2).bind fun r22 =>
 (EV P 41 #[r21.1, r22.1] r22.2).bind fun r23 =>
 (vl r23.1 r23.2).bind fun r24 =>
 (vl r24.1 r24.2).bind fun r25 =>
 (bo P .lss 3 (.tmp 29) (.const (.int .i64 0)) r25.1 (.int .i64 0) r25.2).bind fun r26 =>
 cnd r26.1 (
 (vl (.int .i64 (-1)) r26.2).bind fun r27 =>
 some (r27.1, r27.2)) (
 (vl (e 5) r26.2).bind fun r28 =>
 (bo P .add 3 (.tmp 10) (.const (.int .i64 1)) r28.1 (.int .i64 1) r28.2).bind fun r29 =>
 (vl r29.1 r29.2).bind fun r30 =>
 laws_heldNodeS_l1 (ups e [(6, r1.1), (7, r2.1), (8, r3.1), (9, r4.1), (12, r5.1), (13, r6.1), (14, r7.1), (15, r8.1), (16, r9.1), (17, r10.1), (18, r11.1), (19, r12.1), (1, r13.1), (20, r14.1), (21, r15.1), (22, r17.1), (23, r18.1), (24, r19.1), (25, r20.1), (26, r21.1), (27, r22.1), (28, r23.1), (1, r24.1), (29, r25.1), (30, r26.1), (10, r28.1), (11, r29.1), (5, r30.1)]) r30.2))) (
 (vl (e 1) r4.2).bind fun r31 =>
 (vl r31.1 r31.2).bind fun r32 =>
 some (r32.1, r32.2)) := (exC_loop P (EV P) 40 32 (cA (cA (cB (cA (cB (bodyOf P 40)))))) e w (kBlock 0 (kSeq P (EV P) 40 32 (cB (cB (bodyOf P 40))) (kFn P (fnOf P 40))))).trans (by kernel_rfl)
theorem laws_heldNodeS_fn (x0 x1 : Value) (w : World) : fnC P (EV P) 40 #[x0, x1] w =
 (vl (.int .i64 0) w).bind fun r1 =>
 (vl (.int .i64 0) r1.2).bind fun r2 =>
 laws_heldNodeS_l1 (ups (env0 #[x0, x1]) [(4, r1.1), (5, r2.1)]) r2.2 := by kernel_rfl
noncomputable def laws_heldVerS_l1 (e : Env) (w : World) : Option (Value × World) := exC P (EV P) 41 73 (.loop (cA (cA (cB (cA (cB (bodyOf P 41))))))) e w (kBlock 0 (kSeq P (EV P) 41 73 (cB (cB (bodyOf P 41))) (kFn P (fnOf P 41))))
theorem laws_heldVerS_l1_eq (e : Env) (w : World) : laws_heldVerS_l1 e w =
 (vl (e 5) w).bind fun r1 =>
 (vl (e 0) r1.2).bind fun r2 =>
 (b_len P #[44] 3 #[r2.1] r2.2).bind fun r3 =>
 (bo P .lss 3 (.tmp 6) (.tmp 8) r1.1 r3.1 r3.2).bind fun r4 =>
 cnd r4.1 (
 (vl (e 0) r4.2).bind fun r5 =>
 (vl (e 5) r5.2).bind fun r6 =>
 (ia P 44 r5.1 r6.1 r6.2).bind fun r7 =>
 (fa P 62 r7.1 0 r7.2).bind fun r8 =>
 (ld P 3 r8.1 r8.2).bind fun r9 =>
 (vl (e 1) r9.2).bind fun r10 =>
 (bo P .neq 3 (.tmp 16) (.tmp 17) r9.1 r10.1 r10.2).bind fun r11 =>
 cnd r11.1 (
 (vl (.int .i64 (-1)) r11.2).bind fun r12 =>
 some (r12.1, r12.2)) (
 (vl (e 1) r11.2).bind fun r13 =>
 (bo P .add 3 (.tmp 19) (.const (.int .i64 1)) r13.1 (.int .i64 1) r13.2).bind fun r14 =>
 (vl r14.1 r14.2).bind fun r15 =>
 (vl (e 0) r15.2).bind fun r16 =>
 (vl (e 5) r16.2).bind fun r17 =>
 (ia P 44 r16.1 r17.1 r17.2).bind fun r18 =>
 (fa P 62 r18.1 1 r18.2).bind fun r19 =>
 (fa P 54 r19.1 0 r19.2).bind fun r20 =>
 (ld P 3 r20.1 r20.2).bind fun r21 =>
 (vl r15.1 r21.2).bind fun r22 =>
 (bo P .neq 3 (.tmp 26) (.tmp 27) r21.1 r22.1 r22.2).bind fun r23 =>
 cnd r23.1 (
 (vl (.int .i64 (-1)) r23.2).bind fun r24 =>
 some (r24.1, r24.2)) (
 (vl r15.1 r23.2).bind fun r25 =>
 (bo P .add 3 (.tmp 29) (.const (.int .i64 1)) r25.1 (.int .i64 1) r25.2).bind fun r26 =>
 (vl r26.1 r26.2).bind fun r27 =>
 (vl (e 0) r27.2).bind fun r28 =>
 (vl (e 5) r28.2).bind fun r29 =>
 (ia P 44 r28.1 r29.1 r29.2).bind fun r30 =>
 (fa P 62 r30.1 1 r30.2).bind fun r31 =>
 (fa P 54 r31.1 1 r31.2).bind fun r32 =>
 (ld P 3 r32.1 r32.2).bind fun r33 =>
 (vl r27.1 r33.2).bind fun r34 =>
 (bo P .neq 3 (.tmp 36) (.tmp 37) r33.1 r34.1 r34.2).bind fun r35 =>
 cnd r35.1 (
 (vl (.int .i64 (-1)) r35.2).bind fun r36 =>
 some (r36.1, r36.2)) (
 (vl r27.1 r35.2).bind fun r37 =>
 (bo P .add 3 (.tmp 39) (.const (.int .i64 1)) r37.1 (.int .i64 1) r37.2).bind fun r38 =>
 (vl r38.1 r38.2).bind fun r39 =>
 (vl (e 0) r39.2).bind fun r40 =>
 (vl (e 5) r40.2).bind fun r41 =>
 (ia P 44 r40.1 r41.1 r41.2).bind fun r42 =>
 (fa P 62 r42.1 2 r42.2).bind fun r43 =>
 (fa P 51 r43.1 0 r43.2).bind fun r44 =>
 (ld P 49 r44.1 r44.2).bind fun r45 =>
 (vl r39.1 r45.2).bind fun r46 =>
 (EV P 43 #[r45.1, r46.1] r46.2).bind fun r47 =>
 (vl r47.1 r47.2).bind fun r48 =>
 (vl r48.1 r48.2).bind fun r49 =>
 (bo P .lss 3 (.tmp 49) (.const (.int .i64 0)) r49.1 (.int .i64 0) r49.2).bind fun r50 =>
 cnd r50.1 (
 (vl (.int .i64 (-1)) r50.2).bind fun r51 =>
 some (r51.1, r51.2)) (
 (vl (e 0) (dw r50.2)).bind fun r53 =>
 ifP (r53.2 = (dw r50.2)) <|
 (vl (e 5) (dw r50.2)).bind fun r54 =>
 ifP (r54.2 = (dw r50.2)) <|
 (ia P 44 r53.1 r54.1 (dw r50.2)).bind fun r55 =>
 ifP (r55.2 = (dw r50.2)) <|
 (fa P 62 r55.1 3 (dw r50.2)).bind fun r56 =>
 ifP (r56.2 = (dw r50.2)) <|
 (ld P 9 r56.1 (dw r50.2)).bind fun r57 =>
 ifP (r57.2 = (dw r50.2)) <|
 (vl r48.1 (dw r50.2)).bind fun r58 =>
 ifP (r58.2 = (dw r50.2)) <|
 (EV P 39 #[r58.1] (dw r50.2)).bind fun r59 =>
 ifP (ld P 9 r56.1 r59.2 = some (r57.1, r59.2) ∧ fa P 62 r55.1 3 r59.2 = some (r56.1, r59.2) ∧ ia P 44 r53.1 r54.1 r59.2 = some (r55.1, r59.2) ∧ True) <|
 (bo P .neq 9 (.tmp 55) (.tmp 57) r57.1 r59.1 r59.2).bind fun r60 =>
 ifP (r60.2 = r59.2) <|
 cnd r60.1 (
 (vl (.int .i64 (-1)) r59.2).bind fun r61 =>
 some (r61.1, r61.2)) (
 (vl r48.1 r59.2).bind fun r62 =>
 (bo P .add 3 (.tmp 59) (.const (.int .i64 1)) r62.1 (.int .i64 1) r62.2).bind fun r63 =>
 (vl r63.1 r63.2).bind fun r64 =>
 (vl (e 0) r64.2).bind fun r65 =>
 (vl (e 5) r65.2).bind fun r66 =>
 (ia P 44 r65.1 r66.1 r66.2).bind fun r67 =>
 (fa P 62 r67.1 4 r67.2).bind fun r68 =>
 (ld P 4 r68.1 r68.2).bind fun r69 =>
 (vl r64.1 r69.2).bind fun r70 =>
 (bo P .rem 3 (.tmp 66) (.const (.int .i64 3)) r70.1 (.int .i64 3) r70.2).bind fun r71 =>
 (bo P .eql 3 (.tmp 67) (.const (.int .i64 0)) r71.1 (.int .i64 0) r71.2).bind fun r72 =>
 (bo P .neq 4 (.tmp 65) (.tmp 68) r69.1 r72.1 r72.2).bind fun r73 =>
 cnd r73.1 (
 (vl (.int .i64 (-1)) r73.2).bind fun r74 =>
 some (r74.1, r74.2)) (
 (vl r64.1 r73.2).bind fun r75 =>
 (bo P .add 3 (.tmp 70) (.const (.int .i64 1)) r75.1 (.int .i64 1) r75.2).bind fun r76 =>
 (vl r76.1 r76.2).bind fun r77 =>
 (vl (e 5) r77.2).bind fun r78 =>
 (bo P .add 3 (.tmp 10) (.const (.int .i64 1)) r78.1 (.int .i64 1) r78.2).bind fun r79 =>
 (vl r79.1 r79.2).bind fun r80 =>
 laws_heldVerS_l1 (ups e [(6, r1.1), (7, r2.1), (8, r3.1), (9, r4.1), (12, r5.1), (13, r6.1), (14, r7.1), (15, r8.1), (16, r9.1), (17, r10.1), (18, r11.1), (19, r13.1), (20, r14.1), (1, r15.1), (21, r16.1), (22, r17.1), (23, r18.1), (24, r19.1), (25, r20.1), (26, r21.1), (27, r22.1), (28, r23.1), (29, r25.1), (30, r26.1), (1, r27.1), (31, r28.1), (32, r29.1), (33, r30.1), (34, r31.1), (35, r32.1), (36, r33.1), (37, r34.1), (38, r35.1), (39, r37.1), (40, r38.1), (1, r39.1), (41, r40.1), (42, r41.1), (43, r42.1), (44, r43.1), (45, r44.1), (46, r45.1), (47, r46.1), (48, r47.1), (1, r48.1), (49, r49.1), (50, r50.1), (51, r53.1), (52, r54.1), (53, r55.1), (54, r56.1), (55, r57.1), (56, r58.1), (57, r59.1), (58, r60.1), (59, r62.1), (60, r63.1), (1, r64.1), (61, r65.1), (62, r66.1), (63, r67.1), (64, r68.1), (65, r69.1), (66, r70.1), (67, r71.1), (68, r72.1), (69, r73.1), (70, r75.1), (71, r76.1), (1, r77.1), (10, r78.1), (11, r79.1), (5, r80.1)]) r80.2))))))) (
 (vl (e 1) r4.2).bind fun r81 =>
 (vl r81.1 r81.2).bind fun r82 =>
 some (r82.1, r82.2)) := (exC_loop P (EV P) 41 73 (cA (cA (cB (cA (cB (bodyOf P 41)))))) e w (kBlock 0 (kSeq P (EV P) 41 73 (cB (cB (bodyOf P 41))) (kFn P (fnOf P 41))))).trans (by kernel_rfl)
theorem laws_heldVerS_fn (x0 x1 : Value) (w : World) : fnC P (EV P) 41 #[x0, x1] w =
 (vl (.int .i64 0) w).bind fun r1 =>
 (vl (.int .i64 0) r1.2).bind fun r2 =>
 laws_heldVerS_l1 (ups (env0 #[x0, x1]) [(4, r1.1), (5, r2.1)]) r2.2 := by kernel_rfl
noncomputable def laws_heldVerSS_l1 (e : Env) (w : World) : Option (Value × World) := exC P (EV P) 42 21 (.loop (cA (cA (cB (cA (cB (bodyOf P 42))))))) e w (kBlock 0 (kSeq P (EV P) 42 21 (cB (cB (bodyOf P 42))) (kFn P (fnOf P 42))))
theorem laws_heldVerSS_l1_eq (e : Env) (w : World) : laws_heldVerSS_l1 e w =
 (vl (e 5) w).bind fun r1 =>
 (vl (e 0) r1.2).bind fun r2 =>
 (b_len P #[45] 3 #[r2.1] r2.2).bind fun r3 =>
 (bo P .lss 3 (.tmp 6) (.tmp 8) r1.1 r3.1 r3.2).bind fun r4 =>
 cnd r4.1 (
 (vl (e 0) r4.2).bind fun r5 =>
 (vl (e 5) r5.2).bind fun r6 =>
 (ia P 45 r5.1 r6.1 r6.2).bind fun r7 =>
 (ld P 44 r7.1 r7.2).bind fun r8 =>
 (vl (e 1) r8.2).bind fun r9 =>
 (EV P 41 #[r8.1, r9.1] r9.2).bind fun r10 =>
 (vl r10.1 r10.2).bind fun r11 =>
 (vl r11.1 r11.2).bind fun r12 =>
 (bo P .lss 3 (.tmp 18) (.const (.int .i64 0)) r12.1 (.int .i64 0) r12.2).bind fun r13 =>
 cnd r13.1 (
 (vl (.int .i64 (-1)) r13.2).bind fun r14 =>
 some (r14.1, r14.2)) (
 (vl (e 5) r13.2).bind fun r15 =>
 (bo P .add 3 (.tmp 10) (.const (.int .i64 1)) r15.1 (.int .i64 1) r15.2).bind fun r16 =>
 (vl r16.1 r16.2).bind fun r17 =>
 laws_heldVerSS_l1 (ups e [(6, r1.1), (7, r2.1), (8, r3.1), (9, r4.1), (12, r5.1), (13, r6.1), (14, r7.1), (15, r8.1), (16, r9.1), (17, r10.1), (1, r11.1), (18, r12.1), (19, r13.1), (10, r15.1), (11, r16.1), (5, r17.1)]) r17.2)) (
 (vl (e 1) r4.2).bind fun r18 =>
 (vl r18.1 r18.2).bind fun r19 =>
 some (r19.1, r19.2)) := (exC_loop P (EV P) 42 21 (cA (cA (cB (cA (cB (bodyOf P 42)))))) e w (kBlock 0 (kSeq P (EV P) 42 21 (cB (cB (bodyOf P 42))) (kFn P (fnOf P 42))))).trans (by kernel_rfl)
theorem laws_heldVerSS_fn (x0 x1 : Value) (w : World) : fnC P (EV P) 42 #[x0, x1] w =
 (vl (.int .i64 0) w).bind fun r1 =>
 (vl (.int .i64 0) r1.2).bind fun r2 =>
 laws_heldVerSS_l1 (ups (env0 #[x0, x1]) [(4, r1.1), (5, r2.1)]) r2.2 := by kernel_rfl
noncomputable def laws_heldTagS_l1 (e : Env) (w : World) : Option (Value × World) := exC P (EV P) 43 31 (.loop (cA (cA (cB (cA (cB (bodyOf P 43))))))) e w (kBlock 0 (kSeq P (EV P) 43 31 (cB (cB (bodyOf P 43))) (kFn P (fnOf P 43))))
theorem laws_heldTagS_l1_eq (e : Env) (w : World) : laws_heldTagS_l1 e w =
 (vl (e 5) w).bind fun r1 =>
 (vl (e 0) r1.2).bind fun r2 =>
 (b_len P #[49] 3 #[r2.1] r2.2).bind fun r3 =>
 (bo P .lss 3 (.tmp 6) (.tmp 8) r1.1 r3.1 r3.2).bind fun r4 =>
 cnd r4.1 (
 (vl (e 0) r4.2).bind fun r5 =>
 (vl (e 5) r5.2).bind fun r6 =>
 (ia P 49 r5.1 r6.1 r6.2).bind fun r7 =>
 (fa P 54 r7.1 0 r7.2).bind fun r8 =>
 (ld P 3 r8.1 r8.2).bind fun r9 =>
 (vl (e 1) r9.2).bind fun r10 =>
 (bo P .neq 3 (.tmp 16) (.tmp 17) r9.1 r10.1 r10.2).bind fun r11 =>
 cnd r11.1 (
 (vl (.int .i64 (-1)) r11.2).bind fun r12 =>
 some (r12.1, r12.2)) (
 (vl (e 1) r11.2).bind fun r13 =>
 (bo P .add 3 (.tmp 19) (.const (.int .i64 1)) r13.1 (.int .i64 1) r13.2).bind fun r14 =>
 (vl r14.1 r14.2).bind fun r15 =>
 (vl (e 0) r15.2).bind fun r16 =>
 (vl (e 5) r16.2).bind fun r17 =>
 (ia P 49 r16.1 r17.1 r17.2).bind fun r18 =>
 (fa P 54 r18.1 1 r18.2).bind fun r19 =>
 (ld P 3 r19.1 r19.2).bind fun r20 =>
 (vl r15.1 r20.2).bind fun r21 =>
 (bo P .neq 3 (.tmp 25) (.tmp 26) r20.1 r21.1 r21.2).bind fun r22 =>
 cnd r22.1 (
 (vl (.int .i64 (-1)) r22.2).bind fun r23 =>
 some (r23.1, r23.2)) (
 (vl r15.1 r22.2).bind fun r24 =>
 (bo P .add 3 (.tmp 28) (.const (.int .i64 1)) r24.1 (.int .i64 1) r24.2).bind fun r25 =>
 (vl r25.1 r25.2).bind fun r26 =>
 (vl (e 5) r26.2).bind fun r27 =>
 (bo P .add 3 (.tmp 10) (.const (.int .i64 1)) r27.1 (.int .i64 1) r27.2).bind fun r28 =>
 (vl r28.1 r28.2).bind fun r29 =>
 laws_heldTagS_l1 (ups e [(6, r1.1), (7, r2.1), (8, r3.1), (9, r4.1), (12, r5.1), (13, r6.1), (14, r7.1), (15, r8.1), (16, r9.1), (17, r10.1), (18, r11.1), (19, r13.1), (20, r14.1), (1, r15.1), (21, r16.1), (22, r17.1), (23, r18.1), (24, r19.1), (25, r20.1), (26, r21.1), (27, r22.1), (28, r24.1), (29, r25.1), (1, r26.1), (10, r27.1), (11, r28.1), (5, r29.1)]) r29.2))) (
 (vl (e 1) r4.2).bind fun r30 =>
 (vl r30.1 r30.2).bind fun r31 =>
 some (r31.1, r31.2)) := (exC_loop P (EV P) 43 31 (cA (cA (cB (cA (cB (bodyOf P 43)))))) e w (kBlock 0 (kSeq P (EV P) 43 31 (cB (cB (bodyOf P 43))) (kFn P (fnOf P 43))))).trans (by kernel_rfl)
theorem laws_heldTagS_fn (x0 x1 : Value) (w : World) : fnC P (EV P) 43 #[x0, x1] w =
 (vl (.int .i64 0) w).bind fun r1 =>
 (vl (.int .i64 0) r1.2).bind fun r2 =>
 laws_heldTagS_l1 (ups (env0 #[x0, x1]) [(4, r1.1), (5, r2.1)]) r2.2 := by kernel_rfl
noncomputable def spec_ChainNew_l1 (e : Env) (w : World) : Option (Value × World) := exC P (EV P) 44 23 (.loop (cA (cA (cB (cA (cB (cB (cB (bodyOf P 44))))))))) e w (kBlock 0 (kSeq P (EV P) 44 23 (cB (cB (cB (cB (bodyOf P 44))))) (kFn P (fnOf P 44))))
theorem spec_ChainNew_l1_eq (e : Env) (w : World) : spec_ChainNew_l1 e w =
 (vl (e 4) w).bind fun r1 =>
 (vl (e 0) r1.2).bind fun r2 =>
 (bo P .lss 3 (.tmp 10) (.tmp 11) r1.1 r2.1 r2.2).bind fun r3 =>
 cnd r3.1 (
 (fa P 43 (e 3) 0 (dw r3.2)).bind fun r5 =>
 ifP (r5.2 = (dw r3.2)) <|
 (ld P 41 r5.1 (dw r3.2)).bind fun r6 =>
 ifP (r6.2 = (dw r3.2)) <|
 (EV P 53 #[] (dw r3.2)).bind fun r7 =>
 ifP (ld P 41 r5.1 r7.2 = some (r6.1, r7.2) ∧ fa P 43 (e 3) 0 r7.2 = some (r5.1, r7.2) ∧ True) <|
 (bd P 83 #[(0, r7.1)] r7.2).bind fun r8 =>
 ifP (r8.2 = r7.2) <|
 (bs P 41 1 #[(0, r8.1)] r7.2).bind fun r9 =>
 ifP (True ∧ ld P 41 r5.1 r9.2 = some (r6.1, r9.2) ∧ fa P 43 (e 3) 0 r9.2 = some (r5.1, r9.2) ∧ True) <|
 (b_append P #[41, 41] 41 #[r6.1, r9.1] r9.2).bind fun r10 =>
 ifP (True ∧ True ∧ True ∧ True) <|
 (fa P 43 (e 3) 0 r10.2).bind fun r11 =>
 ifP (r11.2 = r10.2) <|
 (st P 41 r11.1 r10.1 r10.2).bind fun r12 =>
 ifP (True ∧ True ∧ True ∧ True ∧ True) <|
 (vl (e 4) r12.2).bind fun r13 =>
 (bo P .add 3 (.tmp 13) (.const (.int .i64 1)) r13.1 (.int .i64 1) r13.2).bind fun r14 =>
 (vl r14.1 r14.2).bind fun r15 =>
 spec_ChainNew_l1 (ups e [(10, r1.1), (11, r2.1), (12, r3.1), (15, r5.1), (16, r6.1), (17, r7.1), (18, r8.1), (19, r9.1), (20, r10.1), (21, r11.1), (13, r13.1), (14, r14.1), (4, r15.1)]) r15.2) (
 (ld P 43 (e 3) r3.2).bind fun r16 =>
 (st P 43 (e 2) r16.1 r16.2).bind fun r17 =>
 ((ld P 43 (e 2) r17.2).bind fun r18 => ifP (r18.2 = r17.2) (some r18.1)).bind fun v19 =>
 some (v19, r17.2)) := (exC_loop P (EV P) 44 23 (cA (cA (cB (cA (cB (cB (cB (bodyOf P 44)))))))) e w (kBlock 0 (kSeq P (EV P) 44 23 (cB (cB (cB (cB (bodyOf P 44))))) (kFn P (fnOf P 44))))).trans (by kernel_rfl)
theorem spec_ChainNew_fn (x0 : Value) (w : World) : fnC P (EV P) 44 #[x0] w =
 (al P 43 w).bind fun r1 =>
 (bd P 43 #[] r1.2).bind fun r2 =>
 (al P 43 r2.2).bind fun r3 =>
 (st P 43 r3.1 r2.1 r3.2).bind fun r4 =>
 (vl x0 r4.2).bind fun r5 =>
 (EV P 9 #[r5.1, (.int .i64 1), (.int .i64 4)] r5.2).bind fun r6 =>
 (uo P .not r6.1 r6.2).bind fun r7 =>
 cnd r7.1 (
 (ld P 43 r3.1 r7.2).bind fun r8 =>
 (st P 43 r1.1 r8.1 r8.2).bind fun r9 =>
 ((ld P 43 r1.1 r9.2).bind fun r10 => ifP (r10.2 = r9.2) (some r10.1)).bind fun v11 =>
 some (v11, r9.2)) (
 (vl (.int .i64 0) r7.2).bind fun r12 =>
 spec_ChainNew_l1 (ups (env0 #[x0]) [(2, r1.1), (5, r2.1), (3, r3.1), (6, r5.1), (7, r6.1), (8, r7.1), (4, r12.1)]) r12.2) := by kernel_rfl
theorem impl_placeOk_fn (x0 : Value) (w : World) : fnC P (EV P) 45 #[x0] w =
 (vl (.bool false) w).bind fun r1 =>
 (vl x0 r1.2).bind fun r2 =>
 (EV P 28 #[r2.1, (.int .i64 0), (.int .i64 2)] r2.2).bind fun r3 =>
 (vl r3.1 r3.2).bind fun r4 =>
 some (r4.1, r4.2) := by kernel_rfl
noncomputable def impl_ChainNew_l1 (e : Env) (w : World) : Option (Value × World) := exC P (EV P) 46 23 (.loop (cA (cA (cB (cA (cB (cB (cB (bodyOf P 46))))))))) e w (kBlock 0 (kSeq P (EV P) 46 23 (cB (cB (cB (cB (bodyOf P 46))))) (kFn P (fnOf P 46))))
theorem impl_ChainNew_l1_eq (e : Env) (w : World) : impl_ChainNew_l1 e w =
 (bo P .lss 3 (.tmp 12) (.tmp 11) (e 12) (e 11) w).bind fun r1 =>
 cnd r1.1 (
 (fa P 43 (e 3) 0 (dw r1.2)).bind fun r3 =>
 ifP (r3.2 = (dw r1.2)) <|
 (ld P 41 r3.1 (dw r1.2)).bind fun r4 =>
 ifP (r4.2 = (dw r1.2)) <|
 (EV P 54 #[] (dw r1.2)).bind fun r5 =>
 ifP (ld P 41 r3.1 r5.2 = some (r4.1, r5.2) ∧ fa P 43 (e 3) 0 r5.2 = some (r3.1, r5.2) ∧ True) <|
 (bd P 83 #[(0, r5.1)] r5.2).bind fun r6 =>
 ifP (r6.2 = r5.2) <|
 (bs P 41 1 #[(0, r6.1)] r5.2).bind fun r7 =>
 ifP (True ∧ ld P 41 r3.1 r7.2 = some (r4.1, r7.2) ∧ fa P 43 (e 3) 0 r7.2 = some (r3.1, r7.2) ∧ True) <|
 (b_append P #[41, 41] 41 #[r4.1, r7.1] r7.2).bind fun r8 =>
 ifP (True ∧ True ∧ True ∧ True) <|
 (fa P 43 (e 3) 0 r8.2).bind fun r9 =>
 ifP (r9.2 = r8.2) <|
 (st P 41 r9.1 r8.1 r8.2).bind fun r10 =>
 ifP (True ∧ True ∧ True ∧ True ∧ True) <|
 (bo P .add 3 (.tmp 12) (.const (.int .i64 1)) (e 12) (.int .i64 1) r10.2).bind fun r11 =>
 (vl r11.1 r11.2).bind fun r12 =>
 impl_ChainNew_l1 (ups e [(13, r1.1), (14, r3.1), (15, r4.1), (16, r5.1), (17, r6.1), (18, r7.1), (19, r8.1), (20, r9.1), (21, r11.1), (12, r12.1)]) r12.2) (
 (ld P 43 (e 3) r1.2).bind fun r13 =>
 (st P 43 (e 2) r13.1 r13.2).bind fun r14 =>
 ((ld P 43 (e 2) r14.2).bind fun r15 => ifP (r15.2 = r14.2) (some r15.1)).bind fun v16 =>
 some (v16, r14.2)) := (exC_loop P (EV P) 46 23 (cA (cA (cB (cA (cB (cB (cB (bodyOf P 46)))))))) e w (kBlock 0 (kSeq P (EV P) 46 23 (cB (cB (cB (cB (bodyOf P 46))))) (kFn P (fnOf P 46))))).trans (by kernel_rfl)
theorem impl_ChainNew_fn (x0 : Value) (w : World) : fnC P (EV P) 46 #[x0] w =
 (al P 43 w).bind fun r1 =>
 (vl x0 r1.2).bind fun r2 =>
 (EV P 27 #[r2.1] r2.2).bind fun r3 =>
 (uo P .not r3.1 r3.2).bind fun r4 =>
 cnd r4.1 (
 (bd P 43 #[] r4.2).bind fun r5 =>
 (st P 43 r1.1 r5.1 r5.2).bind fun r6 =>
 ((ld P 43 r1.1 r6.2).bind fun r7 => ifP (r7.2 = r6.2) (some r7.1)).bind fun v8 =>
 some (v8, r6.2)) (
 (vl x0 r4.2).bind fun r9 =>
 (ms P 41 (.int .i64 0) r9.1 r9.2).bind fun r10 =>
 (bd P 43 #[(0, r10.1)] r10.2).bind fun r11 =>
 (al P 43 r11.2).bind fun r12 =>
 (st P 43 r12.1 r11.1 r12.2).bind fun r13 =>
 (vl x0 r13.2).bind fun r14 =>
 (vl (.int .i64 0) r14.2).bind fun r15 =>
 impl_ChainNew_l1 (ups (env0 #[x0]) [(2, r1.1), (4, r2.1), (5, r3.1), (6, r4.1), (8, r9.1), (9, r10.1), (10, r11.1), (3, r12.1), (11, r14.1), (12, r15.1)]) r15.2) := by kernel_rfl
theorem laws_eqChain_fn (x0 x1 : Value) (w : World) : fnC P (EV P) 47 #[x0, x1] w =
 (bx P 43 x0 w).bind fun r1 =>
 (bx P 43 x1 r1.2).bind fun r2 =>
 (vl (.bool false) r2.2).bind fun r3 =>
 (fa P 43 r1.1 0 r3.2).bind fun r4 =>
 (ld P 41 r4.1 r4.2).bind fun r5 =>
 (fa P 43 r2.1 0 r5.2).bind fun r6 =>
 (ld P 41 r6.1 r6.2).bind fun r7 =>
 (EV P 55 #[r5.1, r7.1] r7.2).bind fun r8 =>
 (uo P .not r8.1 r8.2).bind fun r9 =>
 cnd r9.1 (
 (vl (.bool false) r9.2).bind fun r10 =>
 some (r10.1, r10.2)) (
 (vl (.bool true) r9.2).bind fun r11 =>
 some (r11.1, r11.2)) := by kernel_rfl
noncomputable def laws_eqVerS_l1 (e : Env) (w : World) : Option (Value × World) := exC P (EV P) 48 27 (.loop (cA (cA (cB (cA (cB (cB (bodyOf P 48)))))))) e w (kBlock 0 (kSeq P (EV P) 48 27 (cB (cB (cB (bodyOf P 48)))) (kFn P (fnOf P 48))))
theorem laws_eqVerS_l1_eq (e : Env) (w : World) : laws_eqVerS_l1 e w =
 (vl (e 5) w).bind fun r1 =>
 (vl (e 0) r1.2).bind fun r2 =>
 (b_len P #[44] 3 #[r2.1] r2.2).bind fun r3 =>
 (bo P .lss 3 (.tmp 11) (.tmp 13) r1.1 r3.1 r3.2).bind fun r4 =>
 cnd r4.1 (
 (vl (e 0) (dw r4.2)).bind fun r6 =>
 ifP (r6.2 = (dw r4.2)) <|
 (vl (e 5) (dw r4.2)).bind fun r7 =>
 ifP (r7.2 = (dw r4.2)) <|
 (ia P 44 r6.1 r7.1 (dw r4.2)).bind fun r8 =>
 ifP (r8.2 = (dw r4.2)) <|
 (ld P 62 r8.1 (dw r4.2)).bind fun r9 =>
 ifP (r9.2 = (dw r4.2)) <|
 (vl (e 1) (dw r4.2)).bind fun r10 =>
 ifP (r10.2 = (dw r4.2)) <|
 (vl (e 5) (dw r4.2)).bind fun r11 =>
 ifP (r11.2 = (dw r4.2)) <|
 (ia P 44 r10.1 r11.1 (dw r4.2)).bind fun r12 =>
 ifP (r12.2 = (dw r4.2)) <|
 (ld P 62 r12.1 (dw r4.2)).bind fun r13 =>
 ifP (r13.2 = (dw r4.2)) <|
 (EV P 52 #[r9.1, r13.1] (dw r4.2)).bind fun r14 =>
 ifP (True ∧ True ∧ True ∧ True ∧ True) <|
 (uo P .not r14.1 r14.2).bind fun r15 =>
 ifP (r15.2 = r14.2) <|
 cnd r15.1 (
 (vl (.bool false) r14.2).bind fun r16 =>
 some (r16.1, r16.2)) (
 (vl (e 5) r14.2).bind fun r17 =>
 (bo P .add 3 (.tmp 15) (.const (.int .i64 1)) r17.1 (.int .i64 1) r17.2).bind fun r18 =>
 (vl r18.1 r18.2).bind fun r19 =>
 laws_eqVerS_l1 (ups e [(11, r1.1), (12, r2.1), (13, r3.1), (14, r4.1), (17, r6.1), (18, r7.1), (19, r8.1), (20, r9.1), (21, r10.1), (22, r11.1), (23, r12.1), (24, r13.1), (25, r14.1), (26, r15.1), (15, r17.1), (16, r18.1), (5, r19.1)]) r19.2)) (
 (vl (.bool true) r4.2).bind fun r20 =>
 some (r20.1, r20.2)) := (exC_loop P (EV P) 48 27 (cA (cA (cB (cA (cB (cB (bodyOf P 48))))))) e w (kBlock 0 (kSeq P (EV P) 48 27 (cB (cB (cB (bodyOf P 48)))) (kFn P (fnOf P 48))))).trans (by kernel_rfl)
theorem laws_eqVerS_fn (x0 x1 : Value) (w : World) : fnC P (EV P) 48 #[x0, x1] w =
 (vl (.bool false) w).bind fun r1 =>
 (vl x0 r1.2).bind fun r2 =>
 (b_len P #[44] 3 #[r2.1] r2.2).bind fun r3 =>
 (vl x1 r3.2).bind fun r4 =>
 (b_len P #[44] 3 #[r4.1] r4.2).bind fun r5 =>
 (bo P .neq 3 (.tmp 7) (.tmp 9) r3.1 r5.1 r5.2).bind fun r6 =>
 cnd r6.1 (
 (vl (.bool false) r6.2).bind fun r7 =>
 some (r7.1, r7.2)) (
 (vl (.int .i64 0) r6.2).bind fun r8 =>
 laws_eqVerS_l1 (ups (env0 #[x0, x1]) [(4, r1.1), (6, r2.1), (7, r3.1), (8, r4.1), (9, r5.1), (10, r6.1), (5, r8.1)]) r8.2) := by kernel_rfl
noncomputable def laws_eqVerSS_l1 (e : Env) (w : World) : Option (Value × World) := exC P (EV P) 49 27 (.loop (cA (cA (cB (cA (cB (cB (bodyOf P 49)))))))) e w (kBlock 0 (kSeq P (EV P) 49 27 (cB (cB (cB (bodyOf P 49)))) (kFn P (fnOf P 49))))
theorem laws_eqVerSS_l1_eq (e : Env) (w : World) : laws_eqVerSS_l1 e w =
 (vl (e 5) w).bind fun r1 =>
 (vl (e 0) r1.2).bind fun r2 =>
 (b_len P #[45] 3 #[r2.1] r2.2).bind fun r3 =>
 (bo P .lss 3 (.tmp 11) (.tmp 13) r1.1 r3.1 r3.2).bind fun r4 =>
 cnd r4.1 (
 (vl (e 0) (dw r4.2)).bind fun r6 =>
 ifP (r6.2 = (dw r4.2)) <|
 (vl (e 5) (dw r4.2)).bind fun r7 =>
 ifP (r7.2 = (dw r4.2)) <|
 (ia P 45 r6.1 r7.1 (dw r4.2)).bind fun r8 =>
 ifP (r8.2 = (dw r4.2)) <|
 (ld P 44 r8.1 (dw r4.2)).bind fun r9 =>
 ifP (r9.2 = (dw r4.2)) <|
 (vl (e 1) (dw r4.2)).bind fun r10 =>
 ifP (r10.2 = (dw r4.2)) <|
 (vl (e 5) (dw r4.2)).bind fun r11 =>
 ifP (r11.2 = (dw r4.2)) <|
 (ia P 45 r10.1 r11.1 (dw r4.2)).bind fun r12 =>
 ifP (r12.2 = (dw r4.2)) <|
 (ld P 44 r12.1 (dw r4.2)).bind fun r13 =>
 ifP (r13.2 = (dw r4.2)) <|
 (EV P 48 #[r9.1, r13.1] (dw r4.2)).bind fun r14 =>
 ifP (True ∧ True ∧ True ∧ True ∧ True) <|
 (uo P .not r14.1 r14.2).bind fun r15 =>
 ifP (r15.2 = r14.2) <|
 cnd r15.1 (
 (vl (.bool false) r14.2).bind fun r16 =>
 some (r16.1, r16.2)) (
 (vl (e 5) r14.2).bind fun r17 =>
 (bo P .add 3 (.tmp 15) (.const (.int .i64 1)) r17.1 (.int .i64 1) r17.2).bind fun r18 =>
 (vl r18.1 r18.2).bind fun r19 =>
 laws_eqVerSS_l1 (ups e [(11, r1.1), (12, r2.1), (13, r3.1), (14, r4.1), (17, r6.1), (18, r7.1), (19, r8.1), (20, r9.1), (21, r10.1), (22, r11.1), (23, r12.1), (24, r13.1), (25, r14.1), (26, r15.1), (15, r17.1), (16, r18.1), (5, r19.1)]) r19.2)) (
 (vl (.bool true) r4.2).bind fun r20 =>
 some (r20.1, r20.2)) := (exC_loop P (EV P) 49 27 (cA (cA (cB (cA (cB (cB (bodyOf P 49))))))) e w (kBlock 0 (kSeq P (EV P) 49 27 (cB (cB (cB (bodyOf P 49)))) (kFn P (fnOf P 49))))).trans (by kernel_rfl)
theorem laws_eqVerSS_fn (x0 x1 : Value) (w : World) : fnC P (EV P) 49 #[x0, x1] w =
 (vl (.bool false) w).bind fun r1 =>
 (vl x0 r1.2).bind fun r2 =>
 (b_len P #[45] 3 #[r2.1] r2.2).bind fun r3 =>
 (vl x1 r3.2).bind fun r4 =>
 (b_len P #[45] 3 #[r4.1] r4.2).bind fun r5 =>
 (bo P .neq 3 (.tmp 7) (.tmp 9) r3.1 r5.1 r5.2).bind fun r6 =>
 cnd r6.1 (
 (vl (.bool false) r6.2).bind fun r7 =>
 some (r7.1, r7.2)) (
 (vl (.int .i64 0) r6.2).bind fun r8 =>
 laws_eqVerSS_l1 (ups (env0 #[x0, x1]) [(4, r1.1), (6, r2.1), (7, r3.1), (8, r4.1), (9, r5.1), (10, r6.1), (5, r8.1)]) r8.2) := by kernel_rfl
theorem laws_eqPast_fn (x0 x1 : Value) (w : World) : fnC P (EV P) 50 #[x0, x1] w =
 (bx P 51 x0 w).bind fun r1 =>
 (bx P 51 x1 r1.2).bind fun r2 =>
 (vl (.bool false) r2.2).bind fun r3 =>
 (fa P 51 r1.1 0 r3.2).bind fun r4 =>
 (ld P 49 r4.1 r4.2).bind fun r5 =>
 (fa P 51 r2.1 0 r5.2).bind fun r6 =>
 (ld P 49 r6.1 r6.2).bind fun r7 =>
 (EV P 56 #[r5.1, r7.1] r7.2).bind fun r8 =>
 (uo P .not r8.1 r8.2).bind fun r9 =>
 cnd r9.1 (
 (vl (.bool false) r9.2).bind fun r10 =>
 some (r10.1, r10.2)) (
 (vl (.bool true) r9.2).bind fun r11 =>
 some (r11.1, r11.2)) := by kernel_rfl
theorem laws_eqTag_fn (x0 x1 : Value) (w : World) : fnC P (EV P) 51 #[x0, x1] w =
 (bx P 54 x0 w).bind fun r1 =>
 (bx P 54 x1 r1.2).bind fun r2 =>
 (vl (.bool false) r2.2).bind fun r3 =>
 (fa P 54 r1.1 0 r3.2).bind fun r4 =>
 (ld P 3 r4.1 r4.2).bind fun r5 =>
 (fa P 54 r2.1 0 r5.2).bind fun r6 =>
 (ld P 3 r6.1 r6.2).bind fun r7 =>
 (bo P .neq 3 (.tmp 6) (.tmp 8) r5.1 r7.1 r7.2).bind fun r8 =>
 cnd r8.1 (
 (vl (.bool false) r8.2).bind fun r9 =>
 some (r9.1, r9.2)) (
 (fa P 54 r1.1 1 r8.2).bind fun r10 =>
 (ld P 3 r10.1 r10.2).bind fun r11 =>
 (fa P 54 r2.1 1 r11.2).bind fun r12 =>
 (ld P 3 r12.1 r12.2).bind fun r13 =>
 (bo P .neq 3 (.tmp 11) (.tmp 13) r11.1 r13.1 r13.2).bind fun r14 =>
 cnd r14.1 (
 (vl (.bool false) r14.2).bind fun r15 =>
 some (r15.1, r15.2)) (
 (vl (.bool true) r14.2).bind fun r16 =>
 some (r16.1, r16.2))) := by kernel_rfl
theorem laws_eqVer_fn (x0 x1 : Value) (w : World) : fnC P (EV P) 52 #[x0, x1] w =
 (bx P 62 x0 w).bind fun r1 =>
 (bx P 62 x1 r1.2).bind fun r2 =>
 (vl (.bool false) r2.2).bind fun r3 =>
 (fa P 62 r1.1 0 r3.2).bind fun r4 =>
 (ld P 3 r4.1 r4.2).bind fun r5 =>
 (fa P 62 r2.1 0 r5.2).bind fun r6 =>
 (ld P 3 r6.1 r6.2).bind fun r7 =>
 (bo P .neq 3 (.tmp 6) (.tmp 8) r5.1 r7.1 r7.2).bind fun r8 =>
 cnd r8.1 (
 (vl (.bool false) r8.2).bind fun r9 =>
 some (r9.1, r9.2)) (
 (fa P 62 r1.1 1 r8.2).bind fun r10 =>
 (ld P 54 r10.1 r10.2).bind fun r11 =>
 (fa P 62 r2.1 1 r11.2).bind fun r12 =>
 (ld P 54 r12.1 r12.2).bind fun r13 =>
 (EV P 51 #[r11.1, r13.1] r13.2).bind fun r14 =>
 (uo P .not r14.1 r14.2).bind fun r15 =>
 cnd r15.1 (
 (vl (.bool false) r15.2).bind fun r16 =>
 some (r16.1, r16.2)) (
 (fa P 62 r1.1 2 r15.2).bind fun r17 =>
 (ld P 51 r17.1 r17.2).bind fun r18 =>
 (fa P 62 r2.1 2 r18.2).bind fun r19 =>
 (ld P 51 r19.1 r19.2).bind fun r20 =>
 (EV P 50 #[r18.1, r20.1] r20.2).bind fun r21 =>
 (uo P .not r21.1 r21.2).bind fun r22 =>
 cnd r22.1 (
 (vl (.bool false) r22.2).bind fun r23 =>
 some (r23.1, r23.2)) (
 (fa P 62 r1.1 3 r22.2).bind fun r24 =>
 (ld P 9 r24.1 r24.2).bind fun r25 =>
 (fa P 62 r2.1 3 r25.2).bind fun r26 =>
 (ld P 9 r26.1 r26.2).bind fun r27 =>
 (bo P .neq 9 (.tmp 23) (.tmp 25) r25.1 r27.1 r27.2).bind fun r28 =>
 cnd r28.1 (
 (vl (.bool false) r28.2).bind fun r29 =>
 some (r29.1, r29.2)) (
 (fa P 62 r1.1 4 r28.2).bind fun r30 =>
 (ld P 4 r30.1 r30.2).bind fun r31 =>
 (fa P 62 r2.1 4 r31.2).bind fun r32 =>
 (ld P 4 r32.1 r32.2).bind fun r33 =>
 (bo P .neq 4 (.tmp 28) (.tmp 30) r31.1 r33.1 r33.2).bind fun r34 =>
 cnd r34.1 (
 (vl (.bool false) r34.2).bind fun r35 =>
 some (r35.1, r35.2)) (
 (vl (.bool true) r34.2).bind fun r36 =>
 some (r36.1, r36.2)))))) := by kernel_rfl
theorem spec_l2New_fn (w : World) : fnC P (EV P) 53 #[] w =
 (al P 81 w).bind fun r1 =>
 (ms P 44 (.int .i64 4) (.int .i64 4) r1.2).bind fun r2 =>
 (bd P 81 #[(0, r2.1)] r2.2).bind fun r3 =>
 (st P 81 r1.1 r3.1 r3.2).bind fun r4 =>
 ((ld P 81 r1.1 r4.2).bind fun r5 => ifP (r5.2 = r4.2) (some r5.1)).bind fun v6 =>
 some (v6, r4.2) := by kernel_rfl
theorem impl_StoreNew_fn (w : World) : fnC P (EV P) 54 #[] w =
 (al P 81 w).bind fun r1 =>
 (ms P 44 (.int .i64 4) (.int .i64 4) r1.2).bind fun r2 =>
 (bd P 81 #[(0, r2.1)] r2.2).bind fun r3 =>
 (st P 81 r1.1 r3.1 r3.2).bind fun r4 =>
 ((ld P 81 r1.1 r4.2).bind fun r5 => ifP (r5.2 = r4.2) (some r5.1)).bind fun v6 =>
 some (v6, r4.2) := by kernel_rfl
noncomputable def laws_eqNodeS_l1 (e : Env) (w : World) : Option (Value × World) := exC P (EV P) 55 27 (.loop (cA (cA (cB (cA (cB (cB (bodyOf P 55)))))))) e w (kBlock 0 (kSeq P (EV P) 55 27 (cB (cB (cB (bodyOf P 55)))) (kFn P (fnOf P 55))))
theorem laws_eqNodeS_l1_eq (e : Env) (w : World) : laws_eqNodeS_l1 e w =
 (vl (e 5) w).bind fun r1 =>
 (vl (e 0) r1.2).bind fun r2 =>
 (b_len P #[41] 3 #[r2.1] r2.2).bind fun r3 =>
 (bo P .lss 3 (.tmp 11) (.tmp 13) r1.1 r3.1 r3.2).bind fun r4 =>
 cnd r4.1 (
 (vl (e 0) (dw r4.2)).bind fun r6 =>
 ifP (r6.2 = (dw r4.2)) <|
 (vl (e 5) (dw r4.2)).bind fun r7 =>
 ifP (r7.2 = (dw r4.2)) <|
 (ia P 41 r6.1 r7.1 (dw r4.2)).bind fun r8 =>
 ifP (r8.2 = (dw r4.2)) <|
 (ld P 83 r8.1 (dw r4.2)).bind fun r9 =>
 ifP (r9.2 = (dw r4.2)) <|
 (vl (e 1) (dw r4.2)).bind fun r10 =>
 ifP (r10.2 = (dw r4.2)) <|
 (vl (e 5) (dw r4.2)).bind fun r11 =>
 ifP (r11.2 = (dw r4.2)) <|
 (ia P 41 r10.1 r11.1 (dw r4.2)).bind fun r12 =>
 ifP (r12.2 = (dw r4.2)) <|
 (ld P 83 r12.1 (dw r4.2)).bind fun r13 =>
 ifP (r13.2 = (dw r4.2)) <|
 (EV P 57 #[r9.1, r13.1] (dw r4.2)).bind fun r14 =>
 ifP (True ∧ True ∧ True ∧ True ∧ True) <|
 (uo P .not r14.1 r14.2).bind fun r15 =>
 ifP (r15.2 = r14.2) <|
 cnd r15.1 (
 (vl (.bool false) r14.2).bind fun r16 =>
 some (r16.1, r16.2)) (
 (vl (e 5) r14.2).bind fun r17 =>
 (bo P .add 3 (.tmp 15) (.const (.int .i64 1)) r17.1 (.int .i64 1) r17.2).bind fun r18 =>
 (vl r18.1 r18.2).bind fun r19 =>
 laws_eqNodeS_l1 (ups e [(11, r1.1), (12, r2.1), (13, r3.1), (14, r4.1), (17, r6.1), (18, r7.1), (19, r8.1), (20, r9.1), (21, r10.1), (22, r11.1), (23, r12.1), (24, r13.1), (25, r14.1), (26, r15.1), (15, r17.1), (16, r18.1), (5, r19.1)]) r19.2)) (
 (vl (.bool true) r4.2).bind fun r20 =>
 some (r20.1, r20.2)) := (exC_loop P (EV P) 55 27 (cA (cA (cB (cA (cB (cB (bodyOf P 55))))))) e w (kBlock 0 (kSeq P (EV P) 55 27 (cB (cB (cB (bodyOf P 55)))) (kFn P (fnOf P 55))))).trans (by kernel_rfl)
theorem laws_eqNodeS_fn (x0 x1 : Value) (w : World) : fnC P (EV P) 55 #[x0, x1] w =
 (vl (.bool false) w).bind fun r1 =>
 (vl x0 r1.2).bind fun r2 =>
 (b_len P #[41] 3 #[r2.1] r2.2).bind fun r3 =>
 (vl x1 r3.2).bind fun r4 =>
 (b_len P #[41] 3 #[r4.1] r4.2).bind fun r5 =>
 (bo P .neq 3 (.tmp 7) (.tmp 9) r3.1 r5.1 r5.2).bind fun r6 =>
 cnd r6.1 (
 (vl (.bool false) r6.2).bind fun r7 =>
 some (r7.1, r7.2)) (
 (vl (.int .i64 0) r6.2).bind fun r8 =>
 laws_eqNodeS_l1 (ups (env0 #[x0, x1]) [(4, r1.1), (6, r2.1), (7, r3.1), (8, r4.1), (9, r5.1), (10, r6.1), (5, r8.1)]) r8.2) := by kernel_rfl
noncomputable def laws_eqTagS_l1 (e : Env) (w : World) : Option (Value × World) := exC P (EV P) 56 27 (.loop (cA (cA (cB (cA (cB (cB (bodyOf P 56)))))))) e w (kBlock 0 (kSeq P (EV P) 56 27 (cB (cB (cB (bodyOf P 56)))) (kFn P (fnOf P 56))))
theorem laws_eqTagS_l1_eq (e : Env) (w : World) : laws_eqTagS_l1 e w =
 (vl (e 5) w).bind fun r1 =>
 (vl (e 0) r1.2).bind fun r2 =>
 (b_len P #[49] 3 #[r2.1] r2.2).bind fun r3 =>
 (bo P .lss 3 (.tmp 11) (.tmp 13) r1.1 r3.1 r3.2).bind fun r4 =>
 cnd r4.1 (
 (vl (e 0) (dw r4.2)).bind fun r6 =>
 ifP (r6.2 = (dw r4.2)) <|
 (vl (e 5) (dw r4.2)).bind fun r7 =>
 ifP (r7.2 = (dw r4.2)) <|
 (ia P 49 r6.1 r7.1 (dw r4.2)).bind fun r8 =>
 ifP (r8.2 = (dw r4.2)) <|
 (ld P 54 r8.1 (dw r4.2)).bind fun r9 =>
 ifP (r9.2 = (dw r4.2)) <|
 (vl (e 1) (dw r4.2)).bind fun r10 =>
 ifP (r10.2 = (dw r4.2)) <|
 (vl (e 5) (dw r4.2)).bind fun r11 =>
 ifP (r11.2 = (dw r4.2)) <|
 (ia P 49 r10.1 r11.1 (dw r4.2)).bind fun r12 =>
 ifP (r12.2 = (dw r4.2)) <|
 (ld P 54 r12.1 (dw r4.2)).bind fun r13 =>
 ifP (r13.2 = (dw r4.2)) <|
 (EV P 51 #[r9.1, r13.1] (dw r4.2)).bind fun r14 =>
 ifP (True ∧ True ∧ True ∧ True ∧ True) <|
 (uo P .not r14.1 r14.2).bind fun r15 =>
 ifP (r15.2 = r14.2) <|
 cnd r15.1 (
 (vl (.bool false) r14.2).bind fun r16 =>
 some (r16.1, r16.2)) (
 (vl (e 5) r14.2).bind fun r17 =>
 (bo P .add 3 (.tmp 15) (.const (.int .i64 1)) r17.1 (.int .i64 1) r17.2).bind fun r18 =>
 (vl r18.1 r18.2).bind fun r19 =>
 laws_eqTagS_l1 (ups e [(11, r1.1), (12, r2.1), (13, r3.1), (14, r4.1), (17, r6.1), (18, r7.1), (19, r8.1), (20, r9.1), (21, r10.1), (22, r11.1), (23, r12.1), (24, r13.1), (25, r14.1), (26, r15.1), (15, r17.1), (16, r18.1), (5, r19.1)]) r19.2)) (
 (vl (.bool true) r4.2).bind fun r20 =>
 some (r20.1, r20.2)) := (exC_loop P (EV P) 56 27 (cA (cA (cB (cA (cB (cB (bodyOf P 56))))))) e w (kBlock 0 (kSeq P (EV P) 56 27 (cB (cB (cB (bodyOf P 56)))) (kFn P (fnOf P 56))))).trans (by kernel_rfl)
theorem laws_eqTagS_fn (x0 x1 : Value) (w : World) : fnC P (EV P) 56 #[x0, x1] w =
 (vl (.bool false) w).bind fun r1 =>
 (vl x0 r1.2).bind fun r2 =>
 (b_len P #[49] 3 #[r2.1] r2.2).bind fun r3 =>
 (vl x1 r3.2).bind fun r4 =>
 (b_len P #[49] 3 #[r4.1] r4.2).bind fun r5 =>
 (bo P .neq 3 (.tmp 7) (.tmp 9) r3.1 r5.1 r5.2).bind fun r6 =>
 cnd r6.1 (
 (vl (.bool false) r6.2).bind fun r7 =>
 some (r7.1, r7.2)) (
 (vl (.int .i64 0) r6.2).bind fun r8 =>
 laws_eqTagS_l1 (ups (env0 #[x0, x1]) [(4, r1.1), (6, r2.1), (7, r3.1), (8, r4.1), (9, r5.1), (10, r6.1), (5, r8.1)]) r8.2) := by kernel_rfl
theorem laws_eqNode_fn (x0 x1 : Value) (w : World) : fnC P (EV P) 57 #[x0, x1] w =
 (bx P 83 x0 w).bind fun r1 =>
 (bx P 83 x1 r1.2).bind fun r2 =>
 (vl (.bool false) r2.2).bind fun r3 =>
 (fa P 83 r1.1 0 r3.2).bind fun r4 =>
 (ld P 81 r4.1 r4.2).bind fun r5 =>
 (fa P 83 r2.1 0 r5.2).bind fun r6 =>
 (ld P 81 r6.1 r6.2).bind fun r7 =>
 (EV P 58 #[r5.1, r7.1] r7.2).bind fun r8 =>
 (uo P .not r8.1 r8.2).bind fun r9 =>
 cnd r9.1 (
 (vl (.bool false) r9.2).bind fun r10 =>
 some (r10.1, r10.2)) (
 (fa P 83 r1.1 1 r9.2).bind fun r11 =>
 (ld P 44 r11.1 r11.2).bind fun r12 =>
 (fa P 83 r2.1 1 r12.2).bind fun r13 =>
 (ld P 44 r13.1 r13.2).bind fun r14 =>
 (EV P 48 #[r12.1, r14.1] r14.2).bind fun r15 =>
 (uo P .not r15.1 r15.2).bind fun r16 =>
 cnd r16.1 (
 (vl (.bool false) r16.2).bind fun r17 =>
 some (r17.1, r17.2)) (
 (vl (.bool true) r16.2).bind fun r18 =>
 some (r18.1, r18.2))) := by kernel_rfl
theorem laws_eqStore_fn (x0 x1 : Value) (w : World) : fnC P (EV P) 58 #[x0, x1] w =
 (bx P 81 x0 w).bind fun r1 =>
 (bx P 81 x1 r1.2).bind fun r2 =>
 (vl (.bool false) r2.2).bind fun r3 =>
 (fa P 81 r1.1 0 r3.2).bind fun r4 =>
 (ld P 44 r4.1 r4.2).bind fun r5 =>
 (fa P 81 r2.1 0 r5.2).bind fun r6 =>
 (ld P 44 r6.1 r6.2).bind fun r7 =>
 (EV P 48 #[r5.1, r7.1] r7.2).bind fun r8 =>
 (uo P .not r8.1 r8.2).bind fun r9 =>
 cnd r9.1 (
 (vl (.bool false) r9.2).bind fun r10 =>
 some (r10.1, r10.2)) (
 (vl (.bool true) r9.2).bind fun r11 =>
 some (r11.1, r11.2)) := by kernel_rfl
end Go.Proofs.Ytligcpabhddggaa.X
