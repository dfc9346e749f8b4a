/- A part of the proof, without conditions. -/
import Derived.Test.YtkhbpmhagpljiaaGreatDoorEvT
set_option linter.unusedVariables false
set_option linter.unusedSimpArgs false
set_option linter.deprecated false
set_option maxRecDepth 100000
namespace Go.Proofs.YtkhbpmhagpljiaaGreatDoor.X
open Go Go.Ev
noncomputable def CP (e : Env) (w : World) : Option (Value × World) := BA P (EV P) 86 56 (.loop (cA (cA (cB (cA (cB (cB (Ae P 86)))))))) e w (Am 0 (AE P (EV P) 86 56 (cB (cB (cB (Ae P 86)))) (Bc P (AB P 86))))
noncomputable def Ea (e : Env) (w : World) : Option (Value × World) := BA P (EV P) 86 56 (.loop (cA (cA (cB (cA (cB (cA (cA (cB (cA (cA (cB (cA (cB (cB (Ae P 86)))))))))))))))) e w (Am 2 (AE P (EV P) 86 56 (cB (cB (cA (cA (cB (cA (cA (cB (cA (cB (cB (Ae P 86)))))))))))) (Am 1 (AE P (EV P) 86 56 (cB (cB (cA (cA (cB (cA (cB (cB (Ae P 86))))))))) (DM P (EV P) 86 56 (cA (cA (cB (cA (cB (cB (Ae P 86))))))) (Am 0 (AE P (EV P) 86 56 (cB (cB (cB (Ae P 86)))) (Bc P (AB P 86)))))))))
theorem Gm (e : Env) (w : World) : CP e w = (do
 let r1 ← vl (e 4) w
 let r2 ← fa P 98 (e 1) 0 r1.2
 let r3 ← ld P 96 r2.1 r2.2
 let r4 ← Au P #[96] 3 #[r3.1] r3.2
 let r5 ← bo P .lss 3 (.tmp 8) (.tmp 11) r1.1 r4.1 r4.2
 AL r5.1 (do
 let r6 ← fa P 98 (e 1) 0 r5.2
 let r7 ← ld P 96 r6.1 r6.2
 let r8 ← vl (e 4) r7.2
 let r9 ← ia P 96 r7.1 r8.1 r8.2
 let r10 ← fa P 159 r9.1 0 r9.2
 let r11 ← ld P 156 r10.1 r10.2
 let r12 ← EV P 107 #[r11.1] r11.2
 let r13 ← bd P 159 #[(0, r12.1)] r12.2
 let r14 ← al P 159 r13.2
 let r15 ← st P 159 r14.1 r13.1 r14.2
 let r16 ← vl (.int .i64 0) r15.2
 Ea (AJ e [(8, r1.1), (9, r2.1), (10, r3.1), (11, r4.1), (12, r5.1), (15, r6.1), (16, r7.1), (17, r8.1), (18, r9.1), (19, r10.1), (20, r11.1), (21, r12.1), (22, r13.1), (5, r14.1), (6, r16.1)]) r16.2) (do
 let r17 ← ld P 98 (e 3) r5.2
 let r18 ← st P 98 (e 2) r17.1 r17.2
 let v20 ← (ld P 98 (e 2) r18.2).bind fun r19 => AG (r19.2 = r18.2) (some r19.1)
 some (v20, r18.2))) := (AH P (EV P) 86 56 (cA (cA (cB (cA (cB (cB (Ae P 86))))))) e w (Am 0 (AE P (EV P) 86 56 (cB (cB (cB (Ae P 86)))) (Bc P (AB P 86))))).trans (by kernel_rfl)
theorem Gn (e : Env) (w : World) : Ea e w = (do
 let r1 ← vl (e 6) w
 let r2 ← fa P 98 (e 1) 0 r1.2
 let r3 ← ld P 96 r2.1 r2.2
 let r4 ← vl (e 4) r3.2
 let r5 ← ia P 96 r3.1 r4.1 r4.2
 let r6 ← fa P 159 r5.1 1 r5.2
 let r7 ← ld P 99 r6.1 r6.2
 let r8 ← Au P #[99] 3 #[r7.1] r7.2
 let r9 ← bo P .lss 3 (.tmp 23) (.tmp 30) r1.1 r8.1 r8.2
 AL r9.1 (do
 Ah (fa P 159 (e 5) 1) (dw r9.2) fun r11 => do
 Ah (ld P 99 r11.1) (dw r9.2) fun r12 => do
 Ah (fa P 98 (e 1) 0) (dw r9.2) fun r13 => do
 Ah (ld P 96 r13.1) (dw r9.2) fun r14 => do
 Ah (vl (e 4)) (dw r9.2) fun r15 => do
 Ah (ia P 96 r14.1 r15.1) (dw r9.2) fun r16 => do
 Ah (fa P 159 r16.1 1) (dw r9.2) fun r17 => do
 Ah (ld P 99 r17.1) (dw r9.2) fun r18 => do
 Ah (vl (e 6)) (dw r9.2) fun r19 => do
 Ah (ia P 99 r18.1 r19.1) (dw r9.2) fun r20 => do
 Ah (ld P 110 r20.1) (dw r9.2) fun r21 => do
 let r22 ← EV P 66 #[r21.1] (dw r9.2)
 AG (True ∧ True ∧ True ∧ True ∧ True ∧ True ∧ True ∧ ld P 99 r11.1 r22.2 = some (r12.1, r22.2) ∧ fa P 159 (e 5) 1 r22.2 = some (r11.1, r22.2) ∧ True) <| do
 let r23 ← bs P 99 1 #[(0, r22.1)] r22.2
 AG (True ∧ True ∧ True ∧ True ∧ True ∧ True ∧ True ∧ ld P 99 r11.1 r23.2 = some (r12.1, r23.2) ∧ fa P 159 (e 5) 1 r23.2 = some (r11.1, r23.2) ∧ True) <| do
 let r24 ← Ar P #[99, 99] 99 #[r12.1, r23.1] r23.2
 AG qt10 <| do
 Ah (fa P 159 (e 5) 1) r24.2 fun r25 => do
 let r26 ← st P 99 r25.1 r24.1 r24.2
 AG qt11 <| do
 let r27 ← vl (e 6) r26.2
 let r28 ← bo P .add 3 (.tmp 32) (.const (.int .i64 1)) r27.1 (.int .i64 1) r27.2
 let r29 ← vl r28.1 r28.2
 Ea (AJ e [(23, r1.1), (24, r2.1), (25, r3.1), (26, r4.1), (27, r5.1), (28, r6.1), (29, r7.1), (30, r8.1), (31, r9.1), (34, r11.1), (35, r12.1), (36, r13.1), (37, r14.1), (38, r15.1), (39, r16.1), (40, r17.1), (41, r18.1), (42, r19.1), (43, r20.1), (44, r21.1), (45, r22.1), (46, r23.1), (47, r24.1), (48, r25.1), (32, r27.1), (33, r28.1), (6, r29.1)]) r29.2) (do
 let r30 ← fa P 98 (e 3) 0 r9.2
 let r31 ← ld P 96 r30.1 r30.2
 let r32 ← ld P 159 (e 5) r31.2
 let r33 ← bs P 96 1 #[(0, r32.1)] r32.2
 let r34 ← Ar P #[96, 96] 96 #[r31.1, r33.1] r33.2
 let r35 ← fa P 98 (e 3) 0 r34.2
 let r36 ← st P 96 r35.1 r34.1 r35.2
 let r37 ← vl (e 4) r36.2
 let r38 ← bo P .add 3 (.tmp 13) (.const (.int .i64 1)) r37.1 (.int .i64 1) r37.2
 let r39 ← vl r38.1 r38.2
 CP (AJ e [(23, r1.1), (24, r2.1), (25, r3.1), (26, r4.1), (27, r5.1), (28, r6.1), (29, r7.1), (30, r8.1), (31, r9.1), (49, r30.1), (50, r31.1), (51, r32.1), (52, r33.1), (53, r34.1), (54, r35.1), (13, r37.1), (14, r38.1), (4, r39.1)]) r39.2)) := (AH P (EV P) 86 56 (cA (cA (cB (cA (cB (cA (cA (cB (cA (cA (cB (cA (cB (cB (Ae P 86))))))))))))))) e w (Am 2 (AE P (EV P) 86 56 (cB (cB (cA (cA (cB (cA (cA (cB (cA (cB (cB (Ae P 86)))))))))))) (Am 1 (AE P (EV P) 86 56 (cB (cB (cA (cA (cB (cA (cB (cB (Ae P 86))))))))) (DM P (EV P) 86 56 (cA (cA (cB (cA (cB (cB (Ae P 86))))))) (Am 0 (AE P (EV P) 86 56 (cB (cB (cB (Ae P 86)))) (Bc P (AB P 86)))))))))).trans (by kernel_rfl)
theorem MH (x0 : Value) (w : World) : Bv P (EV P) 86 #[x0] w = (do
 let r1 ← bx P 98 x0 w
 let r2 ← al P 98 r1.2
 let r3 ← bd P 98 #[] r2.2
 let r4 ← al P 98 r3.2
 let r5 ← st P 98 r4.1 r3.1 r4.2
 let r6 ← vl (.int .i64 0) r5.2
 CP (AJ (AO #[x0]) [(1, r1.1), (2, r2.1), (7, r3.1), (3, r4.1), (4, r6.1)]) r6.2) := by kernel_rfl
noncomputable def Ec (e : Env) (w : World) : Option (Value × World) := BA P (EV P) 87 21 (.loop (cA (cA (cB (cA (cB (cB (Ae P 87)))))))) e w (Am 0 (AE P (EV P) 87 21 (cB (cB (cB (Ae P 87)))) (Bc P (AB P 87))))
theorem Gp (e : Env) (w : World) : Ec e w = (do
 let r1 ← vl (e 4) w
 let r2 ← vl (e 0) r1.2
 let r3 ← Au P #[99] 3 #[r2.1] r2.2
 let r4 ← bo P .lss 3 (.tmp 6) (.tmp 8) r1.1 r3.1 r3.2
 AL r4.1 (do
 let r5 ← vl (e 3) r4.2
 let r6 ← vl (e 0) r5.2
 let r7 ← vl (e 4) r6.2
 let r8 ← ia P 99 r6.1 r7.1 r7.2
 let r9 ← ld P 110 r8.1 r8.2
 let r10 ← EV P 66 #[r9.1] r9.2
 let r11 ← bs P 99 1 #[(0, r10.1)] r10.2
 let r12 ← Ar P #[99, 99] 99 #[r5.1, r11.1] r11.2
 let r13 ← vl r12.1 r12.2
 let r14 ← vl (e 4) r13.2
 let r15 ← bo P .add 3 (.tmp 10) (.const (.int .i64 1)) r14.1 (.int .i64 1) r14.2
 let r16 ← vl r15.1 r15.2
 Ec (AJ e [(6, r1.1), (7, r2.1), (8, r3.1), (9, r4.1), (12, r5.1), (13, r6.1), (14, r7.1), (15, r8.1), (16, r9.1), (17, r10.1), (18, r11.1), (19, r12.1), (3, r13.1), (10, r14.1), (11, r15.1), (4, r16.1)]) r16.2) (do
 let r17 ← vl (e 3) r4.2
 let r18 ← vl r17.1 r17.2
 some (r18.1, r18.2))) := (AH P (EV P) 87 21 (cA (cA (cB (cA (cB (cB (Ae P 87))))))) e w (Am 0 (AE P (EV P) 87 21 (cB (cB (cB (Ae P 87)))) (Bc P (AB P 87))))).trans (by kernel_rfl)
theorem MI (x0 : Value) (w : World) : Bv P (EV P) 87 #[x0] w = (do
 let r1 ← vl (Go.Value.slice none 0 0) w
 let r2 ← bs P 99 0 #[] r1.2
 let r3 ← vl r2.1 r2.2
 let r4 ← vl (.int .i64 0) r3.2
 Ec (AJ (AO #[x0]) [(2, r1.1), (5, r2.1), (3, r3.1), (4, r4.1)]) r4.2) := by kernel_rfl
noncomputable def GU (e : Env) (w : World) : Option (Value × World) := BA P (EV P) 88 10 (cA (cB (Ae P 88))) e w (AE P (EV P) 88 10 (cB (cB (Ae P 88))) (Bc P (AB P 88)))
noncomputable def GV (e : Env) (w : World) : Option (Value × World) := BA P (EV P) 88 10 (cB (cB (Ae P 88))) e w (Bc P (AB P 88))
theorem JT (e : Env) (w : World) {Q : Value × World → Prop} (h :
 (Af (vl (e 0) (dw w)) fun r1 => r1.2 = (dw w) ∧
 (Af (vl (e 1) (dw w)) fun r2 => r2.2 = (dw w) ∧
 ((Af (EV P 108 #[r2.1] (dw w)) fun r3 => (True) ∧
 ((Af (ms P 100 (.int .i64 3) (.int .i64 3) r3.2) fun r4 => (True) ∧
 (Af (bd P 102 #[(0, r1.1), (2, r3.1), (4, r4.1)] r4.2) fun r5 => r5.2 = r4.2 ∧
 ((Af (st P 102 (e 4) r5.1 r4.2) fun r6 => (True ∧ True) ∧
 Af (GV (AJ e [(5, r1.1), (6, r2.1), (7, r3.1), (8, r4.1), (9, r5.1)]) r6.2) Q)))))) ∧
 (Af (ms P 100 (.int .i64 3) (.int .i64 3) (dw w)) fun r7 => (True) ∧
 ((Af (EV P 108 #[r2.1] r7.2) fun r8 => (True) ∧
 (Af (bd P 102 #[(0, r1.1), (2, r8.1), (4, r7.1)] r8.2) fun r9 => r9.2 = r8.2 ∧
 ((Af (st P 102 (e 4) r9.1 r8.2) fun r10 => (True ∧ True) ∧
 Af (GV (AJ e [(5, r1.1), (6, r2.1), (8, r7.1), (7, r8.1), (9, r9.1)]) r10.2) Q)))))))))) : Af (GU e w) Q := FH (id := 1) (ops := opsOf (cA (cB (Ae P 88)))) (by kernel_rfl) (by kernel_rfl) (Eq.mpr (by kernel_rfl) h)
theorem Hh (e : Env) (w : World) : GV e w = (do
 let v2 ← (ld P 102 (e 4) w).bind fun r1 => AG (r1.2 = w) (some r1.1)
 some (v2, w)) := by kernel_rfl
theorem Og (x0 x1 : Value) (w : World) : Bv P (EV P) 88 #[x0, x1] w = (do
 let r1 ← al P 102 w
 GU (AJ (AO #[x0, x1]) [(4, r1.1)]) r1.2) := by kernel_rfl
theorem MJ (w : World) : Bv P (EV P) 89 #[] w = (do
 let r1 ← al P 106 w
 let r2 ← ms P 104 (.int .i64 4) (.int .i64 4) r1.2
 let r3 ← bd P 106 #[(0, r2.1)] r2.2
 let r4 ← st P 106 r1.1 r3.1 r3.2
 let v6 ← (ld P 106 r1.1 r4.2).bind fun r5 => AG (r5.2 = r4.2) (some r5.1)
 some (v6, r4.2)) := by kernel_rfl
theorem KK (x0 x1 : Value) (w : World) : Bv P (EV P) 90 #[x0, x1] w = (do
 let r1 ← bx P 67 x0 w
 let r2 ← bx P 118 x1 r1.2
 let r3 ← al P 67 r2.2
 let r4 ← vl (.bool false) r3.2
 let r5 ← fa P 118 r2.1 1 r4.2
 let r6 ← ld P 3 r5.1 r5.2
 let r7 ← fa P 67 r1.1 1 r6.2
 let r8 ← ld P 64 r7.1 r7.2
 let r9 ← Au P #[64] 3 #[r8.1] r8.2
 let r10 ← bo P .sub 3 (.tmp 10) (.const (.int .i64 1)) r9.1 (.int .i64 1) r9.2
 let r11 ← EV P 50 #[r6.1, (.int .i64 0), r10.1] r10.2
 let r12 ← uo P .not r11.1 r11.2
 AL r12.1 (do
 let r13 ← ld P 67 r1.1 r12.2
 let r14 ← st P 67 r3.1 r13.1 r13.2
 let r15 ← vl (.bool false) r14.2
 let v17 ← (ld P 67 r3.1 r15.2).bind fun r16 => AG (r16.2 = r15.2) (some r16.1)
 some (.tuple #[v17, r15.1], r15.2)) (do
 let r18 ← fa P 118 r2.1 0 r12.2
 let r19 ← ld P 3 r18.1 r18.2
 let r20 ← bo P .eql 3 (.tmp 16) (.const (.int .i64 1)) r19.1 (.int .i64 1) r19.2
 let r21 ← vl r20.1 r20.2
 AL r21.1 (do
 let r22 ← ld P 67 r1.1 r21.2
 let r23 ← ld P 118 r2.1 r22.2
 let r24 ← EV P 109 #[r22.1, r23.1] r23.2
 let r25 ← xt P r24.1 0 r24.2
 let r26 ← xt P r24.1 1 r25.2
 let r27 ← st P 67 r3.1 r25.1 r26.2
 let r28 ← vl r26.1 r27.2
 let v30 ← (ld P 67 r3.1 r28.2).bind fun r29 => AG (r29.2 = r28.2) (some r29.1)
 some (.tuple #[v30, r28.1], r28.2)) (do
 let r31 ← bo P .eql 3 (.tmp 16) (.const (.int .i64 2)) r19.1 (.int .i64 2) r21.2
 let r32 ← vl r31.1 r31.2
 AL r32.1 (do
 let r33 ← ld P 67 r1.1 r32.2
 let r34 ← ld P 118 r2.1 r33.2
 let r35 ← EV P 110 #[r33.1, r34.1] r34.2
 let r36 ← xt P r35.1 0 r35.2
 let r37 ← xt P r35.1 1 r36.2
 let r38 ← st P 67 r3.1 r36.1 r37.2
 let r39 ← vl r37.1 r38.2
 let v41 ← (ld P 67 r3.1 r39.2).bind fun r40 => AG (r40.2 = r39.2) (some r40.1)
 some (.tuple #[v41, r39.1], r39.2)) (do
 let r42 ← bo P .eql 3 (.tmp 16) (.const (.int .i64 3)) r19.1 (.int .i64 3) r32.2
 let r43 ← vl r42.1 r42.2
 AL r43.1 (do
 let r44 ← ld P 67 r1.1 r43.2
 let r45 ← ld P 118 r2.1 r44.2
 let r46 ← EV P 111 #[r44.1, r45.1] r45.2
 let r47 ← xt P r46.1 0 r46.2
 let r48 ← xt P r46.1 1 r47.2
 let r49 ← st P 67 r3.1 r47.1 r48.2
 let r50 ← vl r48.1 r49.2
 let v52 ← (ld P 67 r3.1 r50.2).bind fun r51 => AG (r51.2 = r50.2) (some r51.1)
 some (.tuple #[v52, r50.1], r50.2)) (do
 let r53 ← bo P .eql 3 (.tmp 16) (.const (.int .i64 4)) r19.1 (.int .i64 4) r43.2
 let r54 ← vl r53.1 r53.2
 AL r54.1 (do
 let r55 ← ld P 67 r1.1 r54.2
 let r56 ← ld P 118 r2.1 r55.2
 let r57 ← EV P 112 #[r55.1, r56.1] r56.2
 let r58 ← xt P r57.1 0 r57.2
 let r59 ← xt P r57.1 1 r58.2
 let r60 ← st P 67 r3.1 r58.1 r59.2
 let r61 ← vl r59.1 r60.2
 let v63 ← (ld P 67 r3.1 r61.2).bind fun r62 => AG (r62.2 = r61.2) (some r62.1)
 some (.tuple #[v63, r61.1], r61.2)) (do
 let r64 ← fa P 67 r1.1 1 r54.2
 let r65 ← ld P 64 r64.1 r64.2
 let r66 ← fa P 118 r2.1 1 r65.2
 let r67 ← ld P 3 r66.1 r66.2
 let r68 ← ia P 64 r65.1 r67.1 r67.2
 let r69 ← fa P 108 r68.1 2 r68.2
 let r70 ← fa P 39 r69.1 0 r69.2
 let r71 ← ld P 3 r70.1 r70.2
 let r72 ← bo P .gtr 3 (.tmp 52) (.const (.int .i64 0)) r71.1 (.int .i64 0) r71.2
 let r73 ← vl r72.1 r72.2
 let r74 ← Ao r73.1 false (fa P 118 r2.1 2 r73.2) r73.2
 let r75 ← Ao r73.1 false (ld P 3 r74.1 r74.2) r74.2
 let r76 ← Ao r73.1 false (EV P 50 #[r75.1, (.int .i64 0), (.int .i64 2)] r75.2) r75.2
 let r77 ← Ao r73.1 false (uo P .not r76.1 r76.2) r76.2
 let r78 ← Ax r73.1 (.bool true) r77.1 r77.2
 AL r78.1 (do
 let r79 ← ld P 67 r1.1 r78.2
 let r80 ← st P 67 r3.1 r79.1 r79.2
 let r81 ← vl (.bool false) r80.2
 let v83 ← (ld P 67 r3.1 r81.2).bind fun r82 => AG (r82.2 = r81.2) (some r82.1)
 some (.tuple #[v83, r81.1], r81.2)) (do
 let r84 ← fa P 67 r1.1 1 r78.2
 let r85 ← ld P 64 r84.1 r84.2
 let r86 ← fa P 118 r2.1 1 r85.2
 let r87 ← ld P 3 r86.1 r86.2
 let r88 ← fa P 118 r2.1 2 r87.2
 let r89 ← ld P 3 r88.1 r88.2
 let r90 ← ia P 64 r85.1 r87.1 r89.2
 let r91 ← fa P 108 r90.1 0 r90.2
 let r92 ← st P 3 r91.1 r89.1 r91.2
 let r93 ← ld P 67 r1.1 r92.2
 let r94 ← st P 67 r3.1 r93.1 r93.2
 let r95 ← vl (.bool true) r94.2
 let v97 ← (ld P 67 r3.1 r95.2).bind fun r96 => AG (r96.2 = r95.2) (some r96.1)
 some (.tuple #[v97, r95.1], r95.2)))))))) := by kernel_rfl
noncomputable def A8 (e : Env) (w : World) : Option (Value × World) := BA P (EV P) 91 87 (cB (cB (cB (cB (cB (Ae P 91)))))) e w (Bc P (AB P 91))
theorem Ju (e : Env) (w : World) : A8 e w = (do
 let r1 ← fa P 67 (e 2) 0 w
 let r2 ← ld P 63 r1.1 r1.2
 let r3 ← fa P 118 (e 3) 1 r2.2
 let r4 ← ld P 3 r3.1 r3.2
 let r5 ← ld P 102 (e 6) r4.2
 let r6 ← ia P 63 r2.1 r4.1 r5.2
 let r7 ← st P 102 r6.1 r5.1 r6.2
 let r8 ← ld P 67 (e 2) r7.2
 let r9 ← vl (e 7) r8.2
 let r10 ← st P 67 (e 4) r8.1 r9.2
 let r11 ← vl r9.1 r10.2
 let v13 ← (ld P 67 (e 4) r11.2).bind fun r12 => AG (r12.2 = r11.2) (some r12.1)
 some (.tuple #[v13, r11.1], r11.2)) := by kernel_rfl
theorem Lx (x0 x1 : Value) (w : World) : Bv P (EV P) 91 #[x0, x1] w = (do
 let r1 ← bx P 67 x0 w
 let r2 ← bx P 118 x1 r1.2
 let r3 ← al P 67 r2.2
 let r4 ← vl (.bool false) r3.2
 let r5 ← fa P 118 r2.1 1 r4.2
 let r6 ← ld P 3 r5.1 r5.2
 let r7 ← EV P 50 #[r6.1, (.int .i64 0), (.int .i64 2)] r6.2
 let r8 ← uo P .not r7.1 r7.2
 AL r8.1 (do
 let r9 ← ld P 67 r1.1 r8.2
 let r10 ← st P 67 r3.1 r9.1 r9.2
 let r11 ← vl (.bool false) r10.2
 let v13 ← (ld P 67 r3.1 r11.2).bind fun r12 => AG (r12.2 = r11.2) (some r12.1)
 some (.tuple #[v13, r11.1], r11.2)) (do
 let r14 ← fa P 67 r1.1 0 r8.2
 let r15 ← ld P 63 r14.1 r14.2
 let r16 ← fa P 118 r2.1 1 r15.2
 let r17 ← ld P 3 r16.1 r16.2
 let r18 ← ia P 63 r15.1 r17.1 r17.2
 let r19 ← ld P 102 r18.1 r18.2
 let r20 ← al P 102 r19.2
 let r21 ← st P 102 r20.1 r19.1 r20.2
 let r22 ← vl (.bool false) r21.2
 let r23 ← fa P 118 r2.1 0 r22.2
 let r24 ← ld P 3 r23.1 r23.2
 let r25 ← bo P .eql 3 (.tmp 20) (.const (.int .i64 6)) r24.1 (.int .i64 6) r24.2
 let r26 ← vl r25.1 r25.2
 AL r26.1 (do
 let r27 ← fa P 102 r20.1 2 r26.2
 let r28 ← ld P 98 r27.1 r27.2
 let r29 ← fa P 118 r2.1 2 r28.2
 let r30 ← ld P 3 r29.1 r29.2
 let r31 ← EV P 113 #[r28.1, r30.1] r30.2
 let r32 ← vl r31.1 r31.2
 let r33 ← vl r32.1 r32.2
 AL r33.1 (do
 let r34 ← fa P 102 r20.1 2 r33.2
 let r35 ← ld P 98 r34.1 r34.2
 let r36 ← fa P 118 r2.1 2 r35.2
 let r37 ← ld P 3 r36.1 r36.2
 let r38 ← EV P 114 #[r35.1, r37.1] r37.2
 let r39 ← fa P 102 r20.1 2 r38.2
 let r40 ← st P 98 r39.1 r38.1 r39.2
 let r41 ← ld P 102 r20.1 r40.2
 let r42 ← EV P 115 #[r41.1] r41.2
 let r43 ← st P 102 r20.1 r42.1 r42.2
 A8 (AJ (AO #[x0, x1]) [(2, r1.1), (3, r2.1), (4, r3.1), (5, r4.1), (8, r5.1), (9, r6.1), (10, r7.1), (11, r8.1), (13, r14.1), (14, r15.1), (15, r16.1), (16, r17.1), (17, r18.1), (18, r19.1), (6, r20.1), (7, r22.1), (19, r23.1), (20, r24.1), (36, r25.1), (35, r26.1), (37, r27.1), (38, r28.1), (39, r29.1), (40, r30.1), (41, r31.1), (7, r32.1), (42, r33.1), (43, r34.1), (44, r35.1), (45, r36.1), (46, r37.1), (47, r38.1), (48, r39.1), (49, r41.1), (50, r42.1)]) r43.2) (do
 A8 (AJ (AO #[x0, x1]) [(2, r1.1), (3, r2.1), (4, r3.1), (5, r4.1), (8, r5.1), (9, r6.1), (10, r7.1), (11, r8.1), (13, r14.1), (14, r15.1), (15, r16.1), (16, r17.1), (17, r18.1), (18, r19.1), (6, r20.1), (7, r22.1), (19, r23.1), (20, r24.1), (36, r25.1), (35, r26.1), (37, r27.1), (38, r28.1), (39, r29.1), (40, r30.1), (41, r31.1), (7, r32.1), (42, r33.1)]) r33.2)) (do
 let r44 ← bo P .eql 3 (.tmp 20) (.const (.int .i64 7)) r24.1 (.int .i64 7) r26.2
 let r45 ← vl r44.1 r44.2
 AL r45.1 (do
 let r46 ← ld P 102 r20.1 r45.2
 let r47 ← fa P 118 r2.1 2 r46.2
 let r48 ← ld P 3 r47.1 r47.2
 let r49 ← EV P 116 #[r46.1, r48.1] r48.2
 let r50 ← vl r49.1 r49.2
 let r51 ← vl r50.1 r50.2
 AL r51.1 (do
 let r52 ← fa P 102 r20.1 2 r51.2
 let r53 ← ld P 98 r52.1 r52.2
 let r54 ← fa P 118 r2.1 2 r53.2
 let r55 ← ld P 3 r54.1 r54.2
 let r56 ← EV P 117 #[r53.1, r55.1] r55.2
 let r57 ← fa P 102 r20.1 2 r56.2
 let r58 ← st P 98 r57.1 r56.1 r57.2
 let r59 ← fa P 102 r20.1 5 r58.2
 let r60 ← st P 4 r59.1 (.bool true) r59.2
 let r61 ← ld P 102 r20.1 r60.2
 let r62 ← EV P 115 #[r61.1] r61.2
 let r63 ← st P 102 r20.1 r62.1 r62.2
 A8 (AJ (AO #[x0, x1]) [(2, r1.1), (3, r2.1), (4, r3.1), (5, r4.1), (8, r5.1), (9, r6.1), (10, r7.1), (11, r8.1), (13, r14.1), (14, r15.1), (15, r16.1), (16, r17.1), (17, r18.1), (18, r19.1), (6, r20.1), (7, r22.1), (19, r23.1), (20, r24.1), (36, r25.1), (35, r26.1), (52, r44.1), (51, r45.1), (53, r46.1), (54, r47.1), (55, r48.1), (56, r49.1), (7, r50.1), (57, r51.1), (58, r52.1), (59, r53.1), (60, r54.1), (61, r55.1), (62, r56.1), (63, r57.1), (64, r59.1), (65, r61.1), (66, r62.1)]) r63.2) (do
 A8 (AJ (AO #[x0, x1]) [(2, r1.1), (3, r2.1), (4, r3.1), (5, r4.1), (8, r5.1), (9, r6.1), (10, r7.1), (11, r8.1), (13, r14.1), (14, r15.1), (15, r16.1), (16, r17.1), (17, r18.1), (18, r19.1), (6, r20.1), (7, r22.1), (19, r23.1), (20, r24.1), (36, r25.1), (35, r26.1), (52, r44.1), (51, r45.1), (53, r46.1), (54, r47.1), (55, r48.1), (56, r49.1), (7, r50.1), (57, r51.1)]) r51.2)) (do
 let r64 ← bo P .eql 3 (.tmp 20) (.const (.int .i64 8)) r24.1 (.int .i64 8) r45.2
 let r65 ← vl r64.1 r64.2
 AL r65.1 (do
 let r66 ← fa P 102 r20.1 2 r65.2
 let r67 ← fa P 98 r66.1 0 r66.2
 let r68 ← ld P 96 r67.1 r67.2
 let r69 ← Au P #[96] 3 #[r68.1] r68.2
 let r70 ← bo P .lss 3 (.tmp 72) (.const (.int .i64 4)) r69.1 (.int .i64 4) r69.2
 let r71 ← vl r70.1 r70.2
 let r72 ← vl r71.1 r71.2
 AL r72.1 (do
 let r73 ← fa P 102 r20.1 2 r72.2
 let r74 ← ld P 98 r73.1 r73.2
 let r75 ← EV P 118 #[r74.1] r74.2
 let r76 ← fa P 102 r20.1 2 r75.2
 let r77 ← st P 98 r76.1 r75.1 r76.2
 A8 (AJ (AO #[x0, x1]) [(2, r1.1), (3, r2.1), (4, r3.1), (5, r4.1), (8, r5.1), (9, r6.1), (10, r7.1), (11, r8.1), (13, r14.1), (14, r15.1), (15, r16.1), (16, r17.1), (17, r18.1), (18, r19.1), (6, r20.1), (7, r22.1), (19, r23.1), (20, r24.1), (36, r25.1), (35, r26.1), (52, r44.1), (51, r45.1), (68, r64.1), (67, r65.1), (69, r66.1), (70, r67.1), (71, r68.1), (72, r69.1), (73, r70.1), (7, r71.1), (74, r72.1), (75, r73.1), (76, r74.1), (77, r75.1), (78, r76.1)]) r77.2) (do
 A8 (AJ (AO #[x0, x1]) [(2, r1.1), (3, r2.1), (4, r3.1), (5, r4.1), (8, r5.1), (9, r6.1), (10, r7.1), (11, r8.1), (13, r14.1), (14, r15.1), (15, r16.1), (16, r17.1), (17, r18.1), (18, r19.1), (6, r20.1), (7, r22.1), (19, r23.1), (20, r24.1), (36, r25.1), (35, r26.1), (52, r44.1), (51, r45.1), (68, r64.1), (67, r65.1), (69, r66.1), (70, r67.1), (71, r68.1), (72, r69.1), (73, r70.1), (7, r71.1), (74, r72.1)]) r72.2)) (do
 let r78 ← fa P 118 r2.1 2 r65.2
 let r79 ← ld P 3 r78.1 r78.2
 let r80 ← EV P 50 #[r79.1, (.int .i64 0), (.int .i64 2)] r79.2
 let r81 ← vl r80.1 r80.2
 let r82 ← Ao r81.1 true (ld P 102 r20.1 r81.2) r81.2
 let r83 ← Ao r81.1 true (fa P 118 r2.1 2 r82.2) r82.2
 let r84 ← Ao r81.1 true (ld P 3 r83.1 r83.2) r83.2
 let r85 ← Ao r81.1 true (EV P 119 #[r82.1, r84.1] r84.2) r84.2
 let r86 ← Ax r81.1 r85.1 (.bool false) r85.2
 let r87 ← vl r86.1 r86.2
 let r88 ← vl r87.1 r87.2
 AL r88.1 (do
 let r89 ← ld P 102 r20.1 r88.2
 let r90 ← fa P 118 r2.1 2 r89.2
 let r91 ← ld P 3 r90.1 r90.2
 let r92 ← EV P 120 #[r89.1, r91.1] r91.2
 let r93 ← st P 102 r20.1 r92.1 r92.2
 A8 (AJ (AO #[x0, x1]) [(2, r1.1), (3, r2.1), (4, r3.1), (5, r4.1), (8, r5.1), (9, r6.1), (10, r7.1), (11, r8.1), (13, r14.1), (14, r15.1), (15, r16.1), (16, r17.1), (17, r18.1), (18, r19.1), (6, r20.1), (7, r22.1), (19, r23.1), (20, r24.1), (36, r25.1), (35, r26.1), (52, r44.1), (51, r45.1), (68, r64.1), (67, r65.1), (21, r78.1), (22, r79.1), (23, r80.1), (24, r81.1), (25, r82.1), (26, r83.1), (27, r84.1), (28, r85.1), (29, r86.1), (7, r87.1), (30, r88.1), (31, r89.1), (32, r90.1), (33, r91.1), (34, r92.1)]) r93.2) (do
 A8 (AJ (AO #[x0, x1]) [(2, r1.1), (3, r2.1), (4, r3.1), (5, r4.1), (8, r5.1), (9, r6.1), (10, r7.1), (11, r8.1), (13, r14.1), (14, r15.1), (15, r16.1), (16, r17.1), (17, r18.1), (18, r19.1), (6, r20.1), (7, r22.1), (19, r23.1), (20, r24.1), (36, r25.1), (35, r26.1), (52, r44.1), (51, r45.1), (68, r64.1), (67, r65.1), (21, r78.1), (22, r79.1), (23, r80.1), (24, r81.1), (25, r82.1), (26, r83.1), (27, r84.1), (28, r85.1), (29, r86.1), (7, r87.1), (30, r88.1)]) r88.2)))))) := by kernel_rfl
noncomputable def EO (e : Env) (w : World) : Option (Value × World) := BA P (EV P) 92 137 (cB (cB (cB (cB (cB (Ae P 92)))))) e w (Bc P (AB P 92))
noncomputable def Ja (e : Env) (w : World) : Option (Value × World) := BA P (EV P) 92 137 (cA (cB (cB (cB (cB (cB (cB (Ae P 92)))))))) e w (AE P (EV P) 92 137 (cB (cB (cB (cB (cB (cB (cB (Ae P 92)))))))) (Bc P (AB P 92)))
noncomputable def Dk (e : Env) (w : World) : Option (Value × World) := BA P (EV P) 92 137 (cB (cB (cB (cB (cB (cB (cB (Ae P 92)))))))) e w (Bc P (AB P 92))
noncomputable def EP (e : Env) (w : World) : Option (Value × World) := BA P (EV P) 92 137 (cB (cB (cB (cB (cB (cB (cB (cB (Ae P 92))))))))) e w (Bc P (AB P 92))
theorem KL (e : Env) (w : World) : EO e w = (do
 let r1 ← fa P 118 (e 3) 0 w
 let r2 ← ld P 3 r1.1 r1.2
 let r3 ← bo P .eql 3 (.tmp 110) (.const (.int .i64 12)) r2.1 (.int .i64 12) r2.2
 AL r3.1 (do
 let r4 ← ld P 67 (e 2) r3.2
 let r5 ← st P 67 (e 4) r4.1 r4.2
 let r6 ← vl (.bool true) r5.2
 let v8 ← (ld P 67 (e 4) r6.2).bind fun r7 => AG (r7.2 = r6.2) (some r7.1)
 some (.tuple #[v8, r6.1], r6.2)) (do
 Ja (AJ e [(109, r1.1), (110, r2.1), (111, r3.1)]) r3.2)) := by kernel_rfl
theorem JU (e : Env) (w : World) {Q : Value × World → Prop} (h :
 (Af (fa P 67 (e 2) 0 (dw w)) fun r1 => r1.2 = (dw w) ∧
 (Af (ld P 63 r1.1 (dw w)) fun r2 => r2.2 = (dw w) ∧
 (Af (fa P 112 (e 6) 1 (dw w)) fun r3 => r3.2 = (dw w) ∧
 (Af (ld P 3 r3.1 (dw w)) fun r4 => r4.2 = (dw w) ∧
 (Af (ia P 63 r2.1 r4.1 (dw w)) fun r5 => r5.2 = (dw w) ∧
 (Af (ld P 102 r5.1 (dw w)) fun r6 => r6.2 = (dw w) ∧
 (Af (fa P 112 (e 6) 0 (dw w)) fun r7 => r7.2 = (dw w) ∧
 (Af (ld P 3 r7.1 (dw w)) fun r8 => r8.2 = (dw w) ∧
 (Af (fa P 112 (e 6) 2 (dw w)) fun r9 => r9.2 = (dw w) ∧
 (Af (ld P 3 r9.1 (dw w)) fun r10 => r10.2 = (dw w) ∧
 (Af (fa P 112 (e 6) 3 (dw w)) fun r11 => r11.2 = (dw w) ∧
 (Af (ld P 110 r11.1 (dw w)) fun r12 => r12.2 = (dw w) ∧
 ((Af (EV P 121 #[r6.1, r8.1, r10.1, r12.1] (dw w)) fun r13 => (True ∧ True ∧ True ∧ True ∧ True ∧ True ∧ True ∧ True ∧ True ∧ True ∧ True ∧ True ∧ True) ∧
 (Af (vl r13.1 r13.2) fun r14 => r14.2 = r13.2 ∧
 (Af (xt P r14.1 0 r13.2) fun r15 => r15.2 = r13.2 ∧
 (Af (xt P r14.1 1 r13.2) fun r16 => r16.2 = r13.2 ∧
 ((Af (al P 102 r13.2) fun r17 => (xt P r14.1 1 r17.2 = some (r16.1, r17.2) ∧ xt P r14.1 0 r17.2 = some (r15.1, r17.2) ∧ ld P 110 r11.1 r17.2 = some (r12.1, r17.2) ∧ fa P 112 (e 6) 3 r17.2 = some (r11.1, r17.2) ∧ ld P 3 r9.1 r17.2 = some (r10.1, r17.2) ∧ fa P 112 (e 6) 2 r17.2 = some (r9.1, r17.2) ∧ ld P 3 r7.1 r17.2 = some (r8.1, r17.2) ∧ fa P 112 (e 6) 0 r17.2 = some (r7.1, r17.2) ∧ ld P 102 r5.1 r17.2 = some (r6.1, r17.2) ∧ ia P 63 r2.1 r4.1 r17.2 = some (r5.1, r17.2) ∧ ld P 3 r3.1 r17.2 = some (r4.1, r17.2) ∧ fa P 112 (e 6) 1 r17.2 = some (r3.1, r17.2) ∧ ld P 63 r1.1 r17.2 = some (r2.1, r17.2) ∧ fa P 67 (e 2) 0 r17.2 = some (r1.1, r17.2) ∧ True) ∧
 ((Af (st P 102 r17.1 r15.1 r17.2) fun r18 => (xt P r14.1 1 r18.2 = some (r16.1, r18.2) ∧ True ∧ True ∧ True ∧ True ∧ True ∧ True ∧ True ∧ True ∧ True ∧ True ∧ True ∧ True ∧ True ∧ True) ∧
 (Af (vl r16.1 r18.2) fun r19 => r19.2 = r18.2 ∧
 Af (Dk (AJ e [(114, r1.1), (115, r2.1), (116, r3.1), (117, r4.1), (118, r5.1), (119, r6.1), (120, r7.1), (121, r8.1), (122, r9.1), (123, r10.1), (124, r11.1), (125, r12.1), (126, r13.1), (113, r14.1), (127, r15.1), (128, r16.1), (7, r17.1), (8, r19.1)]) r18.2) Q))))))))) ∧
 (Af (al P 102 (dw w)) fun r20 => (ld P 110 r11.1 r20.2 = some (r12.1, r20.2) ∧ fa P 112 (e 6) 3 r20.2 = some (r11.1, r20.2) ∧ ld P 3 r9.1 r20.2 = some (r10.1, r20.2) ∧ fa P 112 (e 6) 2 r20.2 = some (r9.1, r20.2) ∧ ld P 3 r7.1 r20.2 = some (r8.1, r20.2) ∧ fa P 112 (e 6) 0 r20.2 = some (r7.1, r20.2) ∧ ld P 102 r5.1 r20.2 = some (r6.1, r20.2) ∧ ia P 63 r2.1 r4.1 r20.2 = some (r5.1, r20.2) ∧ ld P 3 r3.1 r20.2 = some (r4.1, r20.2) ∧ fa P 112 (e 6) 1 r20.2 = some (r3.1, r20.2) ∧ ld P 63 r1.1 r20.2 = some (r2.1, r20.2) ∧ fa P 67 (e 2) 0 r20.2 = some (r1.1, r20.2) ∧ True) ∧
 ((Af (EV P 121 #[r6.1, r8.1, r10.1, r12.1] r20.2) fun r21 => (True ∧ True ∧ True ∧ True ∧ True ∧ True ∧ True ∧ True ∧ True ∧ True ∧ True ∧ True ∧ True) ∧
 (Af (vl r21.1 r21.2) fun r22 => r22.2 = r21.2 ∧
 (Af (xt P r22.1 0 r21.2) fun r23 => r23.2 = r21.2 ∧
 (Af (xt P r22.1 1 r21.2) fun r24 => r24.2 = r21.2 ∧
 ((Af (st P 102 r20.1 r23.1 r21.2) fun r25 => (xt P r22.1 1 r25.2 = some (r24.1, r25.2) ∧ True ∧ True ∧ True ∧ True ∧ True ∧ True ∧ True ∧ True ∧ True ∧ True ∧ True ∧ True ∧ True ∧ True) ∧
 (Af (vl r24.1 r25.2) fun r26 => r26.2 = r25.2 ∧
 Af (Dk (AJ e [(114, r1.1), (115, r2.1), (116, r3.1), (117, r4.1), (118, r5.1), (119, r6.1), (120, r7.1), (121, r8.1), (122, r9.1), (123, r10.1), (124, r11.1), (125, r12.1), (7, r20.1), (126, r21.1), (113, r22.1), (127, r23.1), (128, r24.1), (8, r26.1)]) r25.2) Q))))))))))))))))))))))) : Af (Ja e w) Q := FH (id := 13) (ops := opsOf (cA (cB (cB (cB (cB (cB (cB (Ae P 92))))))))) (by kernel_rfl) (by kernel_rfl) (Eq.mpr (by kernel_rfl) h)
theorem KM (e : Env) (w : World) : Dk e w = (do
 let r1 ← vl (e 8) w
 AL r1.1 (do
 let r2 ← fa P 67 (e 2) 0 r1.2
 let r3 ← ld P 63 r2.1 r2.2
 let r4 ← fa P 112 (e 6) 1 r3.2
 let r5 ← ld P 3 r4.1 r4.2
 let r6 ← ld P 102 (e 7) r5.2
 let r7 ← ia P 63 r3.1 r5.1 r6.2
 let r8 ← st P 102 r7.1 r6.1 r7.2
 EP (AJ e [(129, r1.1), (130, r2.1), (131, r3.1), (132, r4.1), (133, r5.1), (134, r6.1), (135, r7.1)]) r8.2) (do
 EP (AJ e [(129, r1.1)]) r1.2)) := by kernel_rfl
theorem KN (e : Env) (w : World) : EP e w = (do
 let r1 ← ld P 67 (e 2) w
 let r2 ← st P 67 (e 4) r1.1 r1.2
 let r3 ← vl (.bool true) r2.2
 let v5 ← (ld P 67 (e 4) r3.2).bind fun r4 => AG (r4.2 = r3.2) (some r4.1)
 some (.tuple #[v5, r3.1], r3.2)) := by kernel_rfl
theorem Oh (x0 x1 : Value) (w : World) : Bv P (EV P) 92 #[x0, x1] w = (do
 let r1 ← bx P 67 x0 w
 let r2 ← bx P 118 x1 r1.2
 let r3 ← al P 67 r2.2
 let r4 ← vl (.bool false) r3.2
 let r5 ← fa P 118 r2.1 0 r4.2
 let r6 ← ld P 3 r5.1 r5.2
 let r7 ← bo P .eql 3 (.tmp 10) (.const (.int .i64 10)) r6.1 (.int .i64 10) r6.2
 AL r7.1 (do
 Ah (fa P 118 r2.1 1) (dw r7.2) fun r9 => do
 Ah (ld P 3 r9.1) (dw r7.2) fun r10 => do
 let r11 ← EV P 50 #[r10.1, (.int .i64 0), (.int .i64 2)] (dw r7.2)
 AG qt3 <| do
 Ah (uo P .not r11.1) r11.2 fun r12 => do
 Ah (vl r12.1) r11.2 fun r13 => do
 Ah (Ao r13.1 false (fa P 118 r2.1 2 r11.2)) r11.2 fun r14 => do
 Ah (Ao r13.1 false (ld P 3 r14.1 r11.2)) r11.2 fun r15 => do
 let r16 ← Ao r13.1 false (EV P 50 #[r15.1, (.int .i64 0), (.int .i64 2)] r11.2) r11.2
 AG qt6 <| do
 Ah (Ao r13.1 false (uo P .not r16.1 r16.2)) r16.2 fun r17 => do
 Ah (Ax r13.1 (.bool true) r17.1) r16.2 fun r18 => do
 Ah (vl r18.1) r16.2 fun r19 => do
 Ah (Ao r19.1 false (fa P 118 r2.1 1 r16.2)) r16.2 fun r20 => do
 Ah (Ao r19.1 false (ld P 3 r20.1 r16.2)) r16.2 fun r21 => do
 Ah (Ao r19.1 false (fa P 118 r2.1 2 r16.2)) r16.2 fun r22 => do
 Ah (Ao r19.1 false (ld P 3 r22.1 r16.2)) r16.2 fun r23 => do
 Ah (Ao r19.1 false (bo P .eql 3 (.tmp 24) (.tmp 26) r21.1 r23.1 r16.2)) r16.2 fun r24 => do
 Ah (Ax r19.1 (.bool true) r24.1) r16.2 fun r25 => do
 Ah (vl r25.1) r16.2 fun r26 => do
 Ah (Ao r26.1 false (fa P 67 r1.1 2 r16.2)) r16.2 fun r27 => do
 Ah (Ao r26.1 false (ld P 65 r27.1 r16.2)) r16.2 fun r28 => do
 Ah (Ao r26.1 false (Au P #[65] 3 #[r28.1] r16.2)) r16.2 fun r29 => do
 Ah (Ao r26.1 false (bo P .geq 3 (.tmp 32) (.const (.int .i64 12)) r29.1 (.int .i64 12) r16.2)) r16.2 fun r30 => do
 Ah (Ax r26.1 (.bool true) r30.1) r16.2 fun r31 => do
 Ah (vl r31.1) r16.2 fun r32 => do
 Ah (Ao r32.1 false (fa P 118 r2.1 3 r16.2)) r16.2 fun r33 => do
 Ah (Ao r32.1 false (ld P 3 r33.1 r16.2)) r16.2 fun r34 => do
 Ah (Ao r32.1 false (fa P 67 r1.1 0 r16.2)) r16.2 fun r35 => do
 Ah (Ao r32.1 false (ld P 63 r35.1 r16.2)) r16.2 fun r36 => do
 Ah (Ao r32.1 false (fa P 118 r2.1 1 r16.2)) r16.2 fun r37 => do
 Ah (Ao r32.1 false (ld P 3 r37.1 r16.2)) r16.2 fun r38 => do
 Ah (Ao r32.1 false (ia P 63 r36.1 r38.1 r16.2)) r16.2 fun r39 => do
 Ah (Ao r32.1 false (fa P 102 r39.1 3 r16.2)) r16.2 fun r40 => do
 Ah (Ao r32.1 false (ld P 99 r40.1 r16.2)) r16.2 fun r41 => do
 Ah (Ao r32.1 false (Au P #[99] 3 #[r41.1] r16.2)) r16.2 fun r42 => do
 Ah (Ao r32.1 false (bo P .sub 3 (.tmp 45) (.const (.int .i64 1)) r42.1 (.int .i64 1) r16.2)) r16.2 fun r43 => do
 let r44 ← Ao r32.1 false (EV P 50 #[r34.1, (.int .i64 0), r43.1] r16.2) r16.2
 AG qt27 <| do
 Ah (Ao r32.1 false (uo P .not r44.1 r44.2)) r44.2 fun r45 => do
 Ah (Ax r32.1 (.bool true) r45.1) r44.2 fun r46 => do
 AL r46.1 (do
 let r47 ← ld P 67 r1.1 r44.2
 let r48 ← st P 67 r3.1 r47.1 r47.2
 let r49 ← vl (.bool false) r48.2
 let v51 ← (ld P 67 r3.1 r49.2).bind fun r50 => AG (r50.2 = r49.2) (some r50.1)
 some (.tuple #[v51, r49.1], r49.2)) (do
 Ah (fa P 67 r1.1 2) (dw r44.2) fun r53 => do
 Ah (ld P 65 r53.1) (dw r44.2) fun r54 => do
 Ah (fa P 118 r2.1 1) (dw r44.2) fun r55 => do
 Ah (ld P 3 r55.1) (dw r44.2) fun r56 => do
 Ah (fa P 118 r2.1 2) (dw r44.2) fun r57 => do
 Ah (ld P 3 r57.1) (dw r44.2) fun r58 => do
 Ah (fa P 118 r2.1 3) (dw r44.2) fun r59 => do
 Ah (ld P 3 r59.1) (dw r44.2) fun r60 => do
 Ah (fa P 67 r1.1 0) (dw r44.2) fun r61 => do
 Ah (ld P 63 r61.1) (dw r44.2) fun r62 => do
 Ah (fa P 118 r2.1 1) (dw r44.2) fun r63 => do
 Ah (ld P 3 r63.1) (dw r44.2) fun r64 => do
 Ah (ia P 63 r62.1 r64.1) (dw r44.2) fun r65 => do
 Ah (fa P 102 r65.1 3) (dw r44.2) fun r66 => do
 Ah (ld P 99 r66.1) (dw r44.2) fun r67 => do
 Ah (fa P 118 r2.1 3) (dw r44.2) fun r68 => do
 Ah (ld P 3 r68.1) (dw r44.2) fun r69 => do
 Ah (ia P 99 r67.1 r69.1) (dw r44.2) fun r70 => do
 Ah (ld P 110 r70.1) (dw r44.2) fun r71 => do
 let r72 ← EV P 66 #[r71.1] (dw r44.2)
 AG (True ∧ True ∧ True ∧ True ∧ True ∧ True ∧ True ∧ True ∧ True ∧ True ∧ True ∧ ld P 3 r59.1 r72.2 = some (r60.1, r72.2) ∧ fa P 118 r2.1 3 r72.2 = some (r59.1, r72.2) ∧ ld P 3 r57.1 r72.2 = some (r58.1, r72.2) ∧ fa P 118 r2.1 2 r72.2 = some (r57.1, r72.2) ∧ ld P 3 r55.1 r72.2 = some (r56.1, r72.2) ∧ fa P 118 r2.1 1 r72.2 = some (r55.1, r72.2) ∧ ld P 65 r53.1 r72.2 = some (r54.1, r72.2) ∧ fa P 67 r1.1 2 r72.2 = some (r53.1, r72.2) ∧ True) <| do
 Ah (bd P 112 #[(0, r56.1), (1, r58.1), (2, r60.1), (3, r72.1)]) r72.2 fun r73 => do
 let r74 ← bs P 65 1 #[(0, r73.1)] r72.2
 AG (True ∧ True ∧ True ∧ True ∧ True ∧ True ∧ True ∧ True ∧ True ∧ True ∧ True ∧ True ∧ True ∧ True ∧ True ∧ True ∧ True ∧ True ∧ ld P 65 r53.1 r74.2 = some (r54.1, r74.2) ∧ fa P 67 r1.1 2 r74.2 = some (r53.1, r74.2) ∧ True) <| do
 let r75 ← Ar P #[65, 65] 65 #[r54.1, r74.1] r74.2
 AG qt21 <| do
 Ah (fa P 67 r1.1 2) r75.2 fun r76 => do
 let r77 ← st P 65 r76.1 r75.1 r75.2
 AG qt22 <| do
 let r78 ← ld P 67 r1.1 r77.2
 let r79 ← st P 67 r3.1 r78.1 r78.2
 let r80 ← vl (.bool true) r79.2
 let v82 ← (ld P 67 r3.1 r80.2).bind fun r81 => AG (r81.2 = r80.2) (some r81.1)
 some (.tuple #[v82, r80.1], r80.2))) (do
 let r83 ← fa P 118 r2.1 1 r7.2
 let r84 ← ld P 3 r83.1 r83.2
 let r85 ← fa P 67 r1.1 2 r84.2
 let r86 ← ld P 65 r85.1 r85.2
 let r87 ← Au P #[65] 3 #[r86.1] r86.2
 let r88 ← bo P .sub 3 (.tmp 80) (.const (.int .i64 1)) r87.1 (.int .i64 1) r87.2
 let r89 ← EV P 50 #[r84.1, (.int .i64 0), r88.1] r88.2
 let r90 ← uo P .not r89.1 r89.2
 AL r90.1 (do
 let r91 ← ld P 67 r1.1 r90.2
 let r92 ← st P 67 r3.1 r91.1 r91.2
 let r93 ← vl (.bool false) r92.2
 let v95 ← (ld P 67 r3.1 r93.2).bind fun r94 => AG (r94.2 = r93.2) (some r94.1)
 some (.tuple #[v95, r93.1], r93.2)) (do
 let r96 ← fa P 67 r1.1 2 r90.2
 let r97 ← ld P 65 r96.1 r96.2
 let r98 ← fa P 118 r2.1 1 r97.2
 let r99 ← ld P 3 r98.1 r98.2
 let r100 ← ia P 65 r97.1 r99.1 r99.2
 let r101 ← ld P 112 r100.1 r100.2
 let r102 ← al P 112 r101.2
 let r103 ← st P 112 r102.1 r101.1 r102.2
 let r104 ← fa P 118 r2.1 0 r103.2
 let r105 ← ld P 3 r104.1 r104.2
 let r106 ← bo P .neq 3 (.tmp 92) (.const (.int .i64 13)) r105.1 (.int .i64 13) r105.2
 AL r106.1 (do
 Ah (fa P 67 r1.1 2) (dw r106.2) fun r108 => do
 Ah (ld P 65 r108.1) (dw r106.2) fun r109 => do
 Ah (fa P 118 r2.1 1) (dw r106.2) fun r110 => do
 Ah (ld P 3 r110.1) (dw r106.2) fun r111 => do
 Ah (sl P 65 r109.1 none (some r111.1) none) (dw r106.2) fun r112 => do
 Ah (fa P 67 r1.1 2) (dw r106.2) fun r113 => do
 Ah (ld P 65 r113.1) (dw r106.2) fun r114 => do
 Ah (fa P 118 r2.1 1) (dw r106.2) fun r115 => do
 Ah (ld P 3 r115.1) (dw r106.2) fun r116 => do
 Ah (bo P .add 3 (.tmp 104) (.const (.int .i64 1)) r116.1 (.int .i64 1)) (dw r106.2) fun r117 => do
 Ah (sl P 65 r114.1 (some r117.1) none none) (dw r106.2) fun r118 => do
 let r119 ← bs P 65 0 #[] (dw r106.2)
 AG (sl P 65 r114.1 (some r117.1) none none r119.2 = some (r118.1, r119.2) ∧ bo P .add 3 (.tmp 104) (.const (.int .i64 1)) r116.1 (.int .i64 1) r119.2 = some (r117.1, r119.2) ∧ ld P 3 r115.1 r119.2 = some (r116.1, r119.2) ∧ fa P 118 r2.1 1 r119.2 = some (r115.1, r119.2) ∧ ld P 65 r113.1 r119.2 = some (r114.1, r119.2) ∧ fa P 67 r1.1 2 r119.2 = some (r113.1, r119.2) ∧ sl P 65 r109.1 none (some r111.1) none r119.2 = some (r112.1, r119.2) ∧ ld P 3 r110.1 r119.2 = some (r111.1, r119.2) ∧ fa P 118 r2.1 1 r119.2 = some (r110.1, r119.2) ∧ ld P 65 r108.1 r119.2 = some (r109.1, r119.2) ∧ fa P 67 r1.1 2 r119.2 = some (r108.1, r119.2) ∧ True) <| do
 let r120 ← Ar P #[65, 65] 65 #[r119.1, r112.1] r119.2
 AG (sl P 65 r114.1 (some r117.1) none none r120.2 = some (r118.1, r120.2) ∧ bo P .add 3 (.tmp 104) (.const (.int .i64 1)) r116.1 (.int .i64 1) r120.2 = some (r117.1, r120.2) ∧ ld P 3 r115.1 r120.2 = some (r116.1, r120.2) ∧ fa P 118 r2.1 1 r120.2 = some (r115.1, r120.2) ∧ ld P 65 r113.1 r120.2 = some (r114.1, r120.2) ∧ fa P 67 r1.1 2 r120.2 = some (r113.1, r120.2) ∧ True ∧ True ∧ True ∧ True ∧ True ∧ True) <| do
 let r121 ← Ar P #[65, 65] 65 #[r120.1, r118.1] r120.2
 AG qt12 <| do
 Ah (fa P 67 r1.1 2) r121.2 fun r122 => do
 let r123 ← st P 65 r122.1 r121.1 r121.2
 AG qt13 <| do
 EO (AJ (AO #[x0, x1]) [(2, r1.1), (3, r2.1), (4, r3.1), (5, r4.1), (9, r5.1), (10, r6.1), (11, r7.1), (76, r83.1), (77, r84.1), (78, r85.1), (79, r86.1), (80, r87.1), (81, r88.1), (82, r89.1), (83, r90.1), (85, r96.1), (86, r97.1), (87, r98.1), (88, r99.1), (89, r100.1), (90, r101.1), (6, r102.1), (91, r104.1), (92, r105.1), (93, r106.1), (95, r108.1), (96, r109.1), (97, r110.1), (98, r111.1), (99, r112.1), (101, r113.1), (102, r114.1), (103, r115.1), (104, r116.1), (105, r117.1), (106, r118.1), (94, r119.1), (100, r120.1), (107, r121.1), (108, r122.1)]) r123.2) (do
 EO (AJ (AO #[x0, x1]) [(2, r1.1), (3, r2.1), (4, r3.1), (5, r4.1), (9, r5.1), (10, r6.1), (11, r7.1), (76, r83.1), (77, r84.1), (78, r85.1), (79, r86.1), (80, r87.1), (81, r88.1), (82, r89.1), (83, r90.1), (85, r96.1), (86, r97.1), (87, r98.1), (88, r99.1), (89, r100.1), (90, r101.1), (6, r102.1), (91, r104.1), (92, r105.1), (93, r106.1)]) r106.2)))) := by kernel_rfl
theorem Fb (x0 : Value) (w : World) : Bv P (EV P) 93 #[x0] w = (do
 let r1 ← vl (.int .i64 0) w
 let r2 ← vl x0 r1.2
 let r3 ← bo P .mul 3 (.tmp 3) (.const (.int .i64 78913)) r2.1 (.int .i64 78913) r2.2
 let r4 ← bo P .shr 3 (.tmp 4) (.const (.int .u64 18)) r3.1 (.int .u64 18) r3.2
 let r5 ← vl r4.1 r4.2
 some (r5.1, r5.2)) := by kernel_rfl
noncomputable def DD (e : Env) (w : World) : Option (Value × World) := BA P (EV P) 94 25 (cB (cB (Ae P 94))) e w (Bc P (AB P 94))
noncomputable def DE (e : Env) (w : World) : Option (Value × World) := BA P (EV P) 94 25 (cB (cB (cB (Ae P 94)))) e w (Bc P (AB P 94))
noncomputable def DF (e : Env) (w : World) : Option (Value × World) := BA P (EV P) 94 25 (cB (cB (cB (cB (Ae P 94))))) e w (Bc P (AB P 94))
theorem HX (e : Env) (w : World) : DD e w = (do
 let r1 ← vl (e 0) w
 let r2 ← bo P .geq 120 (.tmp 7) (.const (.int .u64 65536)) r1.1 (.int .u64 65536) r1.2
 AL r2.1 (do
 let r3 ← vl (e 0) r2.2
 let r4 ← bo P .shr 120 (.tmp 9) (.const (.int .u64 16)) r3.1 (.int .u64 16) r3.2
 let r5 ← vl r4.1 r4.2
 let r6 ← vl (e 2) r5.2
 let r7 ← bo P .add 3 (.tmp 11) (.const (.int .i64 16)) r6.1 (.int .i64 16) r6.2
 let r8 ← vl r7.1 r7.2
 DE (AJ e [(7, r1.1), (8, r2.1), (9, r3.1), (10, r4.1), (0, r5.1), (11, r6.1), (12, r7.1), (2, r8.1)]) r8.2) (do
 DE (AJ e [(7, r1.1), (8, r2.1)]) r2.2)) := by kernel_rfl
theorem HY (e : Env) (w : World) : DE e w = (do
 let r1 ← vl (e 0) w
 let r2 ← bo P .geq 120 (.tmp 13) (.const (.int .u64 256)) r1.1 (.int .u64 256) r1.2
 AL r2.1 (do
 let r3 ← vl (e 0) r2.2
 let r4 ← bo P .shr 120 (.tmp 15) (.const (.int .u64 8)) r3.1 (.int .u64 8) r3.2
 let r5 ← vl r4.1 r4.2
 let r6 ← vl (e 2) r5.2
 let r7 ← bo P .add 3 (.tmp 17) (.const (.int .i64 8)) r6.1 (.int .i64 8) r6.2
 let r8 ← vl r7.1 r7.2
 DF (AJ e [(13, r1.1), (14, r2.1), (15, r3.1), (16, r4.1), (0, r5.1), (17, r6.1), (18, r7.1), (2, r8.1)]) r8.2) (do
 DF (AJ e [(13, r1.1), (14, r2.1)]) r2.2)) := by kernel_rfl
theorem EC (e : Env) (w : World) : DF e w = (do
 let r1 ← vl (e 2) w
 let r2 ← vl (e 0) r1.2
 let r3 ← cv P 120 5 r2.1 r2.2
 let r4 ← ix P 9 (Go.Value.string { data := #[0, 1, 2, 2, 3, 3, 3, 3, 4, 4, 4, 4, 4, 4, 4, 4, 5, 5, 5, 5, 5, 5, 5, 5, 5, 5, 5, 5, 5, 5, 5, 5, 6, 6, 6, 6, 6, 6, 6, 6, 6, 6, 6, 6, 6, 6, 6, 6, 6, 6, 6, 6, 6, 6, 6, 6, 6, 6, 6, 6, 6, 6, 6, 6, 7, 7, 7, 7, 7, 7, 7, 7, 7, 7, 7, 7, 7, 7, 7, 7, 7, 7, 7, 7, 7, 7, 7, 7, 7, 7, 7, 7, 7, 7, 7, 7, 7, 7, 7, 7, 7, 7, 7, 7, 7, 7, 7, 7, 7, 7, 7, 7, 7, 7, 7, 7, 7, 7, 7, 7, 7, 7, 7, 7, 7, 7, 7, 7, 8, 8, 8, 8, 8, 8, 8, 8, 8, 8, 8, 8, 8, 8, 8, 8, 8, 8, 8, 8, 8, 8, 8, 8, 8, 8, 8, 8, 8, 8, 8, 8, 8, 8, 8, 8, 8, 8, 8, 8, 8, 8, 8, 8, 8, 8, 8, 8, 8, 8, 8, 8, 8, 8, 8, 8, 8, 8, 8, 8, 8, 8, 8, 8, 8, 8, 8, 8, 8, 8, 8, 8, 8, 8, 8, 8, 8, 8, 8, 8, 8, 8, 8, 8, 8, 8, 8, 8, 8, 8, 8, 8, 8, 8, 8, 8, 8, 8, 8, 8, 8, 8, 8, 8, 8, 8, 8, 8, 8, 8, 8, 8, 8, 8, 8, 8, 8, 8, 8, 8, 8, 8, 8, 8, 8, 8, 8, 8] }) r3.1 r3.2
 let r5 ← cv P 5 3 r4.1 r4.2
 let r6 ← bo P .add 3 (.tmp 19) (.tmp 23) r1.1 r5.1 r5.2
 let r7 ← vl r6.1 r6.2
 some (r7.1, r7.2)) := by kernel_rfl
theorem Jv (x0 : Value) (w : World) : Bv P (EV P) 94 #[x0] w = (do
 let r1 ← vl (.int .i64 0) w
 let r2 ← vl x0 r1.2
 let r3 ← bo P .geq 120 (.tmp 3) (.const (.int .u64 4294967296)) r2.1 (.int .u64 4294967296) r2.2
 AL r3.1 (do
 let r4 ← vl x0 r3.2
 let r5 ← bo P .shr 120 (.tmp 5) (.const (.int .u64 32)) r4.1 (.int .u64 32) r4.2
 let r6 ← vl r5.1 r5.2
 let r7 ← vl (.int .i64 32) r6.2
 DD (AJ (AO #[x0]) [(2, r1.1), (3, r2.1), (4, r3.1), (5, r4.1), (6, r5.1), (0, r6.1), (2, r7.1)]) r7.2) (do
 DD (AJ (AO #[x0]) [(2, r1.1), (3, r2.1), (4, r3.1)]) r3.2)) := by kernel_rfl
theorem Fc (x0 : Value) (w : World) : Bv P (EV P) 95 #[x0] w = (do
 let r1 ← vl (.int .i64 0) w
 let r2 ← vl x0 r1.2
 AL r2.1 (do
 let r3 ← vl (.int .i64 1) r2.2
 some (r3.1, r3.2)) (do
 let r4 ← vl (.int .i64 0) r2.2
 some (r4.1, r4.2))) := by kernel_rfl
noncomputable def AK (e : Env) (w : World) : Option (Value × World) := BA P (EV P) 103 172 (cB (cB (cB (cB (cB (Ae P 103)))))) e w (Bc P (AB P 103))
noncomputable def BK (e : Env) (w : World) : Option (Value × World) := BA P (EV P) 103 172 (cB (cB (cB (cB (cB (cB (Ae P 103))))))) e w (Bc P (AB P 103))
noncomputable def Bg (e : Env) (w : World) : Option (Value × World) := BA P (EV P) 103 172 (cB (cB (cB (cB (cB (cB (cB (cB (Ae P 103))))))))) e w (Bc P (AB P 103))
noncomputable def Bh (e : Env) (w : World) : Option (Value × World) := BA P (EV P) 103 172 (.loop (cA (cA (cB (cA (cB (cB (cB (cB (cB (cB (cB (cB (cB (cB (cB (Ae P 103))))))))))))))))) e w (Am 3 (AE P (EV P) 103 172 (cB (cB (cB (cB (cB (cB (cB (cB (cB (cB (cB (cB (Ae P 103))))))))))))) (Bc P (AB P 103))))
noncomputable def Bi (e : Env) (w : World) : Option (Value × World) := BA P (EV P) 103 172 (cB (cB (cB (cA (cA (cB (cA (cB (cB (cB (cB (cB (cB (cB (cB (cB (cB (cB (Ae P 103))))))))))))))))))) e w (DM P (EV P) 103 172 (cA (cA (cB (cA (cB (cB (cB (cB (cB (cB (cB (cB (cB (cB (cB (Ae P 103)))))))))))))))) (Am 3 (AE P (EV P) 103 172 (cB (cB (cB (cB (cB (cB (cB (cB (cB (cB (cB (cB (Ae P 103))))))))))))) (Bc P (AB P 103)))))
noncomputable def Bj (e : Env) (w : World) : Option (Value × World) := BA P (EV P) 103 172 (cB (cB (cB (cA (cA (cB (cB (cA (cA (cB (cA (cB (cB (cB (cB (cB (cB (cB (cB (cB (cB (cB (Ae P 103))))))))))))))))))))))) e w (Am 4 (AE P (EV P) 103 172 (cB (cB (cB (cA (cA (cB (cA (cB (cB (cB (cB (cB (cB (cB (cB (cB (cB (cB (Ae P 103))))))))))))))))))) (DM P (EV P) 103 172 (cA (cA (cB (cA (cB (cB (cB (cB (cB (cB (cB (cB (cB (cB (cB (Ae P 103)))))))))))))))) (Am 3 (AE P (EV P) 103 172 (cB (cB (cB (cB (cB (cB (cB (cB (cB (cB (cB (cB (Ae P 103))))))))))))) (Bc P (AB P 103)))))))
theorem Ed (e : Env) (w : World) : AK e w = (do
 let r1 ← vl (e 2) w
 let r2 ← bo P .eql 3 (.tmp 76) (.const (.int .i64 0)) r1.1 (.int .i64 0) r1.2
 AL r2.1 (do
 let r3 ← vl (.int .i64 64) r2.2
 BK (AJ e [(76, r1.1), (77, r2.1), (2, r3.1)]) r3.2) (do
 let r4 ← vl (e 2) r2.2
 let r5 ← bo P .lss 3 (.tmp 78) (.const (.int .i64 0)) r4.1 (.int .i64 0) r4.2
 let r6 ← vl r5.1 r5.2
 let r7 ← Ao r6.1 false (vl (e 2) r6.2) r6.2
 let r8 ← Ao r6.1 false (bo P .gtr 3 (.tmp 81) (.const (.int .i64 64)) r7.1 (.int .i64 64) r7.2) r7.2
 let r9 ← Ax r6.1 (.bool true) r8.1 r8.2
 AL r9.1 (do
 let r10 ← mi P 128 (.int .i64 4) r9.2
 let r11 ← vl (.int .u64 0) r10.2
 let r12 ← vl r10.1 r11.2
 some (.tuple #[r11.1, r12.1], r12.2)) (do
 BK (AJ e [(76, r1.1), (77, r2.1), (78, r4.1), (79, r5.1), (80, r6.1), (81, r7.1), (82, r8.1), (83, r9.1)]) r9.2))) := by kernel_rfl
theorem Ee (e : Env) (w : World) : BK e w = (do
 let r1 ← vl (.int .u64 0) w
 let r2 ← vl (e 1) r1.2
 let r3 ← bo P .eql 3 (.tmp 85) (.const (.int .i64 10)) r2.1 (.int .i64 10) r2.2
 let r4 ← vl r3.1 r3.2
 AL r4.1 (do
 let r5 ← vl (.int .u64 1844674407370955162) r4.2
 Bg (AJ e [(10, r1.1), (85, r2.1), (91, r3.1), (90, r4.1), (10, r5.1)]) r5.2) (do
 let r6 ← bo P .eql 3 (.tmp 85) (.const (.int .i64 16)) r2.1 (.int .i64 16) r4.2
 let r7 ← vl r6.1 r6.2
 AL r7.1 (do
 let r8 ← vl (.int .u64 1152921504606846976) r7.2
 Bg (AJ e [(10, r1.1), (85, r2.1), (91, r3.1), (90, r4.1), (93, r6.1), (92, r7.1), (10, r8.1)]) r8.2) (do
 let r9 ← vl (e 1) r7.2
 let r10 ← cv P 3 120 r9.1 r9.2
 let r11 ← bo P .quo 120 (.const (.int .u64 18446744073709551615)) (.tmp 87) (.int .u64 18446744073709551615) r10.1 r10.2
 let r12 ← bo P .add 120 (.tmp 88) (.const (.int .u64 1)) r11.1 (.int .u64 1) r11.2
 let r13 ← vl r12.1 r12.2
 Bg (AJ e [(10, r1.1), (85, r2.1), (91, r3.1), (90, r4.1), (93, r6.1), (92, r7.1), (86, r9.1), (87, r10.1), (88, r11.1), (89, r12.1), (10, r13.1)]) r13.2))) := by kernel_rfl
theorem Ef (e : Env) (w : World) : Bg e w = (do
 let r1 ← vl (e 2) w
 let r2 ← cv P 3 126 r1.1 r1.2
 let r3 ← bo P .shl 120 (.const (.int .u64 1)) (.tmp 95) (.int .u64 1) r2.1 r2.2
 let r4 ← bo P .sub 120 (.tmp 96) (.const (.int .u64 1)) r3.1 (.int .u64 1) r3.2
 let r5 ← vl r4.1 r4.2
 let r6 ← vl (.bool false) r5.2
 let r7 ← vl (.int .u64 0) r6.2
 let r8 ← vl (e 0) r7.2
 let r9 ← cv P 9 22 r8.1 r8.2
 let r10 ← Au P #[22] 3 #[r9.1] r9.2
 let r11 ← vl (.int .i64 0) r10.2
 Bh (AJ e [(94, r1.1), (95, r2.1), (96, r3.1), (97, r4.1), (11, r5.1), (12, r6.1), (13, r7.1), (98, r8.1), (99, r9.1), (100, r10.1), (101, r11.1)]) r11.2) := by kernel_rfl
theorem B7 (e : Env) (w : World) : Bh e w = (do
 let r1 ← bo P .lss 3 (.tmp 101) (.tmp 100) (e 101) (e 100) w
 AL r1.1 (do
 let r2 ← ia P 22 (e 99) (e 101) r1.2
 let r3 ← ld P 5 r2.1 r2.2
 let r4 ← vl r3.1 r3.2
 let r5 ← vl (.int .u8 0) r4.2
 let r6 ← vl r4.1 r5.2
 let r7 ← bo P .eql 5 (.tmp 107) (.const (.int .u8 95)) r6.1 (.int .u8 95) r6.2
 let r8 ← vl r7.1 r7.2
 let r9 ← Ao r8.1 true (vl (e 8) r8.2) r8.2
 let r10 ← Ax r8.1 r9.1 (.bool false) r9.2
 let r11 ← vl r10.1 r10.2
 AL r11.1 (do
 let r12 ← vl (.bool true) r11.2
 Bi (AJ e [(102, r1.1), (103, r2.1), (104, r3.1), (15, r4.1), (16, r5.1), (107, r6.1), (108, r7.1), (109, r8.1), (110, r9.1), (111, r10.1), (106, r11.1), (12, r12.1)]) r12.2) (do
 let r13 ← vl r4.1 r11.2
 let r14 ← bo P .leq 5 (.const (.int .u8 48)) (.tmp 113) (.int .u8 48) r13.1 r13.2
 let r15 ← vl r14.1 r14.2
 let r16 ← Ao r15.1 true (vl r4.1 r15.2) r15.2
 let r17 ← Ao r15.1 true (bo P .leq 5 (.tmp 116) (.const (.int .u8 57)) r16.1 (.int .u8 57) r16.2) r16.2
 let r18 ← Ax r15.1 r17.1 (.bool false) r17.2
 let r19 ← vl r18.1 r18.2
 AL r19.1 (do
 let r20 ← vl r4.1 r19.2
 let r21 ← bo P .sub 5 (.tmp 119) (.const (.int .u8 48)) r20.1 (.int .u8 48) r20.2
 let r22 ← vl r21.1 r21.2
 Bj (AJ e [(102, r1.1), (103, r2.1), (104, r3.1), (15, r4.1), (16, r5.1), (107, r6.1), (108, r7.1), (109, r8.1), (110, r9.1), (111, r10.1), (106, r11.1), (113, r13.1), (114, r14.1), (115, r15.1), (116, r16.1), (117, r17.1), (118, r18.1), (112, r19.1), (119, r20.1), (120, r21.1), (16, r22.1)]) r22.2) (do
 let r23 ← vl r4.1 r19.2
 let r24 ← EV P 125 #[r23.1] r23.2
 let r25 ← bo P .leq 5 (.const (.int .u8 97)) (.tmp 123) (.int .u8 97) r24.1 r24.2
 let r26 ← vl r25.1 r25.2
 let r27 ← Ao r26.1 true (vl r4.1 r26.2) r26.2
 let r28 ← Ao r26.1 true (EV P 125 #[r27.1] r27.2) r27.2
 let r29 ← Ao r26.1 true (bo P .leq 5 (.tmp 127) (.const (.int .u8 122)) r28.1 (.int .u8 122) r28.2) r28.2
 let r30 ← Ax r26.1 r29.1 (.bool false) r29.2
 let r31 ← vl r30.1 r30.2
 AL r31.1 (do
 let r32 ← vl r4.1 r31.2
 let r33 ← EV P 125 #[r32.1] r32.2
 let r34 ← bo P .sub 5 (.tmp 131) (.const (.int .u8 97)) r33.1 (.int .u8 97) r33.2
 let r35 ← bo P .add 5 (.tmp 132) (.const (.int .u8 10)) r34.1 (.int .u8 10) r34.2
 let r36 ← vl r35.1 r35.2
 Bj (AJ e [(102, r1.1), (103, r2.1), (104, r3.1), (15, r4.1), (16, r5.1), (107, r6.1), (108, r7.1), (109, r8.1), (110, r9.1), (111, r10.1), (106, r11.1), (113, r13.1), (114, r14.1), (115, r15.1), (116, r16.1), (117, r17.1), (118, r18.1), (112, r19.1), (122, r23.1), (123, r24.1), (124, r25.1), (125, r26.1), (126, r27.1), (127, r28.1), (128, r29.1), (129, r30.1), (121, r31.1), (130, r32.1), (131, r33.1), (132, r34.1), (133, r35.1), (16, r36.1)]) r36.2) (do
 let r37 ← mi P 128 (.int .i64 2) r31.2
 let r38 ← vl (.int .u64 0) r37.2
 let r39 ← vl r37.1 r38.2
 some (.tuple #[r38.1, r39.1], r39.2))))) (do
 let r40 ← vl (e 12) r1.2
 let r41 ← vl r40.1 r40.2
 let r42 ← Ao r41.1 true (vl (e 9) r41.2) r41.2
 let r43 ← Ao r41.1 true (EV P 126 #[r42.1] r42.2) r42.2
 let r44 ← Ao r41.1 true (uo P .not r43.1 r43.2) r43.2
 let r45 ← Ax r41.1 r44.1 (.bool false) r44.2
 AL r45.1 (do
 let r46 ← mi P 128 (.int .i64 2) r45.2
 let r47 ← vl (.int .u64 0) r46.2
 let r48 ← vl r46.1 r47.2
 some (.tuple #[r47.1, r48.1], r48.2)) (do
 let r49 ← vl (e 13) r45.2
 let r50 ← vl r49.1 r49.2
 let r51 ← vl Go.Value.nilIface r50.2
 some (.tuple #[r50.1, r51.1], r51.2)))) := (AH P (EV P) 103 172 (cA (cA (cB (cA (cB (cB (cB (cB (cB (cB (cB (cB (cB (cB (cB (Ae P 103)))))))))))))))) e w (Am 3 (AE P (EV P) 103 172 (cB (cB (cB (cB (cB (cB (cB (cB (cB (cB (cB (cB (Ae P 103))))))))))))) (Bc P (AB P 103))))).trans (by kernel_rfl)
theorem Eg (e : Env) (w : World) : Bi e w = (do
 let r1 ← bo P .add 3 (.tmp 101) (.const (.int .i64 1)) (e 101) (.int .i64 1) w
 let r2 ← vl r1.1 r1.2
 Bh (AJ e [(163, r1.1), (101, r2.1)]) r2.2) := by kernel_rfl
theorem Eh (e : Env) (w : World) : Bj e w = (do
 let r1 ← vl (e 16) w
 let r2 ← vl (e 1) r1.2
 let r3 ← cv P 3 5 r2.1 r2.2
 let r4 ← bo P .geq 5 (.tmp 134) (.tmp 136) r1.1 r3.1 r3.2
 AL r4.1 (do
 let r5 ← mi P 128 (.int .i64 2) r4.2
 let r6 ← vl (.int .u64 0) r5.2
 let r7 ← vl r5.1 r6.2
 some (.tuple #[r6.1, r7.1], r7.2)) (do
 let r8 ← vl (e 13) r4.2
 let r9 ← vl (e 10) r8.2
 let r10 ← bo P .geq 120 (.tmp 139) (.tmp 140) r8.1 r9.1 r9.2
 AL r10.1 (do
 let r11 ← vl (e 11) r10.2
 let r12 ← mi P 128 (.int .i64 1) r11.2
 let r13 ← vl r11.1 r12.2
 let r14 ← vl r12.1 r13.2
 some (.tuple #[r13.1, r14.1], r14.2)) (do
 let r15 ← vl (e 13) r10.2
 let r16 ← vl (e 1) r15.2
 let r17 ← cv P 3 120 r16.1 r16.2
 let r18 ← bo P .mul 120 (.tmp 144) (.tmp 146) r15.1 r17.1 r17.2
 let r19 ← vl r18.1 r18.2
 let r20 ← vl r19.1 r19.2
 let r21 ← vl (e 16) r20.2
 let r22 ← cv P 5 120 r21.1 r21.2
 let r23 ← bo P .add 120 (.tmp 148) (.tmp 150) r20.1 r22.1 r22.2
 let r24 ← vl r23.1 r23.2
 let r25 ← vl r24.1 r24.2
 let r26 ← vl r19.1 r25.2
 let r27 ← bo P .lss 120 (.tmp 152) (.tmp 153) r25.1 r26.1 r26.2
 let r28 ← vl r27.1 r27.2
 let r29 ← Ao r28.1 false (vl r24.1 r28.2) r28.2
 let r30 ← Ao r28.1 false (vl (e 11) r29.2) r29.2
 let r31 ← Ao r28.1 false (bo P .gtr 120 (.tmp 156) (.tmp 157) r29.1 r30.1 r30.2) r30.2
 let r32 ← Ax r28.1 (.bool true) r31.1 r31.2
 AL r32.1 (do
 let r33 ← vl (e 11) r32.2
 let r34 ← mi P 128 (.int .i64 1) r33.2
 let r35 ← vl r33.1 r34.2
 let r36 ← vl r34.1 r35.2
 some (.tuple #[r35.1, r36.1], r36.2)) (do
 let r37 ← vl r24.1 r32.2
 let r38 ← vl r37.1 r37.2
 Bi (AJ e [(134, r1.1), (135, r2.1), (136, r3.1), (137, r4.1), (139, r8.1), (140, r9.1), (141, r10.1), (144, r15.1), (145, r16.1), (146, r17.1), (147, r18.1), (13, r19.1), (148, r20.1), (149, r21.1), (150, r22.1), (151, r23.1), (17, r24.1), (152, r25.1), (153, r26.1), (154, r27.1), (155, r28.1), (156, r29.1), (157, r30.1), (158, r31.1), (159, r32.1), (162, r37.1), (13, r38.1)]) r38.2)))) := by kernel_rfl
theorem Fe (x0 x1 x2 : Value) (w : World) : Bv P (EV P) 103 #[x0, x1, x2] w = (do
 let r1 ← vl (.int .u64 0) w
 let r2 ← vl Go.Value.nilIface r1.2
 let r3 ← vl x0 r2.2
 let r4 ← bo P .eql 9 (.tmp 18) (.const (Go.Value.string { data := #[] })) r3.1 (Go.Value.string { data := #[] }) r3.2
 AL r4.1 (do
 let r5 ← mi P 128 (.int .i64 2) r4.2
 let r6 ← vl (.int .u64 0) r5.2
 let r7 ← vl r5.1 r6.2
 some (.tuple #[r6.1, r7.1], r7.2)) (do
 let r8 ← vl x1 r4.2
 let r9 ← bo P .eql 3 (.tmp 21) (.const (.int .i64 0)) r8.1 (.int .i64 0) r8.2
 let r10 ← vl r9.1 r9.2
 let r11 ← vl x0 r10.2
 let r12 ← vl r11.1 r11.2
 let r13 ← vl x1 r12.2
 let r14 ← bo P .leq 3 (.const (.int .i64 2)) (.tmp 26) (.int .i64 2) r13.1 r13.2
 let r15 ← vl r14.1 r14.2
 let r16 ← Ao r15.1 true (vl x1 r15.2) r15.2
 let r17 ← Ao r15.1 true (bo P .leq 3 (.tmp 29) (.const (.int .i64 36)) r16.1 (.int .i64 36) r16.2) r16.2
 let r18 ← Ax r15.1 r17.1 (.bool false) r17.2
 let r19 ← vl r18.1 r18.2
 AL r19.1 (do
 AK (AJ (AO #[x0, x1, x2]) [(6, r1.1), (7, r2.1), (18, r3.1), (19, r4.1), (21, r8.1), (22, r9.1), (8, r10.1), (23, r11.1), (9, r12.1), (26, r13.1), (27, r14.1), (28, r15.1), (29, r16.1), (30, r17.1), (31, r18.1), (25, r19.1)]) r19.2) (do
 let r20 ← vl x1 r19.2
 let r21 ← bo P .eql 3 (.tmp 33) (.const (.int .i64 0)) r20.1 (.int .i64 0) r20.2
 let r22 ← vl r21.1 r21.2
 AL r22.1 (do
 let r23 ← vl (.int .i64 10) r22.2
 let r24 ← vl x0 r23.2
 let r25 ← ix P 9 r24.1 (.int .i64 0) r24.2
 let r26 ← bo P .eql 5 (.tmp 36) (.const (.int .u8 48)) r25.1 (.int .u8 48) r25.2
 AL r26.1 (do
 let r27 ← vl x0 r26.2
 let r28 ← Au P #[9] 3 #[r27.1] r27.2
 let r29 ← bo P .geq 3 (.tmp 42) (.const (.int .i64 3)) r28.1 (.int .i64 3) r28.2
 let r30 ← vl r29.1 r29.2
 let r31 ← Ao r30.1 true (vl x0 r30.2) r30.2
 let r32 ← Ao r30.1 true (ix P 9 r31.1 (.int .i64 1) r31.2) r31.2
 let r33 ← Ao r30.1 true (EV P 125 #[r32.1] r32.2) r32.2
 let r34 ← Ao r30.1 true (bo P .eql 5 (.tmp 47) (.const (.int .u8 98)) r33.1 (.int .u8 98) r33.2) r33.2
 let r35 ← Ax r30.1 r34.1 (.bool false) r34.2
 let r36 ← vl r35.1 r35.2
 AL r36.1 (do
 let r37 ← vl (.int .i64 2) r36.2
 let r38 ← vl x0 r37.2
 let r39 ← sl P 9 r38.1 (some (.int .i64 2)) none none r38.2
 let r40 ← vl r39.1 r39.2
 AK (AJ (AO #[x0, x1, x2]) [(6, r1.1), (7, r2.1), (18, r3.1), (19, r4.1), (21, r8.1), (22, r9.1), (8, r10.1), (23, r11.1), (9, r12.1), (26, r13.1), (27, r14.1), (28, r15.1), (29, r16.1), (30, r17.1), (31, r18.1), (25, r19.1), (33, r20.1), (34, r21.1), (32, r22.1), (1, r23.1), (35, r24.1), (36, r25.1), (37, r26.1), (41, r27.1), (42, r28.1), (43, r29.1), (44, r30.1), (45, r31.1), (46, r32.1), (47, r33.1), (48, r34.1), (49, r35.1), (40, r36.1), (1, r37.1), (50, r38.1), (51, r39.1), (0, r40.1)]) r40.2) (do
 let r41 ← vl x0 r36.2
 let r42 ← Au P #[9] 3 #[r41.1] r41.2
 let r43 ← bo P .geq 3 (.tmp 54) (.const (.int .i64 3)) r42.1 (.int .i64 3) r42.2
 let r44 ← vl r43.1 r43.2
 let r45 ← Ao r44.1 true (vl x0 r44.2) r44.2
 let r46 ← Ao r44.1 true (ix P 9 r45.1 (.int .i64 1) r45.2) r45.2
 let r47 ← Ao r44.1 true (EV P 125 #[r46.1] r46.2) r46.2
 let r48 ← Ao r44.1 true (bo P .eql 5 (.tmp 59) (.const (.int .u8 111)) r47.1 (.int .u8 111) r47.2) r47.2
 let r49 ← Ax r44.1 r48.1 (.bool false) r48.2
 let r50 ← vl r49.1 r49.2
 AL r50.1 (do
 let r51 ← vl (.int .i64 8) r50.2
 let r52 ← vl x0 r51.2
 let r53 ← sl P 9 r52.1 (some (.int .i64 2)) none none r52.2
 let r54 ← vl r53.1 r53.2
 AK (AJ (AO #[x0, x1, x2]) [(6, r1.1), (7, r2.1), (18, r3.1), (19, r4.1), (21, r8.1), (22, r9.1), (8, r10.1), (23, r11.1), (9, r12.1), (26, r13.1), (27, r14.1), (28, r15.1), (29, r16.1), (30, r17.1), (31, r18.1), (25, r19.1), (33, r20.1), (34, r21.1), (32, r22.1), (1, r23.1), (35, r24.1), (36, r25.1), (37, r26.1), (41, r27.1), (42, r28.1), (43, r29.1), (44, r30.1), (45, r31.1), (46, r32.1), (47, r33.1), (48, r34.1), (49, r35.1), (40, r36.1), (53, r41.1), (54, r42.1), (55, r43.1), (56, r44.1), (57, r45.1), (58, r46.1), (59, r47.1), (60, r48.1), (61, r49.1), (52, r50.1), (1, r51.1), (62, r52.1), (63, r53.1), (0, r54.1)]) r54.2) (do
 let r55 ← vl x0 r50.2
 let r56 ← Au P #[9] 3 #[r55.1] r55.2
 let r57 ← bo P .geq 3 (.tmp 66) (.const (.int .i64 3)) r56.1 (.int .i64 3) r56.2
 let r58 ← vl r57.1 r57.2
 let r59 ← Ao r58.1 true (vl x0 r58.2) r58.2
 let r60 ← Ao r58.1 true (ix P 9 r59.1 (.int .i64 1) r59.2) r59.2
 let r61 ← Ao r58.1 true (EV P 125 #[r60.1] r60.2) r60.2
 let r62 ← Ao r58.1 true (bo P .eql 5 (.tmp 71) (.const (.int .u8 120)) r61.1 (.int .u8 120) r61.2) r61.2
 let r63 ← Ax r58.1 r62.1 (.bool false) r62.2
 let r64 ← vl r63.1 r63.2
 AL r64.1 (do
 let r65 ← vl (.int .i64 16) r64.2
 let r66 ← vl x0 r65.2
 let r67 ← sl P 9 r66.1 (some (.int .i64 2)) none none r66.2
 let r68 ← vl r67.1 r67.2
 AK (AJ (AO #[x0, x1, x2]) [(6, r1.1), (7, r2.1), (18, r3.1), (19, r4.1), (21, r8.1), (22, r9.1), (8, r10.1), (23, r11.1), (9, r12.1), (26, r13.1), (27, r14.1), (28, r15.1), (29, r16.1), (30, r17.1), (31, r18.1), (25, r19.1), (33, r20.1), (34, r21.1), (32, r22.1), (1, r23.1), (35, r24.1), (36, r25.1), (37, r26.1), (41, r27.1), (42, r28.1), (43, r29.1), (44, r30.1), (45, r31.1), (46, r32.1), (47, r33.1), (48, r34.1), (49, r35.1), (40, r36.1), (53, r41.1), (54, r42.1), (55, r43.1), (56, r44.1), (57, r45.1), (58, r46.1), (59, r47.1), (60, r48.1), (61, r49.1), (52, r50.1), (65, r55.1), (66, r56.1), (67, r57.1), (68, r58.1), (69, r59.1), (70, r60.1), (71, r61.1), (72, r62.1), (73, r63.1), (64, r64.1), (1, r65.1), (74, r66.1), (75, r67.1), (0, r68.1)]) r68.2) (do
 let r69 ← vl (.int .i64 8) r64.2
 let r70 ← vl x0 r69.2
 let r71 ← sl P 9 r70.1 (some (.int .i64 1)) none none r70.2
 let r72 ← vl r71.1 r71.2
 AK (AJ (AO #[x0, x1, x2]) [(6, r1.1), (7, r2.1), (18, r3.1), (19, r4.1), (21, r8.1), (22, r9.1), (8, r10.1), (23, r11.1), (9, r12.1), (26, r13.1), (27, r14.1), (28, r15.1), (29, r16.1), (30, r17.1), (31, r18.1), (25, r19.1), (33, r20.1), (34, r21.1), (32, r22.1), (1, r23.1), (35, r24.1), (36, r25.1), (37, r26.1), (41, r27.1), (42, r28.1), (43, r29.1), (44, r30.1), (45, r31.1), (46, r32.1), (47, r33.1), (48, r34.1), (49, r35.1), (40, r36.1), (53, r41.1), (54, r42.1), (55, r43.1), (56, r44.1), (57, r45.1), (58, r46.1), (59, r47.1), (60, r48.1), (61, r49.1), (52, r50.1), (65, r55.1), (66, r56.1), (67, r57.1), (68, r58.1), (69, r59.1), (70, r60.1), (71, r61.1), (72, r62.1), (73, r63.1), (64, r64.1), (1, r69.1), (38, r70.1), (39, r71.1), (0, r72.1)]) r72.2)))) (do
 AK (AJ (AO #[x0, x1, x2]) [(6, r1.1), (7, r2.1), (18, r3.1), (19, r4.1), (21, r8.1), (22, r9.1), (8, r10.1), (23, r11.1), (9, r12.1), (26, r13.1), (27, r14.1), (28, r15.1), (29, r16.1), (30, r17.1), (31, r18.1), (25, r19.1), (33, r20.1), (34, r21.1), (32, r22.1), (1, r23.1), (35, r24.1), (36, r25.1), (37, r26.1)]) r26.2)) (do
 let r73 ← mi P 128 (.int .i64 3) r22.2
 let r74 ← vl (.int .u64 0) r73.2
 let r75 ← vl r73.1 r74.2
 some (.tuple #[r74.1, r75.1], r75.2))))) := by kernel_rfl
theorem Ff (x0 : Value) (w : World) : Bv P (EV P) 104 #[x0] w = (do
 let r1 ← vl (Go.Value.string { data := #[] }) w
 let r2 ← vl x0 r1.2
 let r3 ← Au P #[9] 3 #[r2.1] r2.2
 let r4 ← bo P .eql 3 (.tmp 5) (.const (.int .i64 0)) r3.1 (.int .i64 0) r3.2
 AL r4.1 (do
 let r5 ← vl (Go.Value.string { data := #[] }) r4.2
 some (r5.1, r5.2)) (do
 let r6 ← vl x0 r4.2
 let r7 ← Au P #[9] 3 #[r6.1] r6.2
 let r8 ← ms P 22 r7.1 r7.1 r7.2
 let r9 ← vl r8.1 r8.2
 let r10 ← vl r9.1 r9.2
 let r11 ← vl x0 r10.2
 let r12 ← Q6 P #[22, 9] 3 #[r10.1, r11.1] r11.2
 let r13 ← vl r9.1 r12.2
 let r14 ← ia P 22 r13.1 (.int .i64 0) r13.2
 let r15 ← vl r9.1 r14.2
 let r16 ← Au P #[22] 3 #[r15.1] r15.2
 let r17 ← gn P { dst := (some 17), op := (Go.Op.call { callee := (Go.Callee.builtin Go.Builtin.unsafeString), args := #[(Go.Operand.tmp 14), (Go.Operand.tmp 16)], argTypes := #[76, 3] }), type := 9, pos := "strings.go:121", after := #[{ on := 1, ground := Go.Ground.data }, { on := 3, ground := Go.Ground.data }], guard := none } (AJ (AO #[x0]) [(2, r1.1), (4, r2.1), (5, r3.1), (6, r4.1), (7, r6.1), (8, r7.1), (9, r8.1), (3, r9.1), (10, r10.1), (11, r11.1), (12, r12.1), (13, r13.1), (14, r14.1), (15, r15.1), (16, r16.1)]) r16.2
 let r18 ← vl r17.1 r17.2
 some (r18.1, r18.2))) := by kernel_rfl
theorem Ly (x0 : Value) (w : World) : Bv P (EV P) 106 #[x0] w = (do
 let r1 ← vl (Go.Value.string { data := #[] }) w
 let r2 ← vl x0 r1.2
 let r3 ← bs P 47 8 #[(0, (Go.Value.string { data := #[] })), (1, (Go.Value.string { data := #[97] })), (2, (Go.Value.string { data := #[98] })), (3, (Go.Value.string { data := #[120, 35, 49] })), (4, (Go.Value.string { data := #[61] })), (5, (Go.Value.string { data := #[45] })), (6, (Go.Value.string { data := #[108, 111, 110, 103, 116, 101, 120, 116] })), (7, (Go.Value.string { data := #[122, 122] }))] r2.2
 let r4 ← EV P 48 #[r2.1, r3.1] r3.2
 let r5 ← vl r4.1 r4.2
 some (r5.1, r5.2)) := by kernel_rfl
noncomputable def Cg (e : Env) (w : World) : Option (Value × World) := BA P (EV P) 107 25 (.loop (cA (cA (cB (cA (cB (cB (Ae P 107)))))))) e w (Am 0 (AE P (EV P) 107 25 (cB (cB (cB (Ae P 107)))) (Bc P (AB P 107))))
theorem Ei (e : Env) (w : World) : Cg e w = (do
 let r1 ← vl (e 4) w
 let r2 ← fa P 156 (e 1) 0 r1.2
 let r3 ← ld P 99 r2.1 r2.2
 let r4 ← Au P #[99] 3 #[r3.1] r3.2
 let r5 ← bo P .lss 3 (.tmp 6) (.tmp 9) r1.1 r4.1 r4.2
 AL r5.1 (do
 Ah (fa P 156 (e 3) 0) (dw r5.2) fun r7 => do
 Ah (ld P 99 r7.1) (dw r5.2) fun r8 => do
 Ah (fa P 156 (e 1) 0) (dw r5.2) fun r9 => do
 Ah (ld P 99 r9.1) (dw r5.2) fun r10 => do
 Ah (vl (e 4)) (dw r5.2) fun r11 => do
 Ah (ia P 99 r10.1 r11.1) (dw r5.2) fun r12 => do
 Ah (ld P 110 r12.1) (dw r5.2) fun r13 => do
 let r14 ← EV P 66 #[r13.1] (dw r5.2)
 AG (True ∧ True ∧ True ∧ True ∧ ld P 99 r7.1 r14.2 = some (r8.1, r14.2) ∧ fa P 156 (e 3) 0 r14.2 = some (r7.1, r14.2) ∧ True) <| do
 let r15 ← bs P 99 1 #[(0, r14.1)] r14.2
 AG (True ∧ True ∧ True ∧ True ∧ ld P 99 r7.1 r15.2 = some (r8.1, r15.2) ∧ fa P 156 (e 3) 0 r15.2 = some (r7.1, r15.2) ∧ True) <| do
 let r16 ← Ar P #[99, 99] 99 #[r8.1, r15.1] r15.2
 AG qt7 <| do
 Ah (fa P 156 (e 3) 0) r16.2 fun r17 => do
 let r18 ← st P 99 r17.1 r16.1 r16.2
 AG qt8 <| do
 let r19 ← vl (e 4) r18.2
 let r20 ← bo P .add 3 (.tmp 11) (.const (.int .i64 1)) r19.1 (.int .i64 1) r19.2
 let r21 ← vl r20.1 r20.2
 Cg (AJ e [(6, r1.1), (7, r2.1), (8, r3.1), (9, r4.1), (10, r5.1), (13, r7.1), (14, r8.1), (15, r9.1), (16, r10.1), (17, r11.1), (18, r12.1), (19, r13.1), (20, r14.1), (21, r15.1), (22, r16.1), (23, r17.1), (11, r19.1), (12, r20.1), (4, r21.1)]) r21.2) (do
 let r22 ← ld P 156 (e 3) r5.2
 let r23 ← st P 156 (e 2) r22.1 r22.2
 let v25 ← (ld P 156 (e 2) r23.2).bind fun r24 => AG (r24.2 = r23.2) (some r24.1)
 some (v25, r23.2))) := (AH P (EV P) 107 25 (cA (cA (cB (cA (cB (cB (Ae P 107))))))) e w (Am 0 (AE P (EV P) 107 25 (cB (cB (cB (Ae P 107)))) (Bc P (AB P 107))))).trans (by kernel_rfl)
theorem IY (x0 : Value) (w : World) : Bv P (EV P) 107 #[x0] w = (do
 let r1 ← bx P 156 x0 w
 let r2 ← al P 156 r1.2
 let r3 ← bd P 156 #[] r2.2
 let r4 ← al P 156 r3.2
 let r5 ← st P 156 r4.1 r3.1 r4.2
 let r6 ← vl (.int .i64 0) r5.2
 Cg (AJ (AO #[x0]) [(1, r1.1), (2, r2.1), (5, r3.1), (3, r4.1), (4, r6.1)]) r6.2) := by kernel_rfl
noncomputable def CX (e : Env) (w : World) : Option (Value × World) := BA P (EV P) 108 23 (.loop (cA (cA (cB (cA (cB (cB (cB (Ae P 108))))))))) e w (Am 0 (AE P (EV P) 108 23 (cB (cB (cB (cB (Ae P 108))))) (Bc P (AB P 108))))
theorem Fw (e : Env) (w : World) : CX e w = (do
 let r1 ← vl (e 4) w
 let r2 ← vl (e 0) r1.2
 let r3 ← bo P .lss 3 (.tmp 10) (.tmp 11) r1.1 r2.1 r2.2
 AL r3.1 (do
 Ah (fa P 98 (e 3) 0) (dw r3.2) fun r5 => do
 Ah (ld P 96 r5.1) (dw r3.2) fun r6 => do
 let r7 ← EV P 127 #[] (dw r3.2)
 AG (ld P 96 r5.1 r7.2 = some (r6.1, r7.2) ∧ fa P 98 (e 3) 0 r7.2 = some (r5.1, r7.2) ∧ True) <| do
 Ah (bd P 159 #[(0, r7.1)]) r7.2 fun r8 => do
 let r9 ← bs P 96 1 #[(0, r8.1)] r7.2
 AG (True ∧ ld P 96 r5.1 r9.2 = some (r6.1, r9.2) ∧ fa P 98 (e 3) 0 r9.2 = some (r5.1, r9.2) ∧ True) <| do
 let r10 ← Ar P #[96, 96] 96 #[r6.1, r9.1] r9.2
 AG qt4 <| do
 Ah (fa P 98 (e 3) 0) r10.2 fun r11 => do
 let r12 ← st P 96 r11.1 r10.1 r10.2
 AG qt5 <| do
 let r13 ← vl (e 4) r12.2
 let r14 ← bo P .add 3 (.tmp 13) (.const (.int .i64 1)) r13.1 (.int .i64 1) r13.2
 let r15 ← vl r14.1 r14.2
 CX (AJ e [(10, r1.1), (11, r2.1), (12, r3.1), (15, r5.1), (16, r6.1), (17, r7.1), (18, r8.1), (19, r9.1), (20, r10.1), (21, r11.1), (13, r13.1), (14, r14.1), (4, r15.1)]) r15.2) (do
 let r16 ← ld P 98 (e 3) r3.2
 let r17 ← st P 98 (e 2) r16.1 r16.2
 let v19 ← (ld P 98 (e 2) r17.2).bind fun r18 => AG (r18.2 = r17.2) (some r18.1)
 some (v19, r17.2))) := (AH P (EV P) 108 23 (cA (cA (cB (cA (cB (cB (cB (Ae P 108)))))))) e w (Am 0 (AE P (EV P) 108 23 (cB (cB (cB (cB (Ae P 108))))) (Bc P (AB P 108))))).trans (by kernel_rfl)
theorem KO (x0 : Value) (w : World) : Bv P (EV P) 108 #[x0] w = (do
 let r1 ← al P 98 w
 let r2 ← bd P 98 #[] r1.2
 let r3 ← al P 98 r2.2
 let r4 ← st P 98 r3.1 r2.1 r3.2
 let r5 ← vl x0 r4.2
 let r6 ← EV P 50 #[r5.1, (.int .i64 1), (.int .i64 4)] r5.2
 let r7 ← uo P .not r6.1 r6.2
 AL r7.1 (do
 let r8 ← ld P 98 r3.1 r7.2
 let r9 ← st P 98 r1.1 r8.1 r8.2
 let v11 ← (ld P 98 r1.1 r9.2).bind fun r10 => AG (r10.2 = r9.2) (some r10.1)
 some (v11, r9.2)) (do
 let r12 ← vl (.int .i64 0) r7.2
 CX (AJ (AO #[x0]) [(2, r1.1), (5, r2.1), (3, r3.1), (6, r5.1), (7, r6.1), (8, r7.1), (4, r12.1)]) r12.2)) := by kernel_rfl
theorem Lz (x0 x1 : Value) (w : World) : Bv P (EV P) 109 #[x0, x1] w = (do
 let r1 ← bx P 67 x0 w
 let r2 ← bx P 118 x1 r1.2
 let r3 ← al P 67 r2.2
 let r4 ← vl (.bool false) r3.2
 let r5 ← fa P 67 r1.1 1 r4.2
 let r6 ← ld P 64 r5.1 r5.2
 let r7 ← fa P 118 r2.1 1 r6.2
 let r8 ← ld P 3 r7.1 r7.2
 let r9 ← ia P 64 r6.1 r8.1 r8.2
 let r10 ← ld P 108 r9.1 r9.2
 let r11 ← al P 108 r10.2
 let r12 ← st P 108 r11.1 r10.1 r11.2
 let r13 ← fa P 67 r1.1 0 r12.2
 let r14 ← ld P 63 r13.1 r13.2
 let r15 ← fa P 108 r11.1 0 r14.2
 let r16 ← ld P 3 r15.1 r15.2
 let r17 ← ia P 63 r14.1 r16.1 r16.2
 let r18 ← ld P 102 r17.1 r17.2
 let r19 ← al P 102 r18.2
 let r20 ← st P 102 r19.1 r18.1 r19.2
 let r21 ← fa P 108 r11.1 2 r20.2
 let r22 ← fa P 39 r21.1 0 r21.2
 let r23 ← ld P 3 r22.1 r22.2
 let r24 ← bo P .gtr 3 (.tmp 24) (.const (.int .i64 0)) r23.1 (.int .i64 0) r23.2
 let r25 ← vl r24.1 r24.2
 let r26 ← Ao r25.1 false (fa P 118 r2.1 3 r25.2) r25.2
 let r27 ← Ao r25.1 false (ld P 3 r26.1 r26.2) r26.2
 let r28 ← Ao r25.1 false (EV P 50 #[r27.1, (.int .i64 0), (.int .i64 3)] r27.2) r27.2
 let r29 ← Ao r25.1 false (uo P .not r28.1 r28.2) r28.2
 let r30 ← Ax r25.1 (.bool true) r29.1 r29.2
 let r31 ← vl r30.1 r30.2
 let r32 ← Ao r31.1 false (fa P 118 r2.1 4 r31.2) r31.2
 let r33 ← Ao r31.1 false (ld P 9 r32.1 r32.2) r32.2
 let r34 ← Ao r31.1 false (EV P 128 #[r33.1] r33.2) r33.2
 let r35 ← Ao r31.1 false (uo P .not r34.1 r34.2) r34.2
 let r36 ← Ax r31.1 (.bool true) r35.1 r35.2
 let r37 ← vl r36.1 r36.2
 let r38 ← Ao r37.1 false (fa P 118 r2.1 5 r37.2) r37.2
 let r39 ← Ao r37.1 false (ld P 4 r38.1 r38.2) r38.2
 let r40 ← Ao r37.1 false (vl r39.1 r39.2) r39.2
 let r41 ← Ao r40.1 true (fa P 118 r2.1 4 r40.2) r40.2
 let r42 ← Ao r40.1 true (ld P 9 r41.1 r41.2) r41.2
 let r43 ← Ao r40.1 true (bo P .neq 9 (.tmp 43) (.const (Go.Value.string { data := #[] })) r42.1 (Go.Value.string { data := #[] }) r42.2) r42.2
 let r44 ← Ao r37.1 false (Ax r40.1 r43.1 (.bool false) r43.2) r43.2
 let r45 ← Ax r37.1 (.bool true) r44.1 r44.2
 let r46 ← vl r45.1 r45.2
 let r47 ← Ao r46.1 false (ld P 102 r19.1 r46.2) r46.2
 let r48 ← Ao r46.1 false (fa P 108 r11.1 1 r47.2) r47.2
 let r49 ← Ao r46.1 false (ld P 106 r48.1 r48.2) r48.2
 let r50 ← Ao r46.1 false (EV P 129 #[r47.1, r49.1] r49.2) r49.2
 let r51 ← Ao r46.1 false (uo P .not r50.1 r50.2) r50.2
 let r52 ← Ax r46.1 (.bool true) r51.1 r51.2
 let r53 ← vl r52.1 r52.2
 let r54 ← Ao r53.1 false (fa P 67 r1.1 3 r53.2) r53.2
 let r55 ← Ao r53.1 false (ld P 23 r54.1 r54.2) r54.2
 let r56 ← Ao r53.1 false (Au P #[23] 3 #[r55.1] r55.2) r55.2
 let r57 ← Ao r53.1 false (bo P .geq 3 (.tmp 57) (.const (.int .i64 80)) r56.1 (.int .i64 80) r56.2) r56.2
 let r58 ← Ax r53.1 (.bool true) r57.1 r57.2
 AL r58.1 (do
 let r59 ← ld P 67 r1.1 r58.2
 let r60 ← st P 67 r3.1 r59.1 r59.2
 let r61 ← vl (.bool false) r60.2
 let v63 ← (ld P 67 r3.1 r61.2).bind fun r62 => AG (r62.2 = r61.2) (some r62.1)
 some (.tuple #[v63, r61.1], r61.2)) (do
 let r64 ← ld P 102 r19.1 r58.2
 let r65 ← fa P 118 r2.1 3 r64.2
 let r66 ← ld P 3 r65.1 r65.2
 let r67 ← fa P 118 r2.1 4 r66.2
 let r68 ← ld P 9 r67.1 r67.2
 let r69 ← fa P 118 r2.1 5 r68.2
 let r70 ← ld P 4 r69.1 r69.2
 let r71 ← fa P 108 r11.1 1 r70.2
 let r72 ← ld P 106 r71.1 r71.2
 let r73 ← EV P 130 #[r64.1, r66.1, r68.1, r70.1, r72.1] r72.2
 let r74 ← vl r73.1 r73.2
 let r75 ← xt P r74.1 0 r74.2
 let r76 ← xt P r74.1 1 r75.2
 let r77 ← al P 102 r76.2
 let r78 ← al P 39 r77.2
 let r79 ← st P 102 r77.1 r75.1 r78.2
 let r80 ← st P 39 r78.1 r76.1 r79.2
 let r81 ← fa P 67 r1.1 0 r80.2
 let r82 ← ld P 63 r81.1 r81.2
 let r83 ← fa P 108 r11.1 0 r82.2
 let r84 ← ld P 3 r83.1 r83.2
 let r85 ← ld P 102 r77.1 r84.2
 let r86 ← ia P 63 r82.1 r84.1 r85.2
 let r87 ← st P 102 r86.1 r85.1 r86.2
 let r88 ← fa P 67 r1.1 1 r87.2
 let r89 ← ld P 64 r88.1 r88.2
 let r90 ← fa P 118 r2.1 1 r89.2
 let r91 ← ld P 3 r90.1 r90.2
 let r92 ← ld P 39 r78.1 r91.2
 let r93 ← ia P 64 r89.1 r91.1 r92.2
 let r94 ← fa P 108 r93.1 2 r93.2
 let r95 ← st P 39 r94.1 r92.1 r94.2
 let r96 ← fa P 67 r1.1 1 r95.2
 let r97 ← ld P 64 r96.1 r96.2
 let r98 ← fa P 118 r2.1 1 r97.2
 let r99 ← ld P 3 r98.1 r98.2
 let r100 ← fa P 118 r2.1 3 r99.2
 let r101 ← ld P 3 r100.1 r100.2
 let r102 ← ia P 64 r97.1 r99.1 r101.2
 let r103 ← fa P 108 r102.1 3 r102.2
 let r104 ← st P 3 r103.1 r101.1 r103.2
 let r105 ← ld P 67 r1.1 r104.2
 let r106 ← fa P 118 r2.1 1 r105.2
 let r107 ← ld P 3 r106.1 r106.2
 let r108 ← fa P 118 r2.1 3 r107.2
 let r109 ← ld P 3 r108.1 r108.2
 let r110 ← ld P 39 r78.1 r109.2
 let r111 ← EV P 131 #[r105.1, r107.1, (.int .i64 1), r109.1, r110.1] r110.2
 let r112 ← st P 67 r3.1 r111.1 r111.2
 let r113 ← vl (.bool true) r112.2
 let v115 ← (ld P 67 r3.1 r113.2).bind fun r114 => AG (r114.2 = r113.2) (some r114.1)
 some (.tuple #[v115, r113.1], r113.2))) := by kernel_rfl
noncomputable def ER (e : Env) (w : World) : Option (Value × World) := BA P (EV P) 110 109 (cB (cB (cB (cB (cB (cB (cB (cB (Ae P 110))))))))) e w (Bc P (AB P 110))
theorem KP (e : Env) (w : World) : ER e w = (do
 let r1 ← fa P 67 (e 2) 1 w
 let r2 ← ld P 64 r1.1 r1.2
 let r3 ← fa P 118 (e 3) 1 r2.2
 let r4 ← ld P 3 r3.1 r3.2
 let r5 ← bd P 39 #[] r4.2
 let r6 ← ia P 64 r2.1 r4.1 r5.2
 let r7 ← fa P 108 r6.1 2 r6.2
 let r8 ← st P 39 r7.1 r5.1 r7.2
 let r9 ← fa P 67 (e 2) 1 r8.2
 let r10 ← ld P 64 r9.1 r9.2
 let r11 ← fa P 118 (e 3) 1 r10.2
 let r12 ← ld P 3 r11.1 r11.2
 let r13 ← ia P 64 r10.1 r12.1 r12.2
 let r14 ← fa P 108 r13.1 3 r13.2
 let r15 ← st P 3 r14.1 (.int .i64 0) r14.2
 let r16 ← ld P 67 (e 2) r15.2
 let r17 ← st P 67 (e 4) r16.1 r16.2
 let r18 ← vl (.bool true) r17.2
 let v20 ← (ld P 67 (e 4) r18.2).bind fun r19 => AG (r19.2 = r18.2) (some r19.1)
 some (.tuple #[v20, r18.1], r18.2)) := by kernel_rfl
theorem Oi (x0 x1 : Value) (w : World) : Bv P (EV P) 110 #[x0, x1] w = (do
 let r1 ← bx P 67 x0 w
 let r2 ← bx P 118 x1 r1.2
 let r3 ← al P 67 r2.2
 let r4 ← vl (.bool false) r3.2
 let r5 ← fa P 67 r1.1 1 r4.2
 let r6 ← ld P 64 r5.1 r5.2
 let r7 ← fa P 118 r2.1 1 r6.2
 let r8 ← ld P 3 r7.1 r7.2
 let r9 ← ia P 64 r6.1 r8.1 r8.2
 let r10 ← ld P 108 r9.1 r9.2
 let r11 ← al P 108 r10.2
 let r12 ← st P 108 r11.1 r10.1 r11.2
 let r13 ← fa P 108 r11.1 2 r12.2
 let r14 ← fa P 39 r13.1 0 r13.2
 let r15 ← ld P 3 r14.1 r14.2
 let r16 ← bo P .eql 3 (.tmp 18) (.const (.int .i64 0)) r15.1 (.int .i64 0) r15.2
 AL r16.1 (do
 let r17 ← ld P 67 r1.1 r16.2
 let r18 ← st P 67 r3.1 r17.1 r17.2
 let r19 ← vl (.bool false) r18.2
 let v21 ← (ld P 67 r3.1 r19.2).bind fun r20 => AG (r20.2 = r19.2) (some r20.1)
 some (.tuple #[v21, r19.1], r19.2)) (do
 let r22 ← fa P 67 r1.1 0 r16.2
 let r23 ← ld P 63 r22.1 r22.2
 let r24 ← fa P 108 r11.1 0 r23.2
 let r25 ← ld P 3 r24.1 r24.2
 let r26 ← ia P 63 r23.1 r25.1 r25.2
 let r27 ← fa P 102 r26.1 2 r26.2
 let r28 ← ld P 98 r27.1 r27.2
 let r29 ← al P 98 r28.2
 let r30 ← st P 98 r29.1 r28.1 r29.2
 let r31 ← ld P 98 r29.1 r30.2
 let r32 ← fa P 108 r11.1 3 r31.2
 let r33 ← ld P 3 r32.1 r32.2
 let r34 ← EV P 132 #[r31.1, (.int .i64 0), r33.1] r33.2
 let r35 ← fv P 110 r34.1 1 r34.2
 let r36 ← al P 39 r35.2
 let r37 ← st P 39 r36.1 r35.1 r36.2
 Ah (fa P 98 r29.1 0) (dw r37.2) fun r39 => do
 Ah (ld P 96 r39.1) (dw r37.2) fun r40 => do
 Ah (ia P 96 r40.1 (.int .i64 0)) (dw r37.2) fun r41 => do
 Ah (fa P 159 r41.1 0) (dw r37.2) fun r42 => do
 Ah (fa P 156 r42.1 0) (dw r37.2) fun r43 => do
 Ah (ld P 99 r43.1) (dw r37.2) fun r44 => do
 Ah (fa P 108 r11.1 3) (dw r37.2) fun r45 => do
 Ah (ld P 3 r45.1) (dw r37.2) fun r46 => do
 Ah (ia P 99 r44.1 r46.1) (dw r37.2) fun r47 => do
 Ah (fa P 110 r47.1 1) (dw r37.2) fun r48 => do
 Ah (ld P 39 r48.1) (dw r37.2) fun r49 => do
 let r50 ← al P 39 (dw r37.2)
 AG (ld P 39 r48.1 r50.2 = some (r49.1, r50.2) ∧ fa P 110 r47.1 1 r50.2 = some (r48.1, r50.2) ∧ ia P 99 r44.1 r46.1 r50.2 = some (r47.1, r50.2) ∧ ld P 3 r45.1 r50.2 = some (r46.1, r50.2) ∧ fa P 108 r11.1 3 r50.2 = some (r45.1, r50.2) ∧ ld P 99 r43.1 r50.2 = some (r44.1, r50.2) ∧ fa P 156 r42.1 0 r50.2 = some (r43.1, r50.2) ∧ fa P 159 r41.1 0 r50.2 = some (r42.1, r50.2) ∧ ia P 96 r40.1 (.int .i64 0) r50.2 = some (r41.1, r50.2) ∧ ld P 96 r39.1 r50.2 = some (r40.1, r50.2) ∧ fa P 98 r29.1 0 r50.2 = some (r39.1, r50.2) ∧ True) <| do
 let r51 ← st P 39 r50.1 r49.1 r50.2
 AG qt12 <| do
 let r52 ← ld P 39 r36.1 r51.2
 let r53 ← fa P 108 r11.1 2 r52.2
 let r54 ← ld P 39 r53.1 r53.2
 let r55 ← EV P 133 #[r52.1, r54.1] r54.2
 let r56 ← vl r55.1 r55.2
 let r57 ← Ao r56.1 true (ld P 39 r50.1 r56.2) r56.2
 let r58 ← Ao r56.1 true (fa P 108 r11.1 2 r57.2) r57.2
 let r59 ← Ao r56.1 true (ld P 39 r58.1 r58.2) r58.2
 let r60 ← Ao r56.1 true (EV P 133 #[r57.1, r59.1] r59.2) r59.2
 let r61 ← Ao r56.1 true (uo P .not r60.1 r60.2) r60.2
 let r62 ← Ax r56.1 r61.1 (.bool false) r61.2
 let r63 ← vl r62.1 r62.2
 let r64 ← Ao r63.1 false (ld P 39 r36.1 r63.2) r63.2
 let r65 ← Ao r63.1 false (fa P 108 r11.1 2 r64.2) r64.2
 let r66 ← Ao r63.1 false (ld P 39 r65.1 r65.2) r65.2
 let r67 ← Ao r63.1 false (EV P 133 #[r64.1, r66.1] r66.2) r66.2
 let r68 ← Ao r63.1 false (uo P .not r67.1 r67.2) r67.2
 let r69 ← Ao r63.1 false (vl r68.1 r68.2) r68.2
 let r70 ← Ao r69.1 true (fa P 67 r1.1 3 r69.2) r69.2
 let r71 ← Ao r69.1 true (ld P 23 r70.1 r70.2) r70.2
 let r72 ← Ao r69.1 true (Au P #[23] 3 #[r71.1] r71.2) r71.2
 let r73 ← Ao r69.1 true (bo P .geq 3 (.tmp 64) (.const (.int .i64 80)) r72.1 (.int .i64 80) r72.2) r72.2
 let r74 ← Ao r63.1 false (Ax r69.1 r73.1 (.bool false) r73.2) r73.2
 let r75 ← Ax r63.1 (.bool true) r74.1 r74.2
 AL r75.1 (do
 let r76 ← ld P 67 r1.1 r75.2
 let r77 ← st P 67 r3.1 r76.1 r76.2
 let r78 ← vl (.bool false) r77.2
 let v80 ← (ld P 67 r3.1 r78.2).bind fun r79 => AG (r79.2 = r78.2) (some r79.1)
 some (.tuple #[v80, r78.1], r78.2)) (do
 let r81 ← ld P 39 r36.1 r75.2
 let r82 ← fa P 108 r11.1 2 r81.2
 let r83 ← ld P 39 r82.1 r82.2
 let r84 ← EV P 133 #[r81.1, r83.1] r83.2
 let r85 ← uo P .not r84.1 r84.2
 AL r85.1 (do
 Ah (fa P 67 r1.1 1) (dw r85.2) fun r87 => do
 Ah (ld P 64 r87.1) (dw r85.2) fun r88 => do
 Ah (fa P 118 r2.1 1) (dw r85.2) fun r89 => do
 Ah (ld P 3 r89.1) (dw r85.2) fun r90 => do
 Ah (fa P 108 r11.1 1) (dw r85.2) fun r91 => do
 Ah (ld P 106 r91.1) (dw r85.2) fun r92 => do
 Ah (fa P 108 r11.1 3) (dw r85.2) fun r93 => do
 Ah (ld P 3 r93.1) (dw r85.2) fun r94 => do
 Ah (fa P 108 r11.1 2) (dw r85.2) fun r95 => do
 Ah (ld P 39 r95.1) (dw r85.2) fun r96 => do
 let r97 ← EV P 134 #[r92.1, r94.1, r96.1] (dw r85.2)
 AG (True ∧ True ∧ True ∧ True ∧ True ∧ True ∧ ld P 3 r89.1 r97.2 = some (r90.1, r97.2) ∧ fa P 118 r2.1 1 r97.2 = some (r89.1, r97.2) ∧ ld P 64 r87.1 r97.2 = some (r88.1, r97.2) ∧ fa P 67 r1.1 1 r97.2 = some (r87.1, r97.2) ∧ True) <| do
 Ah (ia P 64 r88.1 r90.1) r97.2 fun r98 => do
 Ah (fa P 108 r98.1 1) r97.2 fun r99 => do
 let r100 ← st P 106 r99.1 r97.1 r97.2
 AG qt13 <| do
 let r101 ← ld P 67 r1.1 r100.2
 let r102 ← fa P 118 r2.1 1 r101.2
 let r103 ← ld P 3 r102.1 r102.2
 let r104 ← fa P 108 r11.1 3 r103.2
 let r105 ← ld P 3 r104.1 r104.2
 let r106 ← fa P 108 r11.1 2 r105.2
 let r107 ← ld P 39 r106.1 r106.2
 let r108 ← EV P 131 #[r101.1, r103.1, (.int .i64 3), r105.1, r107.1] r107.2
 let r109 ← st P 67 r1.1 r108.1 r108.2
 ER (AJ (AO #[x0, x1]) [(2, r1.1), (3, r2.1), (4, r3.1), (5, r4.1), (10, r5.1), (11, r6.1), (12, r7.1), (13, r8.1), (14, r9.1), (15, r10.1), (6, r11.1), (16, r13.1), (17, r14.1), (18, r15.1), (19, r16.1), (21, r22.1), (22, r23.1), (23, r24.1), (24, r25.1), (25, r26.1), (26, r27.1), (27, r28.1), (7, r29.1), (28, r31.1), (29, r32.1), (30, r33.1), (31, r34.1), (32, r35.1), (8, r36.1), (33, r39.1), (34, r40.1), (35, r41.1), (36, r42.1), (37, r43.1), (38, r44.1), (39, r45.1), (40, r46.1), (41, r47.1), (42, r48.1), (43, r49.1), (9, r50.1), (44, r52.1), (45, r53.1), (46, r54.1), (47, r55.1), (48, r56.1), (49, r57.1), (50, r58.1), (51, r59.1), (52, r60.1), (53, r61.1), (54, r62.1), (55, r63.1), (56, r64.1), (57, r65.1), (58, r66.1), (59, r67.1), (60, r68.1), (61, r69.1), (62, r70.1), (63, r71.1), (64, r72.1), (65, r73.1), (66, r74.1), (67, r75.1), (69, r81.1), (70, r82.1), (71, r83.1), (72, r84.1), (73, r85.1), (74, r87.1), (75, r88.1), (76, r89.1), (77, r90.1), (78, r91.1), (79, r92.1), (80, r93.1), (81, r94.1), (82, r95.1), (83, r96.1), (84, r97.1), (85, r98.1), (86, r99.1), (87, r101.1), (88, r102.1), (89, r103.1), (90, r104.1), (91, r105.1), (92, r106.1), (93, r107.1), (94, r108.1)]) r109.2) (do
 ER (AJ (AO #[x0, x1]) [(2, r1.1), (3, r2.1), (4, r3.1), (5, r4.1), (10, r5.1), (11, r6.1), (12, r7.1), (13, r8.1), (14, r9.1), (15, r10.1), (6, r11.1), (16, r13.1), (17, r14.1), (18, r15.1), (19, r16.1), (21, r22.1), (22, r23.1), (23, r24.1), (24, r25.1), (25, r26.1), (26, r27.1), (27, r28.1), (7, r29.1), (28, r31.1), (29, r32.1), (30, r33.1), (31, r34.1), (32, r35.1), (8, r36.1), (33, r39.1), (34, r40.1), (35, r41.1), (36, r42.1), (37, r43.1), (38, r44.1), (39, r45.1), (40, r46.1), (41, r47.1), (42, r48.1), (43, r49.1), (9, r50.1), (44, r52.1), (45, r53.1), (46, r54.1), (47, r55.1), (48, r56.1), (49, r57.1), (50, r58.1), (51, r59.1), (52, r60.1), (53, r61.1), (54, r62.1), (55, r63.1), (56, r64.1), (57, r65.1), (58, r66.1), (59, r67.1), (60, r68.1), (61, r69.1), (62, r70.1), (63, r71.1), (64, r72.1), (65, r73.1), (66, r74.1), (67, r75.1), (69, r81.1), (70, r82.1), (71, r83.1), (72, r84.1), (73, r85.1)]) r85.2)))) := by kernel_rfl
noncomputable def Ej (e : Env) (w : World) : Option (Value × World) := BA P (EV P) 111 94 (cB (cB (cB (cB (cB (cB (cB (Ae P 111)))))))) e w (Bc P (AB P 111))
theorem JV (e : Env) (w : World) : Ej e w = (do
 let r1 ← ld P 67 (e 2) w
 let r2 ← fa P 118 (e 3) 1 r1.2
 let r3 ← ld P 3 r2.1 r2.2
 let r4 ← fa P 118 (e 3) 3 r3.2
 let r5 ← ld P 3 r4.1 r4.2
 let r6 ← fa P 110 (e 8) 1 r5.2
 let r7 ← ld P 39 r6.1 r6.2
 let r8 ← EV P 131 #[r1.1, r3.1, (.int .i64 2), r5.1, r7.1] r7.2
 let r9 ← st P 67 (e 4) r8.1 r8.2
 let r10 ← vl (.bool true) r9.2
 let v12 ← (ld P 67 (e 4) r10.2).bind fun r11 => AG (r11.2 = r10.2) (some r11.1)
 some (.tuple #[v12, r10.1], r10.2)) := by kernel_rfl
theorem MK (x0 x1 : Value) (w : World) : Bv P (EV P) 111 #[x0, x1] w = (do
 let r1 ← bx P 67 x0 w
 let r2 ← bx P 118 x1 r1.2
 let r3 ← al P 67 r2.2
 let r4 ← vl (.bool false) r3.2
 let r5 ← fa P 67 r1.1 1 r4.2
 let r6 ← ld P 64 r5.1 r5.2
 let r7 ← fa P 118 r2.1 1 r6.2
 let r8 ← ld P 3 r7.1 r7.2
 let r9 ← ia P 64 r6.1 r8.1 r8.2
 let r10 ← ld P 108 r9.1 r9.2
 let r11 ← al P 108 r10.2
 let r12 ← st P 108 r11.1 r10.1 r11.2
 let r13 ← fa P 67 r1.1 0 r12.2
 let r14 ← ld P 63 r13.1 r13.2
 let r15 ← fa P 108 r11.1 0 r14.2
 let r16 ← ld P 3 r15.1 r15.2
 let r17 ← ia P 63 r14.1 r16.1 r16.2
 let r18 ← fa P 102 r17.1 2 r17.2
 let r19 ← ld P 98 r18.1 r18.2
 let r20 ← al P 98 r19.2
 let r21 ← st P 98 r20.1 r19.1 r20.2
 let r22 ← fa P 108 r11.1 2 r21.2
 let r23 ← fa P 39 r22.1 0 r22.2
 let r24 ← ld P 3 r23.1 r23.2
 let r25 ← bo P .gtr 3 (.tmp 24) (.const (.int .i64 0)) r24.1 (.int .i64 0) r24.2
 let r26 ← vl r25.1 r25.2
 let r27 ← Ao r26.1 false (fa P 118 r2.1 3 r26.2) r26.2
 let r28 ← Ao r26.1 false (ld P 3 r27.1 r27.2) r27.2
 let r29 ← Ao r26.1 false (EV P 50 #[r28.1, (.int .i64 0), (.int .i64 3)] r28.2) r28.2
 let r30 ← Ao r26.1 false (uo P .not r29.1 r29.2) r29.2
 let r31 ← Ax r26.1 (.bool true) r30.1 r30.2
 let r32 ← vl r31.1 r31.2
 let r33 ← Ao r32.1 false (fa P 118 r2.1 2 r32.2) r32.2
 let r34 ← Ao r32.1 false (ld P 3 r33.1 r33.2) r33.2
 let r35 ← Ao r32.1 false (fa P 98 r20.1 0 r34.2) r34.2
 let r36 ← Ao r32.1 false (ld P 96 r35.1 r35.2) r35.2
 let r37 ← Ao r32.1 false (Au P #[96] 3 #[r36.1] r36.2) r36.2
 let r38 ← Ao r32.1 false (bo P .sub 3 (.tmp 37) (.const (.int .i64 1)) r37.1 (.int .i64 1) r37.2) r37.2
 let r39 ← Ao r32.1 false (EV P 50 #[r34.1, (.int .i64 0), r38.1] r38.2) r38.2
 let r40 ← Ao r32.1 false (uo P .not r39.1 r39.2) r39.2
 let r41 ← Ax r32.1 (.bool true) r40.1 r40.2
 let r42 ← vl r41.1 r41.2
 let r43 ← Ao r42.1 false (fa P 67 r1.1 3 r42.2) r42.2
 let r44 ← Ao r42.1 false (ld P 23 r43.1 r43.2) r43.2
 let r45 ← Ao r42.1 false (Au P #[23] 3 #[r44.1] r44.2) r44.2
 let r46 ← Ao r42.1 false (bo P .geq 3 (.tmp 45) (.const (.int .i64 80)) r45.1 (.int .i64 80) r45.2) r45.2
 let r47 ← Ax r42.1 (.bool true) r46.1 r46.2
 AL r47.1 (do
 let r48 ← ld P 67 r1.1 r47.2
 let r49 ← st P 67 r3.1 r48.1 r48.2
 let r50 ← vl (.bool false) r49.2
 let v52 ← (ld P 67 r3.1 r50.2).bind fun r51 => AG (r51.2 = r50.2) (some r51.1)
 some (.tuple #[v52, r50.1], r50.2)) (do
 let r53 ← ld P 98 r20.1 r47.2
 let r54 ← fa P 118 r2.1 2 r53.2
 let r55 ← ld P 3 r54.1 r54.2
 let r56 ← fa P 118 r2.1 3 r55.2
 let r57 ← ld P 3 r56.1 r56.2
 let r58 ← EV P 132 #[r53.1, r55.1, r57.1] r57.2
 let r59 ← al P 110 r58.2
 let r60 ← st P 110 r59.1 r58.1 r59.2
 Ah (fa P 110 r59.1 1) (dw r60.2) fun r62 => do
 Ah (ld P 39 r62.1) (dw r60.2) fun r63 => do
 Ah (fa P 108 r11.1 1) (dw r60.2) fun r64 => do
 Ah (fa P 106 r64.1 0) (dw r60.2) fun r65 => do
 Ah (ld P 104 r65.1) (dw r60.2) fun r66 => do
 Ah (fa P 118 r2.1 3) (dw r60.2) fun r67 => do
 Ah (ld P 3 r67.1) (dw r60.2) fun r68 => do
 Ah (ia P 104 r66.1 r68.1) (dw r60.2) fun r69 => do
 Ah (ld P 39 r69.1) (dw r60.2) fun r70 => do
 let r71 ← EV P 133 #[r63.1, r70.1] (dw r60.2)
 AG qt10 <| do
 AL r71.1 (do
 let r72 ← ld P 67 r1.1 r71.2
 let r73 ← st P 67 r3.1 r72.1 r72.2
 let r74 ← vl (.bool false) r73.2
 let v76 ← (ld P 67 r3.1 r74.2).bind fun r75 => AG (r75.2 = r74.2) (some r75.1)
 some (.tuple #[v76, r74.1], r74.2)) (do
 let r77 ← fa P 110 r59.1 1 r71.2
 let r78 ← fa P 39 r77.1 0 r77.2
 let r79 ← ld P 3 r78.1 r78.2
 let r80 ← bo P .gtr 3 (.tmp 68) (.const (.int .i64 0)) r79.1 (.int .i64 0) r79.2
 AL r80.1 (do
 Ah (fa P 67 r1.1 1) (dw r80.2) fun r82 => do
 Ah (ld P 64 r82.1) (dw r80.2) fun r83 => do
 Ah (fa P 118 r2.1 1) (dw r80.2) fun r84 => do
 Ah (ld P 3 r84.1) (dw r80.2) fun r85 => do
 Ah (fa P 108 r11.1 1) (dw r80.2) fun r86 => do
 Ah (ld P 106 r86.1) (dw r80.2) fun r87 => do
 Ah (fa P 110 r59.1 2) (dw r80.2) fun r88 => do
 Ah (ld P 106 r88.1) (dw r80.2) fun r89 => do
 Ah (fa P 118 r2.1 3) (dw r80.2) fun r90 => do
 Ah (ld P 3 r90.1) (dw r80.2) fun r91 => do
 Ah (fa P 110 r59.1 1) (dw r80.2) fun r92 => do
 Ah (ld P 39 r92.1) (dw r80.2) fun r93 => do
 let r94 ← EV P 135 #[r87.1, r89.1] (dw r80.2)
 AG (ld P 39 r92.1 r94.2 = some (r93.1, r94.2) ∧ fa P 110 r59.1 1 r94.2 = some (r92.1, r94.2) ∧ ld P 3 r90.1 r94.2 = some (r91.1, r94.2) ∧ fa P 118 r2.1 3 r94.2 = some (r90.1, r94.2) ∧ True ∧ True ∧ True ∧ True ∧ ld P 3 r84.1 r94.2 = some (r85.1, r94.2) ∧ fa P 118 r2.1 1 r94.2 = some (r84.1, r94.2) ∧ ld P 64 r82.1 r94.2 = some (r83.1, r94.2) ∧ fa P 67 r1.1 1 r94.2 = some (r82.1, r94.2) ∧ True) <| do
 let r95 ← EV P 134 #[r94.1, r91.1, r93.1] r94.2
 AG (True ∧ True ∧ True ∧ True ∧ True ∧ True ∧ True ∧ True ∧ ld P 3 r84.1 r95.2 = some (r85.1, r95.2) ∧ fa P 118 r2.1 1 r95.2 = some (r84.1, r95.2) ∧ ld P 64 r82.1 r95.2 = some (r83.1, r95.2) ∧ fa P 67 r1.1 1 r95.2 = some (r82.1, r95.2) ∧ True) <| do
 Ah (ia P 64 r83.1 r85.1) r95.2 fun r96 => do
 Ah (fa P 108 r96.1 1) r95.2 fun r97 => do
 let r98 ← st P 106 r97.1 r95.1 r95.2
 AG qt15 <| do
 Ej (AJ (AO #[x0, x1]) [(2, r1.1), (3, r2.1), (4, r3.1), (5, r4.1), (9, r5.1), (10, r6.1), (11, r7.1), (12, r8.1), (13, r9.1), (14, r10.1), (6, r11.1), (15, r13.1), (16, r14.1), (17, r15.1), (18, r16.1), (19, r17.1), (20, r18.1), (21, r19.1), (7, r20.1), (22, r22.1), (23, r23.1), (24, r24.1), (25, r25.1), (26, r26.1), (27, r27.1), (28, r28.1), (29, r29.1), (30, r30.1), (31, r31.1), (32, r32.1), (33, r33.1), (34, r34.1), (35, r35.1), (36, r36.1), (37, r37.1), (38, r38.1), (39, r39.1), (40, r40.1), (41, r41.1), (42, r42.1), (43, r43.1), (44, r44.1), (45, r45.1), (46, r46.1), (47, r47.1), (49, r53.1), (50, r54.1), (51, r55.1), (52, r56.1), (53, r57.1), (54, r58.1), (8, r59.1), (55, r62.1), (56, r63.1), (57, r64.1), (58, r65.1), (59, r66.1), (60, r67.1), (61, r68.1), (62, r69.1), (63, r70.1), (64, r71.1), (66, r77.1), (67, r78.1), (68, r79.1), (69, r80.1), (70, r82.1), (71, r83.1), (72, r84.1), (73, r85.1), (74, r86.1), (75, r87.1), (76, r88.1), (77, r89.1), (79, r90.1), (80, r91.1), (81, r92.1), (82, r93.1), (78, r94.1), (83, r95.1), (84, r96.1), (85, r97.1)]) r98.2) (do
 Ej (AJ (AO #[x0, x1]) [(2, r1.1), (3, r2.1), (4, r3.1), (5, r4.1), (9, r5.1), (10, r6.1), (11, r7.1), (12, r8.1), (13, r9.1), (14, r10.1), (6, r11.1), (15, r13.1), (16, r14.1), (17, r15.1), (18, r16.1), (19, r17.1), (20, r18.1), (21, r19.1), (7, r20.1), (22, r22.1), (23, r23.1), (24, r24.1), (25, r25.1), (26, r26.1), (27, r27.1), (28, r28.1), (29, r29.1), (30, r30.1), (31, r31.1), (32, r32.1), (33, r33.1), (34, r34.1), (35, r35.1), (36, r36.1), (37, r37.1), (38, r38.1), (39, r39.1), (40, r40.1), (41, r41.1), (42, r42.1), (43, r43.1), (44, r44.1), (45, r45.1), (46, r46.1), (47, r47.1), (49, r53.1), (50, r54.1), (51, r55.1), (52, r56.1), (53, r57.1), (54, r58.1), (8, r59.1), (55, r62.1), (56, r63.1), (57, r64.1), (58, r65.1), (59, r66.1), (60, r67.1), (61, r68.1), (62, r69.1), (63, r70.1), (64, r71.1), (66, r77.1), (67, r78.1), (68, r79.1), (69, r80.1)]) r80.2)))) := by kernel_rfl
noncomputable def ES (e : Env) (w : World) : Option (Value × World) := BA P (EV P) 112 89 (.loop (cA (cA (cB (cA (cB (cB (cB (cB (cB (Ae P 112))))))))))) e w (Am 0 (AE P (EV P) 112 89 (cB (cB (cB (cB (cB (cB (Ae P 112))))))) (Bc P (AB P 112))))
theorem Hi (e : Env) (w : World) : ES e w = (do
 let r1 ← vl (e 9) w
 let r2 ← bo P .lss 3 (.tmp 52) (.const (.int .i64 4)) r1.1 (.int .i64 4) r1.2
 AL r2.1 (do
 Ah (fa P 67 (e 2) 1) (dw r2.2) fun r4 => do
 Ah (ld P 64 r4.1) (dw r2.2) fun r5 => do
 Ah (fa P 118 (e 3) 1) (dw r2.2) fun r6 => do
 Ah (ld P 3 r6.1) (dw r2.2) fun r7 => do
 Ah (fa P 67 (e 2) 1) (dw r2.2) fun r8 => do
 Ah (ld P 64 r8.1) (dw r2.2) fun r9 => do
 Ah (fa P 118 (e 3) 1) (dw r2.2) fun r10 => do
 Ah (ld P 3 r10.1) (dw r2.2) fun r11 => do
 Ah (ia P 64 r9.1 r11.1) (dw r2.2) fun r12 => do
 Ah (fa P 108 r12.1 1) (dw r2.2) fun r13 => do
 Ah (ld P 106 r13.1) (dw r2.2) fun r14 => do
 Ah (vl (e 9)) (dw r2.2) fun r15 => do
 Ah (fa P 156 (e 8) 0) (dw r2.2) fun r16 => do
 Ah (ld P 99 r16.1) (dw r2.2) fun r17 => do
 Ah (vl (e 9)) (dw r2.2) fun r18 => do
 Ah (ia P 99 r17.1 r18.1) (dw r2.2) fun r19 => do
 Ah (fa P 110 r19.1 1) (dw r2.2) fun r20 => do
 Ah (ld P 39 r20.1) (dw r2.2) fun r21 => do
 let r22 ← EV P 134 #[r14.1, r15.1, r21.1] (dw r2.2)
 AG (True ∧ True ∧ True ∧ True ∧ True ∧ True ∧ True ∧ True ∧ True ∧ True ∧ True ∧ True ∧ ld P 3 r6.1 r22.2 = some (r7.1, r22.2) ∧ fa P 118 (e 3) 1 r22.2 = some (r6.1, r22.2) ∧ ld P 64 r4.1 r22.2 = some (r5.1, r22.2) ∧ fa P 67 (e 2) 1 r22.2 = some (r4.1, r22.2) ∧ True) <| do
 Ah (ia P 64 r5.1 r7.1) r22.2 fun r23 => do
 Ah (fa P 108 r23.1 1) r22.2 fun r24 => do
 let r25 ← st P 106 r24.1 r22.1 r22.2
 AG qt19 <| do
 Ah (ld P 67 (e 2)) (dw r25.2) fun r27 => do
 Ah (fa P 118 (e 3) 1) (dw r25.2) fun r28 => do
 Ah (ld P 3 r28.1) (dw r25.2) fun r29 => do
 Ah (vl (e 9)) (dw r25.2) fun r30 => do
 Ah (fa P 156 (e 8) 0) (dw r25.2) fun r31 => do
 Ah (ld P 99 r31.1) (dw r25.2) fun r32 => do
 Ah (vl (e 9)) (dw r25.2) fun r33 => do
 Ah (ia P 99 r32.1 r33.1) (dw r25.2) fun r34 => do
 Ah (fa P 110 r34.1 1) (dw r25.2) fun r35 => do
 Ah (ld P 39 r35.1) (dw r25.2) fun r36 => do
 let r37 ← EV P 131 #[r27.1, r29.1, (.int .i64 2), r30.1, r36.1] (dw r25.2)
 AG qt9 <| do
 let r38 ← st P 67 (e 2) r37.1 r37.2
 AG qt9 <| do
 let r39 ← vl (e 9) r38.2
 let r40 ← bo P .add 3 (.tmp 54) (.const (.int .i64 1)) r39.1 (.int .i64 1) r39.2
 let r41 ← vl r40.1 r40.2
 ES (AJ e [(52, r1.1), (53, r2.1), (56, r4.1), (57, r5.1), (58, r6.1), (59, r7.1), (60, r8.1), (61, r9.1), (62, r10.1), (63, r11.1), (64, r12.1), (65, r13.1), (66, r14.1), (67, r15.1), (68, r16.1), (69, r17.1), (70, r18.1), (71, r19.1), (72, r20.1), (73, r21.1), (74, r22.1), (75, r23.1), (76, r24.1), (77, r27.1), (78, r28.1), (79, r29.1), (80, r30.1), (81, r31.1), (82, r32.1), (83, r33.1), (84, r34.1), (85, r35.1), (86, r36.1), (87, r37.1), (54, r39.1), (55, r40.1), (9, r41.1)]) r41.2) (do
 let r42 ← ld P 67 (e 2) r2.2
 let r43 ← st P 67 (e 4) r42.1 r42.2
 let r44 ← vl (.bool true) r43.2
 let v46 ← (ld P 67 (e 4) r44.2).bind fun r45 => AG (r45.2 = r44.2) (some r45.1)
 some (.tuple #[v46, r44.1], r44.2))) := (AH P (EV P) 112 89 (cA (cA (cB (cA (cB (cB (cB (cB (cB (Ae P 112)))))))))) e w (Am 0 (AE P (EV P) 112 89 (cB (cB (cB (cB (cB (cB (Ae P 112))))))) (Bc P (AB P 112))))).trans (by kernel_rfl)
theorem Oj (x0 x1 : Value) (w : World) : Bv P (EV P) 112 #[x0, x1] w = (do
 let r1 ← bx P 67 x0 w
 let r2 ← bx P 118 x1 r1.2
 let r3 ← al P 67 r2.2
 let r4 ← vl (.bool false) r3.2
 let r5 ← fa P 67 r1.1 1 r4.2
 let r6 ← ld P 64 r5.1 r5.2
 let r7 ← fa P 118 r2.1 1 r6.2
 let r8 ← ld P 3 r7.1 r7.2
 let r9 ← ia P 64 r6.1 r8.1 r8.2
 let r10 ← ld P 108 r9.1 r9.2
 let r11 ← al P 108 r10.2
 let r12 ← st P 108 r11.1 r10.1 r11.2
 let r13 ← fa P 67 r1.1 0 r12.2
 let r14 ← ld P 63 r13.1 r13.2
 let r15 ← fa P 108 r11.1 0 r14.2
 let r16 ← ld P 3 r15.1 r15.2
 let r17 ← ia P 63 r14.1 r16.1 r16.2
 let r18 ← fa P 102 r17.1 2 r17.2
 let r19 ← ld P 98 r18.1 r18.2
 let r20 ← al P 98 r19.2
 let r21 ← st P 98 r20.1 r19.1 r20.2
 let r22 ← fa P 98 r20.1 0 r21.2
 let r23 ← ld P 96 r22.1 r22.2
 let r24 ← fa P 98 r20.1 0 r23.2
 let r25 ← ld P 96 r24.1 r24.2
 let r26 ← Au P #[96] 3 #[r25.1] r25.2
 let r27 ← bo P .sub 3 (.tmp 27) (.const (.int .i64 1)) r26.1 (.int .i64 1) r26.2
 let r28 ← ia P 96 r23.1 r27.1 r27.2
 let r29 ← fa P 159 r28.1 0 r28.2
 let r30 ← ld P 156 r29.1 r29.2
 let r31 ← al P 156 r30.2
 let r32 ← st P 156 r31.1 r30.1 r31.2
 Ah (fa P 108 r11.1 2) (dw r32.2) fun r34 => do
 Ah (fa P 39 r34.1 0) (dw r32.2) fun r35 => do
 Ah (ld P 3 r35.1) (dw r32.2) fun r36 => do
 Ah (bo P .gtr 3 (.tmp 34) (.const (.int .i64 0)) r36.1 (.int .i64 0)) (dw r32.2) fun r37 => do
 Ah (vl r37.1) (dw r32.2) fun r38 => do
 Ah (Ao r38.1 false (fa P 108 r11.1 1 (dw r32.2))) (dw r32.2) fun r39 => do
 Ah (Ao r38.1 false (ld P 106 r39.1 (dw r32.2))) (dw r32.2) fun r40 => do
 Ah (Ao r38.1 false (ld P 156 r31.1 (dw r32.2))) (dw r32.2) fun r41 => do
 let r42 ← Ao r38.1 false (EV P 137 #[r41.1] (dw r32.2)) (dw r32.2)
 AG (True ∧ Ao r38.1 false (ld P 106 r39.1 r42.2) r42.2 = some (r40.1, r42.2) ∧ Ao r38.1 false (fa P 108 r11.1 1 r42.2) r42.2 = some (r39.1, r42.2) ∧ True ∧ True ∧ True ∧ True ∧ True) <| do
 let r43 ← Ao r38.1 false (EV P 136 #[r40.1, r42.1] r42.2) r42.2
 AG qt8 <| do
 Ah (Ao r38.1 false (uo P .not r43.1 r43.2)) r43.2 fun r44 => do
 Ah (Ax r38.1 (.bool true) r44.1) r43.2 fun r45 => do
 Ah (vl r45.1) r43.2 fun r46 => do
 Ah (Ao r46.1 false (fa P 67 r1.1 3 r43.2)) r43.2 fun r47 => do
 Ah (Ao r46.1 false (ld P 23 r47.1 r43.2)) r43.2 fun r48 => do
 Ah (Ao r46.1 false (Au P #[23] 3 #[r48.1] r43.2)) r43.2 fun r49 => do
 Ah (Ao r46.1 false (bo P .add 3 (.tmp 47) (.const (.int .i64 4)) r49.1 (.int .i64 4) r43.2)) r43.2 fun r50 => do
 Ah (Ao r46.1 false (bo P .gtr 3 (.tmp 48) (.const (.int .i64 80)) r50.1 (.int .i64 80) r43.2)) r43.2 fun r51 => do
 Ah (Ax r46.1 (.bool true) r51.1) r43.2 fun r52 => do
 AL r52.1 (do
 let r53 ← ld P 67 r1.1 r43.2
 let r54 ← st P 67 r3.1 r53.1 r53.2
 let r55 ← vl (.bool false) r54.2
 let v57 ← (ld P 67 r3.1 r55.2).bind fun r56 => AG (r56.2 = r55.2) (some r56.1)
 some (.tuple #[v57, r55.1], r55.2)) (do
 let r58 ← vl (.int .i64 0) r43.2
 ES (AJ (AO #[x0, x1]) [(2, r1.1), (3, r2.1), (4, r3.1), (5, r4.1), (10, r5.1), (11, r6.1), (12, r7.1), (13, r8.1), (14, r9.1), (15, r10.1), (6, r11.1), (16, r13.1), (17, r14.1), (18, r15.1), (19, r16.1), (20, r17.1), (21, r18.1), (22, r19.1), (7, r20.1), (23, r22.1), (24, r23.1), (25, r24.1), (26, r25.1), (27, r26.1), (28, r27.1), (29, r28.1), (30, r29.1), (31, r30.1), (8, r31.1), (32, r34.1), (33, r35.1), (34, r36.1), (35, r37.1), (36, r38.1), (37, r39.1), (38, r40.1), (39, r41.1), (40, r42.1), (41, r43.1), (42, r44.1), (43, r45.1), (44, r46.1), (45, r47.1), (46, r48.1), (47, r49.1), (48, r50.1), (49, r51.1), (50, r52.1), (9, r58.1)]) r58.2)) := by kernel_rfl
theorem Ok (x0 x1 : Value) (w : World) : Bv P (EV P) 113 #[x0, x1] w = (do
 let r1 ← bx P 98 x0 w
 let r2 ← vl (.bool false) r1.2
 let r3 ← vl x1 r2.2
 let r4 ← fa P 98 r1.1 0 r3.2
 let r5 ← ld P 96 r4.1 r4.2
 let r6 ← Au P #[96] 3 #[r5.1] r5.2
 let r7 ← bo P .sub 3 (.tmp 8) (.const (.int .i64 2)) r6.1 (.int .i64 2) r6.2
 let r8 ← EV P 50 #[r3.1, (.int .i64 0), r7.1] r7.2
 let r9 ← vl r8.1 r8.2
 let r10 ← Ao r9.1 true (fa P 98 r1.1 0 r9.2) r9.2
 let r11 ← Ao r9.1 true (ld P 96 r10.1 r10.2) r10.2
 let r12 ← Ao r9.1 true (vl x1 r11.2) r11.2
 let r13 ← Ao r9.1 true (ia P 96 r11.1 r12.1 r12.2) r12.2
 let r14 ← Ao r9.1 true (fa P 159 r13.1 1 r13.2) r13.2
 let r15 ← Ao r9.1 true (ld P 99 r14.1 r14.2) r14.2
 let r16 ← Ao r9.1 true (Au P #[99] 3 #[r15.1] r15.2) r15.2
 let r17 ← Ao r9.1 true (bo P .gtr 3 (.tmp 18) (.const (.int .i64 0)) r16.1 (.int .i64 0) r16.2) r16.2
 let r18 ← Ax r9.1 r17.1 (.bool false) r17.2
 let r19 ← vl r18.1 r18.2
 let r20 ← Ao r19.1 true (fa P 98 r1.1 0 r19.2) r19.2
 let r21 ← Ao r19.1 true (ld P 96 r20.1 r20.2) r20.2
 let r22 ← Ao r19.1 true (vl x1 r21.2) r21.2
 let r23 ← Ao r19.1 true (bo P .add 3 (.tmp 24) (.const (.int .i64 1)) r22.1 (.int .i64 1) r22.2) r22.2
 let r24 ← Ao r19.1 true (ia P 96 r21.1 r23.1 r23.2) r23.2
 let r25 ← Ao r19.1 true (fa P 159 r24.1 1 r24.2) r24.2
 let r26 ← Ao r19.1 true (ld P 99 r25.1 r25.2) r25.2
 let r27 ← Ao r19.1 true (Au P #[99] 3 #[r26.1] r26.2) r26.2
 let r28 ← Ao r19.1 true (bo P .lss 3 (.tmp 29) (.const (.int .i64 6)) r27.1 (.int .i64 6) r27.2) r27.2
 let r29 ← Ax r19.1 r28.1 (.bool false) r28.2
 let r30 ← vl r29.1 r29.2
 some (r30.1, r30.2)) := by kernel_rfl
theorem ML (x0 x1 : Value) (w : World) : Bv P (EV P) 114 #[x0, x1] w = (do
 let r1 ← bx P 98 x0 w
 let r2 ← al P 98 r1.2
 let r3 ← fa P 98 r1.1 0 r2.2
 let r4 ← ld P 96 r3.1 r3.2
 let r5 ← vl x1 r4.2
 let r6 ← ia P 96 r4.1 r5.1 r5.2
 let r7 ← fa P 159 r6.1 1 r6.2
 let r8 ← ld P 99 r7.1 r7.2
 let r9 ← ia P 99 r8.1 (.int .i64 0) r8.2
 let r10 ← ld P 110 r9.1 r9.2
 let r11 ← al P 110 r10.2
 let r12 ← st P 110 r11.1 r10.1 r11.2
 Ah (fa P 98 r1.1 0) (dw r12.2) fun r14 => do
 Ah (ld P 96 r14.1) (dw r12.2) fun r15 => do
 Ah (vl x1) (dw r12.2) fun r16 => do
 Ah (fa P 98 r1.1 0) (dw r12.2) fun r17 => do
 Ah (ld P 96 r17.1) (dw r12.2) fun r18 => do
 Ah (vl x1) (dw r12.2) fun r19 => do
 Ah (ia P 96 r18.1 r19.1) (dw r12.2) fun r20 => do
 Ah (fa P 159 r20.1 1) (dw r12.2) fun r21 => do
 Ah (ld P 99 r21.1) (dw r12.2) fun r22 => do
 Ah (sl P 99 r22.1 (some (.int .i64 1)) none none) (dw r12.2) fun r23 => do
 let r24 ← bs P 99 0 #[] (dw r12.2)
 AG (sl P 99 r22.1 (some (.int .i64 1)) none none r24.2 = some (r23.1, r24.2) ∧ ld P 99 r21.1 r24.2 = some (r22.1, r24.2) ∧ fa P 159 r20.1 1 r24.2 = some (r21.1, r24.2) ∧ ia P 96 r18.1 r19.1 r24.2 = some (r20.1, r24.2) ∧ ld P 96 r17.1 r24.2 = some (r18.1, r24.2) ∧ fa P 98 r1.1 0 r24.2 = some (r17.1, r24.2) ∧ ld P 96 r14.1 r24.2 = some (r15.1, r24.2) ∧ fa P 98 r1.1 0 r24.2 = some (r14.1, r24.2) ∧ True) <| do
 let r25 ← Ar P #[99, 99] 99 #[r24.1, r23.1] r24.2
 AG (True ∧ True ∧ True ∧ True ∧ True ∧ True ∧ ld P 96 r14.1 r25.2 = some (r15.1, r25.2) ∧ fa P 98 r1.1 0 r25.2 = some (r14.1, r25.2) ∧ True) <| do
 Ah (ia P 96 r15.1 r16.1) r25.2 fun r26 => do
 Ah (fa P 159 r26.1 1) r25.2 fun r27 => do
 let r28 ← st P 99 r27.1 r25.1 r25.2
 AG qt11 <| do
 let r29 ← ld P 98 r1.1 r28.2
 let r30 ← vl x1 r29.2
 let r31 ← bo P .add 3 (.tmp 29) (.const (.int .i64 1)) r30.1 (.int .i64 1) r30.2
 let r32 ← ld P 110 r11.1 r31.2
 let r33 ← EV P 138 #[r29.1, r31.1, r32.1] r32.2
 let r34 ← st P 98 r2.1 r33.1 r33.2
 let v36 ← (ld P 98 r2.1 r34.2).bind fun r35 => AG (r35.2 = r34.2) (some r35.1)
 some (v36, r34.2)) := by kernel_rfl
noncomputable def Ek (e : Env) (w : World) : Option (Value × World) := BA P (EV P) 115 83 (.loop (cA (cA (cB (cA (cB (cB (Ae P 115)))))))) e w (Am 0 (AE P (EV P) 115 83 (cB (cB (cB (Ae P 115)))) (Bc P (AB P 115))))
noncomputable def El (e : Env) (w : World) : Option (Value × World) := BA P (EV P) 115 83 (cB (cB (cA (cA (cB (cA (cB (cB (Ae P 115))))))))) e w (DM P (EV P) 115 83 (cA (cA (cB (cA (cB (cB (Ae P 115))))))) (Am 0 (AE P (EV P) 115 83 (cB (cB (cB (Ae P 115)))) (Bc P (AB P 115)))))
noncomputable def Em (e : Env) (w : World) : Option (Value × World) := BA P (EV P) 115 83 (.loop (cA (cA (cB (cA (cB (cB (cB (cB (Ae P 115)))))))))) e w (Am 2 (AE P (EV P) 115 83 (cB (cB (cB (cB (cB (Ae P 115)))))) (Bc P (AB P 115))))
theorem Gq (e : Env) (w : World) : Ek e w = (do
 let r1 ← vl (e 4) w
 let r2 ← bo P .lss 3 (.tmp 19) (.const (.int .i64 4)) r1.1 (.int .i64 4) r1.2
 AL r2.1 (do
 let r3 ← fa P 156 (e 3) 0 r2.2
 let r4 ← ld P 99 r3.1 r3.2
 let r5 ← vl (e 4) r4.2
 let r6 ← ia P 99 r4.1 r5.1 r5.2
 let r7 ← ld P 110 r6.1 r6.2
 let r8 ← al P 110 r7.2
 let r9 ← st P 110 r8.1 r7.1 r8.2
 let r10 ← fa P 110 r8.1 1 r9.2
 let r11 ← fa P 39 r10.1 0 r10.2
 let r12 ← ld P 3 r11.1 r11.2
 let r13 ← bo P .gtr 3 (.tmp 30) (.const (.int .i64 0)) r12.1 (.int .i64 0) r12.2
 let r14 ← vl r13.1 r13.2
 let r15 ← Ao r14.1 true (fa P 110 r8.1 1 r14.2) r14.2
 let r16 ← Ao r14.1 true (fa P 39 r15.1 1 r15.2) r15.2
 let r17 ← Ao r14.1 true (ld P 3 r16.1 r16.2) r16.2
 let r18 ← Ao r14.1 true (fa P 102 (e 1) 0 r17.2) r17.2
 let r19 ← Ao r14.1 true (ld P 3 r18.1 r18.2) r18.2
 let r20 ← Ao r14.1 true (bo P .eql 3 (.tmp 35) (.tmp 37) r17.1 r19.1 r19.2) r19.2
 let r21 ← Ax r14.1 r20.1 (.bool false) r20.2
 let r22 ← vl r21.1 r21.2
 let r23 ← Ao r22.1 true (fa P 102 (e 1) 3 r22.2) r22.2
 let r24 ← Ao r22.1 true (ld P 99 r23.1 r23.2) r23.2
 let r25 ← Ao r22.1 true (fa P 110 r8.1 1 r24.2) r24.2
 let r26 ← Ao r22.1 true (ld P 39 r25.1 r25.2) r25.2
 let r27 ← Ao r22.1 true (EV P 139 #[r24.1, r26.1] r26.2) r26.2
 let r28 ← Ao r22.1 true (uo P .not r27.1 r27.2) r27.2
 let r29 ← Ax r22.1 r28.1 (.bool false) r28.2
 AL r29.1 (do
 Ah (fa P 102 (e 1) 3) (dw r29.2) fun r31 => do
 Ah (ld P 99 r31.1) (dw r29.2) fun r32 => do
 Ah (ld P 110 r8.1) (dw r29.2) fun r33 => do
 let r34 ← EV P 66 #[r33.1] (dw r29.2)
 AG (True ∧ ld P 99 r31.1 r34.2 = some (r32.1, r34.2) ∧ fa P 102 (e 1) 3 r34.2 = some (r31.1, r34.2) ∧ True) <| do
 let r35 ← bs P 99 1 #[(0, r34.1)] r34.2
 AG (True ∧ ld P 99 r31.1 r35.2 = some (r32.1, r35.2) ∧ fa P 102 (e 1) 3 r35.2 = some (r31.1, r35.2) ∧ True) <| do
 let r36 ← Ar P #[99, 99] 99 #[r32.1, r35.1] r35.2
 AG qt4 <| do
 Ah (fa P 102 (e 1) 3) r36.2 fun r37 => do
 let r38 ← st P 99 r37.1 r36.1 r36.2
 AG qt5 <| do
 El (AJ e [(19, r1.1), (20, r2.1), (23, r3.1), (24, r4.1), (25, r5.1), (26, r6.1), (27, r7.1), (5, r8.1), (28, r10.1), (29, r11.1), (30, r12.1), (31, r13.1), (32, r14.1), (33, r15.1), (34, r16.1), (35, r17.1), (36, r18.1), (37, r19.1), (38, r20.1), (39, r21.1), (40, r22.1), (41, r23.1), (42, r24.1), (43, r25.1), (44, r26.1), (45, r27.1), (46, r28.1), (47, r29.1), (48, r31.1), (49, r32.1), (50, r33.1), (51, r34.1), (52, r35.1), (53, r36.1), (54, r37.1)]) r38.2) (do
 El (AJ e [(19, r1.1), (20, r2.1), (23, r3.1), (24, r4.1), (25, r5.1), (26, r6.1), (27, r7.1), (5, r8.1), (28, r10.1), (29, r11.1), (30, r12.1), (31, r13.1), (32, r14.1), (33, r15.1), (34, r16.1), (35, r17.1), (36, r18.1), (37, r19.1), (38, r20.1), (39, r21.1), (40, r22.1), (41, r23.1), (42, r24.1), (43, r25.1), (44, r26.1), (45, r27.1), (46, r28.1), (47, r29.1)]) r29.2)) (do
 let r39 ← vl (.bool true) r2.2
 let r40 ← vl (.int .i64 0) r39.2
 Em (AJ e [(19, r1.1), (20, r2.1), (6, r39.1), (7, r40.1)]) r40.2)) := (AH P (EV P) 115 83 (cA (cA (cB (cA (cB (cB (Ae P 115))))))) e w (Am 0 (AE P (EV P) 115 83 (cB (cB (cB (Ae P 115)))) (Bc P (AB P 115))))).trans (by kernel_rfl)
theorem JW (e : Env) (w : World) : El e w = (do
 let r1 ← vl (e 4) w
 let r2 ← bo P .add 3 (.tmp 21) (.const (.int .i64 1)) r1.1 (.int .i64 1) r1.2
 let r3 ← vl r2.1 r2.2
 Ek (AJ e [(21, r1.1), (22, r2.1), (4, r3.1)]) r3.2) := by kernel_rfl
theorem Gr (e : Env) (w : World) : Em e w = (do
 let r1 ← vl (e 7) w
 let r2 ← fa P 102 (e 1) 2 r1.2
 let r3 ← fa P 98 r2.1 0 r2.2
 let r4 ← ld P 96 r3.1 r3.2
 let r5 ← Au P #[96] 3 #[r4.1] r4.2
 let r6 ← bo P .lss 3 (.tmp 55) (.tmp 59) r1.1 r5.1 r5.2
 AL r6.1 (do
 let r7 ← vl (e 6) r6.2
 let r8 ← vl r7.1 r7.2
 let r9 ← Ao r8.1 true (fa P 102 (e 1) 2 r8.2) r8.2
 let r10 ← Ao r8.1 true (fa P 98 r9.1 0 r9.2) r9.2
 let r11 ← Ao r8.1 true (ld P 96 r10.1 r10.2) r10.2
 let r12 ← Ao r8.1 true (vl (e 7) r11.2) r11.2
 let r13 ← Ao r8.1 true (ia P 96 r11.1 r12.1 r12.2) r12.2
 let r14 ← Ao r8.1 true (fa P 159 r13.1 1 r13.2) r13.2
 let r15 ← Ao r8.1 true (ld P 99 r14.1 r14.2) r14.2
 let r16 ← Ao r8.1 true (Au P #[99] 3 #[r15.1] r15.2) r15.2
 let r17 ← Ao r8.1 true (bo P .eql 3 (.tmp 72) (.const (.int .i64 0)) r16.1 (.int .i64 0) r16.2) r16.2
 let r18 ← Ax r8.1 r17.1 (.bool false) r17.2
 let r19 ← vl r18.1 r18.2
 let r20 ← vl (e 7) r19.2
 let r21 ← bo P .add 3 (.tmp 61) (.const (.int .i64 1)) r20.1 (.int .i64 1) r20.2
 let r22 ← vl r21.1 r21.2
 Em (AJ e [(55, r1.1), (56, r2.1), (57, r3.1), (58, r4.1), (59, r5.1), (60, r6.1), (63, r7.1), (64, r8.1), (65, r9.1), (66, r10.1), (67, r11.1), (68, r12.1), (69, r13.1), (70, r14.1), (71, r15.1), (72, r16.1), (73, r17.1), (74, r18.1), (6, r19.1), (61, r20.1), (62, r21.1), (7, r22.1)]) r22.2) (do
 let r23 ← fa P 102 (e 1) 5 r6.2
 let r24 ← ld P 4 r23.1 r23.2
 let r25 ← vl r24.1 r24.2
 let r26 ← Ao r25.1 true (vl (e 6) r25.2) r25.2
 let r27 ← Ao r25.1 true (uo P .not r26.1 r26.2) r26.2
 let r28 ← Ax r25.1 r27.1 (.bool false) r27.2
 let r29 ← fa P 102 (e 1) 5 r28.2
 let r30 ← st P 4 r29.1 r28.1 r29.2
 let r31 ← ld P 102 (e 1) r30.2
 let r32 ← st P 102 (e 2) r31.1 r31.2
 let v34 ← (ld P 102 (e 2) r32.2).bind fun r33 => AG (r33.2 = r32.2) (some r33.1)
 some (v34, r32.2))) := (AH P (EV P) 115 83 (cA (cA (cB (cA (cB (cB (cB (cB (Ae P 115))))))))) e w (Am 2 (AE P (EV P) 115 83 (cB (cB (cB (cB (cB (Ae P 115)))))) (Bc P (AB P 115))))).trans (by kernel_rfl)
theorem MN (x0 : Value) (w : World) : Bv P (EV P) 115 #[x0] w = (do
 let r1 ← bx P 102 x0 w
 let r2 ← al P 102 r1.2
 let r3 ← fa P 102 r1.1 2 r2.2
 let r4 ← fa P 98 r3.1 0 r3.2
 let r5 ← ld P 96 r4.1 r4.2
 let r6 ← fa P 102 r1.1 2 r5.2
 let r7 ← fa P 98 r6.1 0 r6.2
 let r8 ← ld P 96 r7.1 r7.2
 let r9 ← Au P #[96] 3 #[r8.1] r8.2
 let r10 ← bo P .sub 3 (.tmp 14) (.const (.int .i64 1)) r9.1 (.int .i64 1) r9.2
 let r11 ← ia P 96 r5.1 r10.1 r10.2
 let r12 ← fa P 159 r11.1 0 r11.2
 let r13 ← ld P 156 r12.1 r12.2
 let r14 ← al P 156 r13.2
 let r15 ← st P 156 r14.1 r13.1 r14.2
 let r16 ← vl (.int .i64 0) r15.2
 Ek (AJ (AO #[x0]) [(1, r1.1), (2, r2.1), (8, r3.1), (9, r4.1), (10, r5.1), (11, r6.1), (12, r7.1), (13, r8.1), (14, r9.1), (15, r10.1), (16, r11.1), (17, r12.1), (18, r13.1), (3, r14.1), (4, r16.1)]) r16.2) := by kernel_rfl
theorem JX (x0 x1 : Value) (w : World) : Bv P (EV P) 116 #[x0, x1] w = (do
 let r1 ← bx P 102 x0 w
 let r2 ← vl (.bool false) r1.2
 let r3 ← fa P 102 r1.1 5 r2.2
 let r4 ← ld P 4 r3.1 r3.2
 let r5 ← uo P .not r4.1 r4.2
 let r6 ← vl r5.1 r5.2
 let r7 ← Ao r6.1 true (fa P 102 r1.1 2 r6.2) r6.2
 let r8 ← Ao r6.1 true (fa P 98 r7.1 0 r7.2) r7.2
 let r9 ← Ao r6.1 true (ld P 96 r8.1 r8.2) r8.2
 let r10 ← Ao r6.1 true (Au P #[96] 3 #[r9.1] r9.2) r9.2
 let r11 ← Ao r6.1 true (bo P .gtr 3 (.tmp 12) (.const (.int .i64 1)) r10.1 (.int .i64 1) r10.2) r10.2
 let r12 ← Ax r6.1 r11.1 (.bool false) r11.2
 let r13 ← vl r12.1 r12.2
 let r14 ← Ao r13.1 true (vl x1 r13.2) r13.2
 let r15 ← Ao r13.1 true (fa P 102 r1.1 2 r14.2) r14.2
 let r16 ← Ao r13.1 true (fa P 98 r15.1 0 r15.2) r15.2
 let r17 ← Ao r13.1 true (ld P 96 r16.1 r16.2) r16.2
 let r18 ← Ao r13.1 true (Au P #[96] 3 #[r17.1] r17.2) r17.2
 let r19 ← Ao r13.1 true (bo P .sub 3 (.tmp 20) (.const (.int .i64 1)) r18.1 (.int .i64 1) r18.2) r18.2
 let r20 ← Ao r13.1 true (EV P 50 #[r14.1, (.int .i64 0), r19.1] r19.2) r19.2
 let r21 ← Ax r13.1 r20.1 (.bool false) r20.2
 let r22 ← vl r21.1 r21.2
 some (r22.1, r22.2)) := by kernel_rfl
noncomputable def CQ (e : Env) (w : World) : Option (Value × World) := BA P (EV P) 117 56 (cB (cB (cB (cB (Ae P 117))))) e w (Bc P (AB P 117))
theorem JY (e : Env) (w : World) : CQ e w = (do
 let r1 ← fa P 98 (e 2) 0 w
 let r2 ← ld P 96 r1.1 r1.2
 let r3 ← vl (e 5) r2.2
 let r4 ← bo P .sub 3 (.tmp 51) (.const (.int .i64 1)) r3.1 (.int .i64 1) r3.2
 let r5 ← ia P 96 r2.1 r4.1 r4.2
 let r6 ← fa P 159 r5.1 1 r5.2
 let r7 ← st P 99 r6.1 (Go.Value.slice none 0 0) r6.2
 let r8 ← ld P 98 (e 2) r7.2
 let r9 ← st P 98 (e 4) r8.1 r8.2
 let v11 ← (ld P 98 (e 4) r9.2).bind fun r10 => AG (r10.2 = r9.2) (some r10.1)
 some (v11, r9.2)) := by kernel_rfl
theorem MO (x0 x1 : Value) (w : World) : Bv P (EV P) 117 #[x0, x1] w = (do
 let r1 ← bx P 98 x0 w
 let r2 ← al P 98 r1.2
 Ah (fa P 98 r1.1 0) (dw r2.2) fun r4 => do
 Ah (ld P 96 r4.1) (dw r2.2) fun r5 => do
 Ah (vl x1) (dw r2.2) fun r6 => do
 Ah (sl P 96 r5.1 none (some r6.1) none) (dw r2.2) fun r7 => do
 Ah (fa P 98 r1.1 0) (dw r2.2) fun r8 => do
 Ah (ld P 96 r8.1) (dw r2.2) fun r9 => do
 Ah (vl x1) (dw r2.2) fun r10 => do
 Ah (bo P .add 3 (.tmp 14) (.const (.int .i64 1)) r10.1 (.int .i64 1)) (dw r2.2) fun r11 => do
 Ah (sl P 96 r9.1 (some r11.1) none none) (dw r2.2) fun r12 => do
 let r13 ← bs P 96 0 #[] (dw r2.2)
 AG (sl P 96 r9.1 (some r11.1) none none r13.2 = some (r12.1, r13.2) ∧ bo P .add 3 (.tmp 14) (.const (.int .i64 1)) r10.1 (.int .i64 1) r13.2 = some (r11.1, r13.2) ∧ ld P 96 r8.1 r13.2 = some (r9.1, r13.2) ∧ fa P 98 r1.1 0 r13.2 = some (r8.1, r13.2) ∧ sl P 96 r5.1 none (some r6.1) none r13.2 = some (r7.1, r13.2) ∧ ld P 96 r4.1 r13.2 = some (r5.1, r13.2) ∧ fa P 98 r1.1 0 r13.2 = some (r4.1, r13.2) ∧ True) <| do
 let r14 ← Ar P #[96, 96] 96 #[r13.1, r7.1] r13.2
 AG (sl P 96 r9.1 (some r11.1) none none r14.2 = some (r12.1, r14.2) ∧ bo P .add 3 (.tmp 14) (.const (.int .i64 1)) r10.1 (.int .i64 1) r14.2 = some (r11.1, r14.2) ∧ ld P 96 r8.1 r14.2 = some (r9.1, r14.2) ∧ fa P 98 r1.1 0 r14.2 = some (r8.1, r14.2) ∧ True ∧ True ∧ True ∧ True) <| do
 let r15 ← Ar P #[96, 96] 96 #[r14.1, r12.1] r14.2
 AG qt8 <| do
 Ah (fa P 98 r1.1 0) r15.2 fun r16 => do
 let r17 ← st P 96 r16.1 r15.1 r15.2
 AG qt9 <| do
 let r18 ← fa P 98 r1.1 0 r17.2
 let r19 ← ld P 96 r18.1 r18.2
 let r20 ← Au P #[96] 3 #[r19.1] r19.2
 let r21 ← vl r20.1 r20.2
 let r22 ← vl x1 r21.2
 let r23 ← bo P .gtr 3 (.tmp 22) (.const (.int .i64 0)) r22.1 (.int .i64 0) r22.2
 let r24 ← vl r23.1 r23.2
 let r25 ← Ao r24.1 true (vl x1 r24.2) r24.2
 let r26 ← Ao r24.1 true (vl r21.1 r25.2) r25.2
 let r27 ← Ao r24.1 true (bo P .lss 3 (.tmp 25) (.tmp 26) r25.1 r26.1 r26.2) r26.2
 let r28 ← Ax r24.1 r27.1 (.bool false) r27.2
 AL r28.1 (do
 Ah (fa P 98 r1.1 0) (dw r28.2) fun r30 => do
 Ah (ld P 96 r30.1) (dw r28.2) fun r31 => do
 Ah (vl x1) (dw r28.2) fun r32 => do
 Ah (bo P .sub 3 (.tmp 31) (.const (.int .i64 1)) r32.1 (.int .i64 1)) (dw r28.2) fun r33 => do
 Ah (fa P 98 r1.1 0) (dw r28.2) fun r34 => do
 Ah (ld P 96 r34.1) (dw r28.2) fun r35 => do
 Ah (vl x1) (dw r28.2) fun r36 => do
 Ah (bo P .sub 3 (.tmp 35) (.const (.int .i64 1)) r36.1 (.int .i64 1)) (dw r28.2) fun r37 => do
 Ah (ia P 96 r35.1 r37.1) (dw r28.2) fun r38 => do
 Ah (fa P 159 r38.1 0) (dw r28.2) fun r39 => do
 Ah (ld P 156 r39.1) (dw r28.2) fun r40 => do
 Ah (fa P 98 r1.1 0) (dw r28.2) fun r41 => do
 Ah (ld P 96 r41.1) (dw r28.2) fun r42 => do
 Ah (vl x1) (dw r28.2) fun r43 => do
 Ah (ia P 96 r42.1 r43.1) (dw r28.2) fun r44 => do
 Ah (fa P 159 r44.1 0) (dw r28.2) fun r45 => do
 Ah (ld P 156 r45.1) (dw r28.2) fun r46 => do
 let r47 ← EV P 140 #[r40.1, r46.1] (dw r28.2)
 AG (True ∧ True ∧ True ∧ True ∧ True ∧ True ∧ True ∧ True ∧ True ∧ True ∧ True ∧ bo P .sub 3 (.tmp 31) (.const (.int .i64 1)) r32.1 (.int .i64 1) r47.2 = some (r33.1, r47.2) ∧ ld P 96 r30.1 r47.2 = some (r31.1, r47.2) ∧ fa P 98 r1.1 0 r47.2 = some (r30.1, r47.2) ∧ True) <| do
 Ah (ia P 96 r31.1 r33.1) r47.2 fun r48 => do
 Ah (fa P 159 r48.1 1) r47.2 fun r49 => do
 let r50 ← st P 99 r49.1 r47.1 r47.2
 AG qt17 <| do
 CQ (AJ (AO #[x0, x1]) [(2, r1.1), (4, r2.1), (7, r4.1), (8, r5.1), (9, r6.1), (10, r7.1), (12, r8.1), (13, r9.1), (14, r10.1), (15, r11.1), (16, r12.1), (6, r13.1), (11, r14.1), (17, r15.1), (18, r16.1), (19, r18.1), (20, r19.1), (21, r20.1), (5, r21.1), (22, r22.1), (23, r23.1), (24, r24.1), (25, r25.1), (26, r26.1), (27, r27.1), (28, r28.1), (29, r30.1), (30, r31.1), (31, r32.1), (32, r33.1), (33, r34.1), (34, r35.1), (35, r36.1), (36, r37.1), (37, r38.1), (38, r39.1), (39, r40.1), (40, r41.1), (41, r42.1), (42, r43.1), (43, r44.1), (44, r45.1), (45, r46.1), (46, r47.1), (47, r48.1), (48, r49.1)]) r50.2) (do
 CQ (AJ (AO #[x0, x1]) [(2, r1.1), (4, r2.1), (7, r4.1), (8, r5.1), (9, r6.1), (10, r7.1), (12, r8.1), (13, r9.1), (14, r10.1), (15, r11.1), (16, r12.1), (6, r13.1), (11, r14.1), (17, r15.1), (18, r16.1), (19, r18.1), (20, r19.1), (21, r20.1), (5, r21.1), (22, r22.1), (23, r23.1), (24, r24.1), (25, r25.1), (26, r26.1), (27, r27.1), (28, r28.1)]) r28.2)) := by kernel_rfl
theorem MP (x0 : Value) (w : World) : Bv P (EV P) 118 #[x0] w = (do
 let r1 ← bx P 98 x0 w
 let r2 ← al P 98 r1.2
 let r3 ← fa P 98 r1.1 0 r2.2
 let r4 ← ld P 96 r3.1 r3.2
 let r5 ← Au P #[96] 3 #[r4.1] r4.2
 let r6 ← vl r5.1 r5.2
 Ah (fa P 98 r1.1 0) (dw r6.2) fun r8 => do
 Ah (ld P 96 r8.1) (dw r6.2) fun r9 => do
 Ah (fa P 98 r1.1 0) (dw r6.2) fun r10 => do
 Ah (ld P 96 r10.1) (dw r6.2) fun r11 => do
 Ah (vl r6.1) (dw r6.2) fun r12 => do
 Ah (bo P .sub 3 (.tmp 11) (.const (.int .i64 1)) r12.1 (.int .i64 1)) (dw r6.2) fun r13 => do
 Ah (ia P 96 r11.1 r13.1) (dw r6.2) fun r14 => do
 Ah (fa P 159 r14.1 0) (dw r6.2) fun r15 => do
 Ah (ld P 156 r15.1) (dw r6.2) fun r16 => do
 let r17 ← EV P 107 #[r16.1] (dw r6.2)
 AG (True ∧ True ∧ True ∧ True ∧ True ∧ True ∧ ld P 96 r8.1 r17.2 = some (r9.1, r17.2) ∧ fa P 98 r1.1 0 r17.2 = some (r8.1, r17.2) ∧ True) <| do
 Ah (bd P 159 #[(0, r17.1)]) r17.2 fun r18 => do
 let r19 ← bs P 96 1 #[(0, r18.1)] r17.2
 AG (True ∧ True ∧ True ∧ True ∧ True ∧ True ∧ True ∧ ld P 96 r8.1 r19.2 = some (r9.1, r19.2) ∧ fa P 98 r1.1 0 r19.2 = some (r8.1, r19.2) ∧ True) <| do
 let r20 ← Ar P #[96, 96] 96 #[r9.1, r19.1] r19.2
 AG qt10 <| do
 Ah (fa P 98 r1.1 0) r20.2 fun r21 => do
 let r22 ← st P 96 r21.1 r20.1 r20.2
 AG qt11 <| do
 let r23 ← ld P 98 r1.1 r22.2
 let r24 ← st P 98 r2.1 r23.1 r23.2
 let v26 ← (ld P 98 r2.1 r24.2).bind fun r25 => AG (r25.2 = r24.2) (some r25.1)
 some (v26, r24.2)) := by kernel_rfl
theorem JZ (x0 x1 : Value) (w : World) : Bv P (EV P) 119 #[x0, x1] w = (do
 let r1 ← bx P 102 x0 w
 let r2 ← vl (.bool false) r1.2
 let r3 ← ld P 102 r1.1 r2.2
 let r4 ← vl x1 r3.2
 let r5 ← EV P 141 #[r3.1, r4.1] r4.2
 let r6 ← vl r5.1 r5.2
 Ah (vl r6.1) (dw r6.2) fun r8 => do
 Ah (bo P .geq 3 (.tmp 9) (.const (.int .i64 0)) r8.1 (.int .i64 0)) (dw r6.2) fun r9 => do
 Ah (vl r9.1) (dw r6.2) fun r10 => do
 Ah (Ao r10.1 true (fa P 102 r1.1 2 (dw r6.2))) (dw r6.2) fun r11 => do
 Ah (Ao r10.1 true (ld P 98 r11.1 (dw r6.2))) (dw r6.2) fun r12 => do
 let r13 ← Ao r10.1 true (EV P 142 #[r12.1] (dw r6.2)) (dw r6.2)
 AG qt4 <| do
 Ah (Ax r10.1 r13.1 (.bool false)) r13.2 fun r14 => do
 Ah (vl r14.1) r13.2 fun r15 => do
 Ah (Ao r15.1 true (fa P 102 r1.1 4 r13.2)) r13.2 fun r16 => do
 Ah (Ao r15.1 true (ld P 100 r16.1 r13.2)) r13.2 fun r17 => do
 Ah (Ao r15.1 true (vl x1 r13.2)) r13.2 fun r18 => do
 Ah (Ao r15.1 true (ia P 100 r17.1 r18.1 r13.2)) r13.2 fun r19 => do
 Ah (Ao r15.1 true (ld P 99 r19.1 r13.2)) r13.2 fun r20 => do
 Ah (Ao r15.1 true (vl r6.1 r13.2)) r13.2 fun r21 => do
 Ah (Ao r15.1 true (ia P 99 r20.1 r21.1 r13.2)) r13.2 fun r22 => do
 Ah (Ao r15.1 true (fa P 110 r22.1 2 r13.2)) r13.2 fun r23 => do
 Ah (Ao r15.1 true (ld P 106 r23.1 r13.2)) r13.2 fun r24 => do
 Ah (Ao r15.1 true (fa P 102 r1.1 2 r13.2)) r13.2 fun r25 => do
 Ah (Ao r15.1 true (ld P 98 r25.1 r13.2)) r13.2 fun r26 => do
 let r27 ← Ao r15.1 true (EV P 143 #[r26.1] r13.2) r13.2
 AG (True ∧ True ∧ Ao r15.1 true (ld P 106 r23.1 r27.2) r27.2 = some (r24.1, r27.2) ∧ Ao r15.1 true (fa P 110 r22.1 2 r27.2) r27.2 = some (r23.1, r27.2) ∧ Ao r15.1 true (ia P 99 r20.1 r21.1 r27.2) r27.2 = some (r22.1, r27.2) ∧ Ao r15.1 true (ld P 99 r19.1 r27.2) r27.2 = some (r20.1, r27.2) ∧ Ao r15.1 true (ia P 100 r17.1 r18.1 r27.2) r27.2 = some (r19.1, r27.2) ∧ Ao r15.1 true (ld P 100 r16.1 r27.2) r27.2 = some (r17.1, r27.2) ∧ Ao r15.1 true (fa P 102 r1.1 4 r27.2) r27.2 = some (r16.1, r27.2) ∧ True ∧ True ∧ True ∧ True) <| do
 let r28 ← Ao r15.1 true (EV P 136 #[r24.1, r27.1] r27.2) r27.2
 AG qt13 <| do
 Ah (Ax r15.1 r28.1 (.bool false)) r28.2 fun r29 => do
 Ah (vl r29.1) r28.2 fun r30 => do
 some (r30.1, r28.2)) := by kernel_rfl
noncomputable def Ig (e : Env) (w : World) : Option (Value × World) := BA P (EV P) 120 33 (cA (cB (Ae P 120))) e w (AE P (EV P) 120 33 (cB (cB (Ae P 120))) (Bc P (AB P 120)))
noncomputable def En (e : Env) (w : World) : Option (Value × World) := BA P (EV P) 120 33 (cB (cB (Ae P 120))) e w (Bc P (AB P 120))
noncomputable def Eo (e : Env) (w : World) : Option (Value × World) := BA P (EV P) 120 33 (cB (cB (cB (Ae P 120)))) e w (Bc P (AB P 120))
theorem Jw (e : Env) (w : World) {Q : Value × World → Prop} (h :
 (Af (fa P 102 (e 2) 4 (dw w)) fun r1 => r1.2 = (dw w) ∧
 (Af (ld P 100 r1.1 (dw w)) fun r2 => r2.2 = (dw w) ∧
 (Af (vl (e 1) (dw w)) fun r3 => r3.2 = (dw w) ∧
 (Af (ia P 100 r2.1 r3.1 (dw w)) fun r4 => r4.2 = (dw w) ∧
 (Af (ld P 99 r4.1 (dw w)) fun r5 => r5.2 = (dw w) ∧
 (Af (ld P 102 (e 2) (dw w)) fun r6 => r6.2 = (dw w) ∧
 (Af (vl (e 1) (dw w)) fun r7 => r7.2 = (dw w) ∧
 ((Af (EV P 141 #[r6.1, r7.1] (dw w)) fun r8 => (True ∧ ld P 99 r4.1 r8.2 = some (r5.1, r8.2) ∧ ia P 100 r2.1 r3.1 r8.2 = some (r4.1, r8.2) ∧ ld P 100 r1.1 r8.2 = some (r2.1, r8.2) ∧ fa P 102 (e 2) 4 r8.2 = some (r1.1, r8.2) ∧ True) ∧
 (Af (ia P 99 r5.1 r8.1 r8.2) fun r9 => r9.2 = r8.2 ∧
 (Af (ld P 110 r9.1 r8.2) fun r10 => r10.2 = r8.2 ∧
 ((Af (al P 110 r8.2) fun r11 => (ld P 110 r9.1 r11.2 = some (r10.1, r11.2) ∧ ia P 99 r5.1 r8.1 r11.2 = some (r9.1, r11.2) ∧ ld P 102 (e 2) r11.2 = some (r6.1, r11.2) ∧ ld P 99 r4.1 r11.2 = some (r5.1, r11.2) ∧ ia P 100 r2.1 r3.1 r11.2 = some (r4.1, r11.2) ∧ ld P 100 r1.1 r11.2 = some (r2.1, r11.2) ∧ fa P 102 (e 2) 4 r11.2 = some (r1.1, r11.2) ∧ True) ∧
 ((Af (st P 110 r11.1 r10.1 r11.2) fun r12 => (True ∧ True ∧ True ∧ True ∧ True ∧ True ∧ True ∧ True) ∧
 Af (En (AJ e [(6, r1.1), (7, r2.1), (8, r3.1), (9, r4.1), (10, r5.1), (11, r6.1), (12, r7.1), (13, r8.1), (14, r9.1), (15, r10.1), (5, r11.1)]) r12.2) Q))))))) ∧
 (Af (al P 110 (dw w)) fun r13 => (ld P 102 (e 2) r13.2 = some (r6.1, r13.2) ∧ ld P 99 r4.1 r13.2 = some (r5.1, r13.2) ∧ ia P 100 r2.1 r3.1 r13.2 = some (r4.1, r13.2) ∧ ld P 100 r1.1 r13.2 = some (r2.1, r13.2) ∧ fa P 102 (e 2) 4 r13.2 = some (r1.1, r13.2) ∧ True) ∧
 ((Af (EV P 141 #[r6.1, r7.1] r13.2) fun r14 => (True ∧ ld P 99 r4.1 r14.2 = some (r5.1, r14.2) ∧ ia P 100 r2.1 r3.1 r14.2 = some (r4.1, r14.2) ∧ ld P 100 r1.1 r14.2 = some (r2.1, r14.2) ∧ fa P 102 (e 2) 4 r14.2 = some (r1.1, r14.2) ∧ True) ∧
 (Af (ia P 99 r5.1 r14.1 r14.2) fun r15 => r15.2 = r14.2 ∧
 (Af (ld P 110 r15.1 r14.2) fun r16 => r16.2 = r14.2 ∧
 ((Af (st P 110 r13.1 r16.1 r14.2) fun r17 => (True ∧ True ∧ True ∧ True ∧ True ∧ True ∧ True ∧ True) ∧
 Af (En (AJ e [(6, r1.1), (7, r2.1), (8, r3.1), (9, r4.1), (10, r5.1), (11, r6.1), (12, r7.1), (5, r13.1), (13, r14.1), (14, r15.1), (15, r16.1)]) r17.2) Q)))))))))))))))) : Af (Ig e w) Q := FH (id := 1) (ops := opsOf (cA (cB (Ae P 120)))) (by kernel_rfl) (by kernel_rfl) (Eq.mpr (by kernel_rfl) h)
theorem J0 (e : Env) (w : World) : En e w = (do
 let r1 ← fa P 110 (e 5) 1 w
 let r2 ← fa P 39 r1.1 0 r1.2
 let r3 ← ld P 3 r2.1 r2.2
 let r4 ← fa P 102 (e 2) 1 r3.2
 let r5 ← ld P 3 r4.1 r4.2
 let r6 ← bo P .gtr 3 (.tmp 18) (.tmp 20) r3.1 r5.1 r5.2
 AL r6.1 (do
 let r7 ← fa P 110 (e 5) 1 r6.2
 let r8 ← fa P 39 r7.1 0 r7.2
 let r9 ← ld P 3 r8.1 r8.2
 let r10 ← fa P 102 (e 2) 1 r9.2
 let r11 ← st P 3 r10.1 r9.1 r10.2
 Eo (AJ e [(16, r1.1), (17, r2.1), (18, r3.1), (19, r4.1), (20, r5.1), (21, r6.1), (22, r7.1), (23, r8.1), (24, r9.1), (25, r10.1)]) r11.2) (do
 Eo (AJ e [(16, r1.1), (17, r2.1), (18, r3.1), (19, r4.1), (20, r5.1), (21, r6.1)]) r6.2)) := by kernel_rfl
theorem J1 (e : Env) (w : World) : Eo e w = (do
 let r1 ← fa P 102 (e 2) 2 w
 let r2 ← ld P 98 r1.1 r1.2
 let r3 ← ld P 110 (e 5) r2.2
 let r4 ← EV P 138 #[r2.1, (.int .i64 0), r3.1] r3.2
 let r5 ← fa P 102 (e 2) 2 r4.2
 let r6 ← st P 98 r5.1 r4.1 r5.2
 let r7 ← ld P 102 (e 2) r6.2
 let r8 ← EV P 115 #[r7.1] r7.2
 let r9 ← st P 102 (e 4) r8.1 r8.2
 let v11 ← (ld P 102 (e 4) r9.2).bind fun r10 => AG (r10.2 = r9.2) (some r10.1)
 some (v11, r9.2)) := by kernel_rfl
theorem MQ (x0 x1 : Value) (w : World) : Bv P (EV P) 120 #[x0, x1] w = (do
 let r1 ← bx P 102 x0 w
 let r2 ← al P 102 r1.2
 Ig (AJ (AO #[x0, x1]) [(2, r1.1), (4, r2.1)]) r2.2) := by kernel_rfl
theorem MR (x0 x1 x2 x3 : Value) (w : World) : Bv P (EV P) 121 #[x0, x1, x2, x3] w = (do
 let r1 ← bx P 102 x0 w
 let r2 ← bx P 110 x3 r1.2
 let r3 ← al P 102 r2.2
 let r4 ← vl (.bool false) r3.2
 Ah (vl x1) (dw r4.2) fun r6 => do
 Ah (fa P 102 r1.1 0) (dw r4.2) fun r7 => do
 Ah (ld P 3 r7.1) (dw r4.2) fun r8 => do
 Ah (bo P .eql 3 (.tmp 10) (.tmp 12) r6.1 r8.1) (dw r4.2) fun r9 => do
 Ah (vl r9.1) (dw r4.2) fun r10 => do
 Ah (Ao r10.1 false (vl x2 (dw r4.2))) (dw r4.2) fun r11 => do
 Ah (Ao r10.1 false (fa P 102 r1.1 4 (dw r4.2))) (dw r4.2) fun r12 => do
 Ah (Ao r10.1 false (ld P 100 r12.1 (dw r4.2))) (dw r4.2) fun r13 => do
 Ah (Ao r10.1 false (vl x1 (dw r4.2))) (dw r4.2) fun r14 => do
 Ah (Ao r10.1 false (ia P 100 r13.1 r14.1 (dw r4.2))) (dw r4.2) fun r15 => do
 Ah (Ao r10.1 false (ld P 99 r15.1 (dw r4.2))) (dw r4.2) fun r16 => do
 Ah (Ao r10.1 false (Au P #[99] 3 #[r16.1] (dw r4.2))) (dw r4.2) fun r17 => do
 Ah (Ao r10.1 false (bo P .neq 3 (.tmp 15) (.tmp 21) r11.1 r17.1 (dw r4.2))) (dw r4.2) fun r18 => do
 Ah (Ax r10.1 (.bool true) r18.1) (dw r4.2) fun r19 => do
 Ah (vl r19.1) (dw r4.2) fun r20 => do
 Ah (Ao r20.1 false (vl x2 (dw r4.2))) (dw r4.2) fun r21 => do
 Ah (Ao r20.1 false (bo P .geq 3 (.tmp 25) (.const (.int .i64 60)) r21.1 (.int .i64 60) (dw r4.2))) (dw r4.2) fun r22 => do
 Ah (Ax r20.1 (.bool true) r22.1) (dw r4.2) fun r23 => do
 Ah (vl r23.1) (dw r4.2) fun r24 => do
 Ah (Ao r24.1 false (fa P 102 r1.1 4 (dw r4.2))) (dw r4.2) fun r25 => do
 Ah (Ao r24.1 false (ld P 100 r25.1 (dw r4.2))) (dw r4.2) fun r26 => do
 Ah (Ao r24.1 false (vl x1 (dw r4.2))) (dw r4.2) fun r27 => do
 Ah (Ao r24.1 false (ia P 100 r26.1 r27.1 (dw r4.2))) (dw r4.2) fun r28 => do
 Ah (Ao r24.1 false (ld P 99 r28.1 (dw r4.2))) (dw r4.2) fun r29 => do
 Ah (Ao r24.1 false (fa P 110 r2.1 1 (dw r4.2))) (dw r4.2) fun r30 => do
 Ah (Ao r24.1 false (ld P 39 r30.1 (dw r4.2))) (dw r4.2) fun r31 => do
 let r32 ← Ao r24.1 false (EV P 139 #[r29.1, r31.1] (dw r4.2)) (dw r4.2)
 AG qt17 <| do
 Ah (Ax r24.1 (.bool true) r32.1) r32.2 fun r33 => do
 AL r33.1 (do
 let r34 ← ld P 102 r1.1 r32.2
 let r35 ← st P 102 r3.1 r34.1 r34.2
 let r36 ← vl (.bool false) r35.2
 let v38 ← (ld P 102 r3.1 r36.2).bind fun r37 => AG (r37.2 = r36.2) (some r37.1)
 some (.tuple #[v38, r36.1], r36.2)) (do
 Ah (fa P 102 r1.1 4) (dw r32.2) fun r40 => do
 Ah (ld P 100 r40.1) (dw r32.2) fun r41 => do
 Ah (vl x1) (dw r32.2) fun r42 => do
 Ah (fa P 102 r1.1 4) (dw r32.2) fun r43 => do
 Ah (ld P 100 r43.1) (dw r32.2) fun r44 => do
 Ah (vl x1) (dw r32.2) fun r45 => do
 Ah (ia P 100 r44.1 r45.1) (dw r32.2) fun r46 => do
 Ah (ld P 99 r46.1) (dw r32.2) fun r47 => do
 Ah (ld P 110 r2.1) (dw r32.2) fun r48 => do
 let r49 ← EV P 66 #[r48.1] (dw r32.2)
 AG (True ∧ ld P 99 r46.1 r49.2 = some (r47.1, r49.2) ∧ ia P 100 r44.1 r45.1 r49.2 = some (r46.1, r49.2) ∧ ld P 100 r43.1 r49.2 = some (r44.1, r49.2) ∧ fa P 102 r1.1 4 r49.2 = some (r43.1, r49.2) ∧ ld P 100 r40.1 r49.2 = some (r41.1, r49.2) ∧ fa P 102 r1.1 4 r49.2 = some (r40.1, r49.2) ∧ True) <| do
 let r50 ← bs P 99 1 #[(0, r49.1)] r49.2
 AG (True ∧ ld P 99 r46.1 r50.2 = some (r47.1, r50.2) ∧ ia P 100 r44.1 r45.1 r50.2 = some (r46.1, r50.2) ∧ ld P 100 r43.1 r50.2 = some (r44.1, r50.2) ∧ fa P 102 r1.1 4 r50.2 = some (r43.1, r50.2) ∧ ld P 100 r40.1 r50.2 = some (r41.1, r50.2) ∧ fa P 102 r1.1 4 r50.2 = some (r40.1, r50.2) ∧ True) <| do
 let r51 ← Ar P #[99, 99] 99 #[r47.1, r50.1] r50.2
 AG (True ∧ True ∧ True ∧ True ∧ True ∧ ld P 100 r40.1 r51.2 = some (r41.1, r51.2) ∧ fa P 102 r1.1 4 r51.2 = some (r40.1, r51.2) ∧ True) <| do
 Ah (ia P 100 r41.1 r42.1) r51.2 fun r52 => do
 let r53 ← st P 99 r52.1 r51.1 r51.2
 AG qt9 <| do
 let r54 ← ld P 102 r1.1 r53.2
 let r55 ← st P 102 r3.1 r54.1 r54.2
 let r56 ← vl (.bool true) r55.2
 let v58 ← (ld P 102 r3.1 r56.2).bind fun r57 => AG (r57.2 = r56.2) (some r57.1)
 some (.tuple #[v58, r56.1], r56.2))) := by kernel_rfl
theorem Gb (x0 : Value) (w : World) : Bv P (EV P) 125 #[x0] w = (do
 let r1 ← vl (.int .u8 0) w
 let r2 ← vl x0 r1.2
 let r3 ← bo P .or 5 (.tmp 3) (.const (.int .u8 32)) r2.1 (.int .u8 32) r2.2
 let r4 ← vl r3.1 r3.2
 some (r4.1, r4.2)) := by kernel_rfl
theorem Ol (w : World) : Bv P (EV P) 127 #[] w = (do
 let r1 ← al P 156 w
 let r2 ← ms P 99 (.int .i64 4) (.int .i64 4) r1.2
 let r3 ← bd P 156 #[(0, r2.1)] r2.2
 let r4 ← st P 156 r1.1 r3.1 r3.2
 let v6 ← (ld P 156 r1.1 r4.2).bind fun r5 => AG (r5.2 = r4.2) (some r5.1)
 some (v6, r4.2)) := by kernel_rfl
noncomputable def CY (e : Env) (w : World) : Option (Value × World) := BA P (EV P) 128 23 (.loop (cA (cA (cB (cA (cB (Ae P 128))))))) e w (Am 0 (AE P (EV P) 128 23 (cB (cB (Ae P 128))) (Bc P (AB P 128))))
theorem Fx (e : Env) (w : World) : CY e w = (do
 let r1 ← vl (e 3) w
 let r2 ← vl (e 0) r1.2
 let r3 ← Au P #[9] 3 #[r2.1] r2.2
 let r4 ← bo P .lss 3 (.tmp 4) (.tmp 6) r1.1 r3.1 r3.2
 AL r4.1 (do
 let r5 ← vl (e 0) r4.2
 let r6 ← vl (e 3) r5.2
 let r7 ← ix P 9 r5.1 r6.1 r6.2
 let r8 ← bo P .lss 5 (.tmp 12) (.const (.int .u8 33)) r7.1 (.int .u8 33) r7.2
 let r9 ← vl r8.1 r8.2
 let r10 ← Ao r9.1 false (vl (e 0) r9.2) r9.2
 let r11 ← Ao r9.1 false (vl (e 3) r10.2) r10.2
 let r12 ← Ao r9.1 false (ix P 9 r10.1 r11.1 r11.2) r11.2
 let r13 ← Ao r9.1 false (bo P .gtr 5 (.tmp 17) (.const (.int .u8 126)) r12.1 (.int .u8 126) r12.2) r12.2
 let r14 ← Ax r9.1 (.bool true) r13.1 r13.2
 AL r14.1 (do
 let r15 ← vl (.bool false) r14.2
 some (r15.1, r15.2)) (do
 let r16 ← vl (e 3) r14.2
 let r17 ← bo P .add 3 (.tmp 8) (.const (.int .i64 1)) r16.1 (.int .i64 1) r16.2
 let r18 ← vl r17.1 r17.2
 CY (AJ e [(4, r1.1), (5, r2.1), (6, r3.1), (7, r4.1), (10, r5.1), (11, r6.1), (12, r7.1), (13, r8.1), (14, r9.1), (15, r10.1), (16, r11.1), (17, r12.1), (18, r13.1), (19, r14.1), (8, r16.1), (9, r17.1), (3, r18.1)]) r18.2)) (do
 let r19 ← vl (e 0) r4.2
 let r20 ← Au P #[9] 3 #[r19.1] r19.2
 let r21 ← bo P .leq 3 (.tmp 21) (.const (.int .i64 8)) r20.1 (.int .i64 8) r20.2
 let r22 ← vl r21.1 r21.2
 some (r22.1, r22.2))) := (AH P (EV P) 128 23 (cA (cA (cB (cA (cB (Ae P 128)))))) e w (Am 0 (AE P (EV P) 128 23 (cB (cB (Ae P 128))) (Bc P (AB P 128))))).trans (by kernel_rfl)
theorem KQ (x0 : Value) (w : World) : Bv P (EV P) 128 #[x0] w = (do
 let r1 ← vl (.bool false) w
 let r2 ← vl (.int .i64 0) r1.2
 CY (AJ (AO #[x0]) [(2, r1.1), (3, r2.1)]) r2.2) := by kernel_rfl
theorem Om (x0 x1 : Value) (w : World) : Bv P (EV P) 129 #[x0, x1] w = (do
 let r1 ← bx P 102 x0 w
 let r2 ← bx P 106 x1 r1.2
 let r3 ← vl (.bool false) r2.2
 Ah (ld P 106 r2.1) (dw r3.2) fun r5 => do
 Ah (fa P 102 r1.1 2) (dw r3.2) fun r6 => do
 Ah (ld P 98 r6.1) (dw r3.2) fun r7 => do
 let r8 ← EV P 143 #[r7.1] (dw r3.2)
 AG (True ∧ True ∧ ld P 106 r2.1 r8.2 = some (r5.1, r8.2) ∧ True) <| do
 let r9 ← EV P 136 #[r5.1, r8.1] r8.2
 AG qt4 <| do
 Ah (vl r9.1) r9.2 fun r10 => do
 Ah (Ao r10.1 true (fa P 102 r1.1 2 r9.2)) r9.2 fun r11 => do
 Ah (Ao r10.1 true (ld P 98 r11.1 r9.2)) r9.2 fun r12 => do
 let r13 ← Ao r10.1 true (EV P 142 #[r12.1] r9.2) r9.2
 AG qt6 <| do
 Ah (Ax r10.1 r13.1 (.bool false)) r13.2 fun r14 => do
 Ah (vl r14.1) r13.2 fun r15 => do
 Ah (Ao r15.1 true (ld P 102 r1.1 r13.2)) r13.2 fun r16 => do
 Ah (Ao r15.1 true (ld P 106 r2.1 r13.2)) r13.2 fun r17 => do
 let r18 ← Ao r15.1 true (EV P 144 #[r16.1, r17.1] r13.2) r13.2
 AG qt8 <| do
 Ah (Ao r15.1 true (bo P .leq 3 (.tmp 18) (.const (.int .i64 999)) r18.1 (.int .i64 999) r18.2)) r18.2 fun r19 => do
 Ah (Ax r15.1 r19.1 (.bool false)) r18.2 fun r20 => do
 Ah (vl r20.1) r18.2 fun r21 => do
 Ah (Ao r21.1 true (fa P 102 r1.1 3 r18.2)) r18.2 fun r22 => do
 Ah (Ao r21.1 true (ld P 99 r22.1 r18.2)) r18.2 fun r23 => do
 Ah (Ao r21.1 true (Au P #[99] 3 #[r23.1] r18.2)) r18.2 fun r24 => do
 Ah (Ao r21.1 true (bo P .lss 3 (.tmp 24) (.const (.int .i64 36)) r24.1 (.int .i64 36) r18.2)) r18.2 fun r25 => do
 Ah (Ax r21.1 r25.1 (.bool false)) r18.2 fun r26 => do
 Ah (vl r26.1) r18.2 fun r27 => do
 some (r27.1, r18.2)) := by kernel_rfl
noncomputable def Fp (e : Env) (w : World) : Option (Value × World) := BA P (EV P) 130 41 (cA (cB (Ae P 130))) e w (AE P (EV P) 130 41 (cB (cB (Ae P 130))) (Bc P (AB P 130)))
noncomputable def Be (e : Env) (w : World) : Option (Value × World) := BA P (EV P) 130 41 (cB (cB (Ae P 130))) e w (Bc P (AB P 130))
theorem IZ (e : Env) (w : World) {Q : Value × World → Prop} (h :
 (Af (vl (e 1) (dw w)) fun r1 => r1.2 = (dw w) ∧
 (Af (ld P 102 (e 5) (dw w)) fun r2 => r2.2 = (dw w) ∧
 (Af (ld P 106 (e 9) (dw w)) fun r3 => r3.2 = (dw w) ∧
 (Af (fa P 102 (e 5) 0 (dw w)) fun r4 => r4.2 = (dw w) ∧
 (Af (ld P 3 r4.1 (dw w)) fun r5 => r5.2 = (dw w) ∧
 (Af (fa P 106 (e 9) 0 (dw w)) fun r6 => r6.2 = (dw w) ∧
 (Af (ld P 104 r6.1 (dw w)) fun r7 => r7.2 = (dw w) ∧
 (Af (vl (e 2) (dw w)) fun r8 => r8.2 = (dw w) ∧
 (Af (vl (e 3) (dw w)) fun r9 => r9.2 = (dw w) ∧
 ((Af (EV P 144 #[r2.1, r3.1] (dw w)) fun r10 => (ld P 104 r6.1 r10.2 = some (r7.1, r10.2) ∧ fa P 106 (e 9) 0 r10.2 = some (r6.1, r10.2) ∧ ld P 3 r4.1 r10.2 = some (r5.1, r10.2) ∧ fa P 102 (e 5) 0 r10.2 = some (r4.1, r10.2) ∧ True ∧ True ∧ True) ∧
 (Af (bd P 39 #[(0, r10.1), (1, r5.1)] r10.2) fun r11 => r11.2 = r10.2 ∧
 ((Af (bs P 104 0 #[] r10.2) fun r12 => (bd P 39 #[(0, r10.1), (1, r5.1)] r12.2 = some (r11.1, r12.2) ∧ ld P 104 r6.1 r12.2 = some (r7.1, r12.2) ∧ fa P 106 (e 9) 0 r12.2 = some (r6.1, r12.2) ∧ ld P 3 r4.1 r12.2 = some (r5.1, r12.2) ∧ fa P 102 (e 5) 0 r12.2 = some (r4.1, r12.2) ∧ ld P 106 (e 9) r12.2 = some (r3.1, r12.2) ∧ ld P 102 (e 5) r12.2 = some (r2.1, r12.2) ∧ True) ∧
 ((Af (Ar P #[104, 104] 104 #[r12.1, r7.1] r12.2) fun r13 => (bd P 39 #[(0, r10.1), (1, r5.1)] r13.2 = some (r11.1, r13.2) ∧ True ∧ True ∧ ld P 3 r4.1 r13.2 = some (r5.1, r13.2) ∧ fa P 102 (e 5) 0 r13.2 = some (r4.1, r13.2) ∧ True ∧ True ∧ True) ∧
 (Af (bd P 106 #[(0, r13.1)] r13.2) fun r14 => r14.2 = r13.2 ∧
 (Af (bd P 110 #[(0, r1.1), (1, r11.1), (2, r14.1), (3, r8.1), (4, r9.1)] r13.2) fun r15 => r15.2 = r13.2 ∧
 ((Af (al P 110 r13.2) fun r16 => (bd P 110 #[(0, r1.1), (1, r11.1), (2, r14.1), (3, r8.1), (4, r9.1)] r16.2 = some (r15.1, r16.2) ∧ bd P 106 #[(0, r13.1)] r16.2 = some (r14.1, r16.2) ∧ bd P 39 #[(0, r10.1), (1, r5.1)] r16.2 = some (r11.1, r16.2) ∧ ld P 104 r6.1 r16.2 = some (r7.1, r16.2) ∧ fa P 106 (e 9) 0 r16.2 = some (r6.1, r16.2) ∧ ld P 3 r4.1 r16.2 = some (r5.1, r16.2) ∧ fa P 102 (e 5) 0 r16.2 = some (r4.1, r16.2) ∧ ld P 106 (e 9) r16.2 = some (r3.1, r16.2) ∧ ld P 102 (e 5) r16.2 = some (r2.1, r16.2) ∧ True) ∧
 ((Af (st P 110 r16.1 r15.1 r16.2) fun r17 => (True ∧ True ∧ True ∧ True ∧ True ∧ True ∧ True ∧ True ∧ True ∧ True) ∧
 Af (Be (AJ e [(13, r1.1), (14, r2.1), (15, r3.1), (17, r4.1), (18, r5.1), (21, r6.1), (22, r7.1), (25, r8.1), (26, r9.1), (16, r10.1), (19, r11.1), (20, r12.1), (23, r13.1), (24, r14.1), (27, r15.1), (12, r16.1)]) r17.2) Q))))))) ∧
 (Af (al P 110 r12.2) fun r18 => (bd P 39 #[(0, r10.1), (1, r5.1)] r18.2 = some (r11.1, r18.2) ∧ ld P 104 r6.1 r18.2 = some (r7.1, r18.2) ∧ fa P 106 (e 9) 0 r18.2 = some (r6.1, r18.2) ∧ ld P 3 r4.1 r18.2 = some (r5.1, r18.2) ∧ fa P 102 (e 5) 0 r18.2 = some (r4.1, r18.2) ∧ ld P 106 (e 9) r18.2 = some (r3.1, r18.2) ∧ ld P 102 (e 5) r18.2 = some (r2.1, r18.2) ∧ True) ∧
 ((Af (Ar P #[104, 104] 104 #[r12.1, r7.1] r18.2) fun r19 => (bd P 39 #[(0, r10.1), (1, r5.1)] r19.2 = some (r11.1, r19.2) ∧ True ∧ True ∧ ld P 3 r4.1 r19.2 = some (r5.1, r19.2) ∧ fa P 102 (e 5) 0 r19.2 = some (r4.1, r19.2) ∧ True ∧ True ∧ True) ∧
 (Af (bd P 106 #[(0, r19.1)] r19.2) fun r20 => r20.2 = r19.2 ∧
 (Af (bd P 110 #[(0, r1.1), (1, r11.1), (2, r20.1), (3, r8.1), (4, r9.1)] r19.2) fun r21 => r21.2 = r19.2 ∧
 ((Af (st P 110 r18.1 r21.1 r19.2) fun r22 => (True ∧ True ∧ True ∧ True ∧ True ∧ True ∧ True ∧ True ∧ True ∧ True) ∧
 Af (Be (AJ e [(13, r1.1), (14, r2.1), (15, r3.1), (17, r4.1), (18, r5.1), (21, r6.1), (22, r7.1), (25, r8.1), (26, r9.1), (16, r10.1), (19, r11.1), (20, r12.1), (12, r18.1), (23, r19.1), (24, r20.1), (27, r21.1)]) r22.2) Q))))))))) ∧
 (Af (al P 110 r10.2) fun r23 => (bd P 39 #[(0, r10.1), (1, r5.1)] r23.2 = some (r11.1, r23.2) ∧ ld P 104 r6.1 r23.2 = some (r7.1, r23.2) ∧ fa P 106 (e 9) 0 r23.2 = some (r6.1, r23.2) ∧ ld P 3 r4.1 r23.2 = some (r5.1, r23.2) ∧ fa P 102 (e 5) 0 r23.2 = some (r4.1, r23.2) ∧ ld P 106 (e 9) r23.2 = some (r3.1, r23.2) ∧ ld P 102 (e 5) r23.2 = some (r2.1, r23.2) ∧ True) ∧
 ((Af (bs P 104 0 #[] r23.2) fun r24 => (bd P 39 #[(0, r10.1), (1, r5.1)] r24.2 = some (r11.1, r24.2) ∧ ld P 104 r6.1 r24.2 = some (r7.1, r24.2) ∧ fa P 106 (e 9) 0 r24.2 = some (r6.1, r24.2) ∧ ld P 3 r4.1 r24.2 = some (r5.1, r24.2) ∧ fa P 102 (e 5) 0 r24.2 = some (r4.1, r24.2) ∧ ld P 106 (e 9) r24.2 = some (r3.1, r24.2) ∧ ld P 102 (e 5) r24.2 = some (r2.1, r24.2) ∧ True) ∧
 ((Af (Ar P #[104, 104] 104 #[r24.1, r7.1] r24.2) fun r25 => (bd P 39 #[(0, r10.1), (1, r5.1)] r25.2 = some (r11.1, r25.2) ∧ True ∧ True ∧ ld P 3 r4.1 r25.2 = some (r5.1, r25.2) ∧ fa P 102 (e 5) 0 r25.2 = some (r4.1, r25.2) ∧ True ∧ True ∧ True) ∧
 (Af (bd P 106 #[(0, r25.1)] r25.2) fun r26 => r26.2 = r25.2 ∧
 (Af (bd P 110 #[(0, r1.1), (1, r11.1), (2, r26.1), (3, r8.1), (4, r9.1)] r25.2) fun r27 => r27.2 = r25.2 ∧
 ((Af (st P 110 r23.1 r27.1 r25.2) fun r28 => (True ∧ True ∧ True ∧ True ∧ True ∧ True ∧ True ∧ True ∧ True ∧ True) ∧
 Af (Be (AJ e [(13, r1.1), (14, r2.1), (15, r3.1), (17, r4.1), (18, r5.1), (21, r6.1), (22, r7.1), (25, r8.1), (26, r9.1), (16, r10.1), (19, r11.1), (12, r23.1), (20, r24.1), (23, r25.1), (24, r26.1), (27, r27.1)]) r28.2) Q)))))))))))) ∧
 (Af (bs P 104 0 #[] (dw w)) fun r29 => (ld P 104 r6.1 r29.2 = some (r7.1, r29.2) ∧ fa P 106 (e 9) 0 r29.2 = some (r6.1, r29.2) ∧ ld P 3 r4.1 r29.2 = some (r5.1, r29.2) ∧ fa P 102 (e 5) 0 r29.2 = some (r4.1, r29.2) ∧ ld P 106 (e 9) r29.2 = some (r3.1, r29.2) ∧ ld P 102 (e 5) r29.2 = some (r2.1, r29.2) ∧ True) ∧
 ((Af (EV P 144 #[r2.1, r3.1] r29.2) fun r30 => (ld P 104 r6.1 r30.2 = some (r7.1, r30.2) ∧ fa P 106 (e 9) 0 r30.2 = some (r6.1, r30.2) ∧ ld P 3 r4.1 r30.2 = some (r5.1, r30.2) ∧ fa P 102 (e 5) 0 r30.2 = some (r4.1, r30.2) ∧ True ∧ True ∧ True) ∧
 (Af (bd P 39 #[(0, r30.1), (1, r5.1)] r30.2) fun r31 => r31.2 = r30.2 ∧
 ((Af (Ar P #[104, 104] 104 #[r29.1, r7.1] r30.2) fun r32 => (bd P 39 #[(0, r30.1), (1, r5.1)] r32.2 = some (r31.1, r32.2) ∧ True ∧ True ∧ ld P 3 r4.1 r32.2 = some (r5.1, r32.2) ∧ fa P 102 (e 5) 0 r32.2 = some (r4.1, r32.2) ∧ True ∧ True ∧ True) ∧
 (Af (bd P 106 #[(0, r32.1)] r32.2) fun r33 => r33.2 = r32.2 ∧
 (Af (bd P 110 #[(0, r1.1), (1, r31.1), (2, r33.1), (3, r8.1), (4, r9.1)] r32.2) fun r34 => r34.2 = r32.2 ∧
 ((Af (al P 110 r32.2) fun r35 => (bd P 110 #[(0, r1.1), (1, r31.1), (2, r33.1), (3, r8.1), (4, r9.1)] r35.2 = some (r34.1, r35.2) ∧ bd P 106 #[(0, r32.1)] r35.2 = some (r33.1, r35.2) ∧ bd P 39 #[(0, r30.1), (1, r5.1)] r35.2 = some (r31.1, r35.2) ∧ ld P 104 r6.1 r35.2 = some (r7.1, r35.2) ∧ fa P 106 (e 9) 0 r35.2 = some (r6.1, r35.2) ∧ ld P 3 r4.1 r35.2 = some (r5.1, r35.2) ∧ fa P 102 (e 5) 0 r35.2 = some (r4.1, r35.2) ∧ ld P 106 (e 9) r35.2 = some (r3.1, r35.2) ∧ ld P 102 (e 5) r35.2 = some (r2.1, r35.2) ∧ True) ∧
 ((Af (st P 110 r35.1 r34.1 r35.2) fun r36 => (True ∧ True ∧ True ∧ True ∧ True ∧ True ∧ True ∧ True ∧ True ∧ True) ∧
 Af (Be (AJ e [(13, r1.1), (14, r2.1), (15, r3.1), (17, r4.1), (18, r5.1), (21, r6.1), (22, r7.1), (25, r8.1), (26, r9.1), (20, r29.1), (16, r30.1), (19, r31.1), (23, r32.1), (24, r33.1), (27, r34.1), (12, r35.1)]) r36.2) Q))))))) ∧
 (Af (al P 110 r30.2) fun r37 => (bd P 39 #[(0, r30.1), (1, r5.1)] r37.2 = some (r31.1, r37.2) ∧ ld P 104 r6.1 r37.2 = some (r7.1, r37.2) ∧ fa P 106 (e 9) 0 r37.2 = some (r6.1, r37.2) ∧ ld P 3 r4.1 r37.2 = some (r5.1, r37.2) ∧ fa P 102 (e 5) 0 r37.2 = some (r4.1, r37.2) ∧ ld P 106 (e 9) r37.2 = some (r3.1, r37.2) ∧ ld P 102 (e 5) r37.2 = some (r2.1, r37.2) ∧ True) ∧
 ((Af (Ar P #[104, 104] 104 #[r29.1, r7.1] r37.2) fun r38 => (bd P 39 #[(0, r30.1), (1, r5.1)] r38.2 = some (r31.1, r38.2) ∧ True ∧ True ∧ ld P 3 r4.1 r38.2 = some (r5.1, r38.2) ∧ fa P 102 (e 5) 0 r38.2 = some (r4.1, r38.2) ∧ True ∧ True ∧ True) ∧
 (Af (bd P 106 #[(0, r38.1)] r38.2) fun r39 => r39.2 = r38.2 ∧
 (Af (bd P 110 #[(0, r1.1), (1, r31.1), (2, r39.1), (3, r8.1), (4, r9.1)] r38.2) fun r40 => r40.2 = r38.2 ∧
 ((Af (st P 110 r37.1 r40.1 r38.2) fun r41 => (True ∧ True ∧ True ∧ True ∧ True ∧ True ∧ True ∧ True ∧ True ∧ True) ∧
 Af (Be (AJ e [(13, r1.1), (14, r2.1), (15, r3.1), (17, r4.1), (18, r5.1), (21, r6.1), (22, r7.1), (25, r8.1), (26, r9.1), (20, r29.1), (16, r30.1), (19, r31.1), (12, r37.1), (23, r38.1), (24, r39.1), (27, r40.1)]) r41.2) Q)))))))))) ∧
 (Af (al P 110 r29.2) fun r42 => (ld P 104 r6.1 r42.2 = some (r7.1, r42.2) ∧ fa P 106 (e 9) 0 r42.2 = some (r6.1, r42.2) ∧ ld P 3 r4.1 r42.2 = some (r5.1, r42.2) ∧ fa P 102 (e 5) 0 r42.2 = some (r4.1, r42.2) ∧ ld P 106 (e 9) r42.2 = some (r3.1, r42.2) ∧ ld P 102 (e 5) r42.2 = some (r2.1, r42.2) ∧ True) ∧
 ((Af (EV P 144 #[r2.1, r3.1] r42.2) fun r43 => (ld P 104 r6.1 r43.2 = some (r7.1, r43.2) ∧ fa P 106 (e 9) 0 r43.2 = some (r6.1, r43.2) ∧ ld P 3 r4.1 r43.2 = some (r5.1, r43.2) ∧ fa P 102 (e 5) 0 r43.2 = some (r4.1, r43.2) ∧ True ∧ True ∧ True) ∧
 (Af (bd P 39 #[(0, r43.1), (1, r5.1)] r43.2) fun r44 => r44.2 = r43.2 ∧
 ((Af (Ar P #[104, 104] 104 #[r29.1, r7.1] r43.2) fun r45 => (bd P 39 #[(0, r43.1), (1, r5.1)] r45.2 = some (r44.1, r45.2) ∧ True ∧ True ∧ ld P 3 r4.1 r45.2 = some (r5.1, r45.2) ∧ fa P 102 (e 5) 0 r45.2 = some (r4.1, r45.2) ∧ True ∧ True ∧ True) ∧
 (Af (bd P 106 #[(0, r45.1)] r45.2) fun r46 => r46.2 = r45.2 ∧
 (Af (bd P 110 #[(0, r1.1), (1, r44.1), (2, r46.1), (3, r8.1), (4, r9.1)] r45.2) fun r47 => r47.2 = r45.2 ∧
 ((Af (st P 110 r42.1 r47.1 r45.2) fun r48 => (True ∧ True ∧ True ∧ True ∧ True ∧ True ∧ True ∧ True ∧ True ∧ True) ∧
 Af (Be (AJ e [(13, r1.1), (14, r2.1), (15, r3.1), (17, r4.1), (18, r5.1), (21, r6.1), (22, r7.1), (25, r8.1), (26, r9.1), (20, r29.1), (12, r42.1), (16, r43.1), (19, r44.1), (23, r45.1), (24, r46.1), (27, r47.1)]) r48.2) Q)))))))))))) ∧
 (Af (al P 110 (dw w)) fun r49 => (ld P 104 r6.1 r49.2 = some (r7.1, r49.2) ∧ fa P 106 (e 9) 0 r49.2 = some (r6.1, r49.2) ∧ ld P 3 r4.1 r49.2 = some (r5.1, r49.2) ∧ fa P 102 (e 5) 0 r49.2 = some (r4.1, r49.2) ∧ ld P 106 (e 9) r49.2 = some (r3.1, r49.2) ∧ ld P 102 (e 5) r49.2 = some (r2.1, r49.2) ∧ True) ∧
 ((Af (EV P 144 #[r2.1, r3.1] r49.2) fun r50 => (ld P 104 r6.1 r50.2 = some (r7.1, r50.2) ∧ fa P 106 (e 9) 0 r50.2 = some (r6.1, r50.2) ∧ ld P 3 r4.1 r50.2 = some (r5.1, r50.2) ∧ fa P 102 (e 5) 0 r50.2 = some (r4.1, r50.2) ∧ True ∧ True ∧ True) ∧
 (Af (bd P 39 #[(0, r50.1), (1, r5.1)] r50.2) fun r51 => r51.2 = r50.2 ∧
 ((Af (bs P 104 0 #[] r50.2) fun r52 => (bd P 39 #[(0, r50.1), (1, r5.1)] r52.2 = some (r51.1, r52.2) ∧ ld P 104 r6.1 r52.2 = some (r7.1, r52.2) ∧ fa P 106 (e 9) 0 r52.2 = some (r6.1, r52.2) ∧ ld P 3 r4.1 r52.2 = some (r5.1, r52.2) ∧ fa P 102 (e 5) 0 r52.2 = some (r4.1, r52.2) ∧ ld P 106 (e 9) r52.2 = some (r3.1, r52.2) ∧ ld P 102 (e 5) r52.2 = some (r2.1, r52.2) ∧ True) ∧
 ((Af (Ar P #[104, 104] 104 #[r52.1, r7.1] r52.2) fun r53 => (bd P 39 #[(0, r50.1), (1, r5.1)] r53.2 = some (r51.1, r53.2) ∧ True ∧ True ∧ ld P 3 r4.1 r53.2 = some (r5.1, r53.2) ∧ fa P 102 (e 5) 0 r53.2 = some (r4.1, r53.2) ∧ True ∧ True ∧ True) ∧
 (Af (bd P 106 #[(0, r53.1)] r53.2) fun r54 => r54.2 = r53.2 ∧
 (Af (bd P 110 #[(0, r1.1), (1, r51.1), (2, r54.1), (3, r8.1), (4, r9.1)] r53.2) fun r55 => r55.2 = r53.2 ∧
 ((Af (st P 110 r49.1 r55.1 r53.2) fun r56 => (True ∧ True ∧ True ∧ True ∧ True ∧ True ∧ True ∧ True ∧ True ∧ True) ∧
 Af (Be (AJ e [(13, r1.1), (14, r2.1), (15, r3.1), (17, r4.1), (18, r5.1), (21, r6.1), (22, r7.1), (25, r8.1), (26, r9.1), (12, r49.1), (16, r50.1), (19, r51.1), (20, r52.1), (23, r53.1), (24, r54.1), (27, r55.1)]) r56.2) Q)))))))))) ∧
 (Af (bs P 104 0 #[] r49.2) fun r57 => (ld P 104 r6.1 r57.2 = some (r7.1, r57.2) ∧ fa P 106 (e 9) 0 r57.2 = some (r6.1, r57.2) ∧ ld P 3 r4.1 r57.2 = some (r5.1, r57.2) ∧ fa P 102 (e 5) 0 r57.2 = some (r4.1, r57.2) ∧ ld P 106 (e 9) r57.2 = some (r3.1, r57.2) ∧ ld P 102 (e 5) r57.2 = some (r2.1, r57.2) ∧ True) ∧
 ((Af (EV P 144 #[r2.1, r3.1] r57.2) fun r58 => (ld P 104 r6.1 r58.2 = some (r7.1, r58.2) ∧ fa P 106 (e 9) 0 r58.2 = some (r6.1, r58.2) ∧ ld P 3 r4.1 r58.2 = some (r5.1, r58.2) ∧ fa P 102 (e 5) 0 r58.2 = some (r4.1, r58.2) ∧ True ∧ True ∧ True) ∧
 (Af (bd P 39 #[(0, r58.1), (1, r5.1)] r58.2) fun r59 => r59.2 = r58.2 ∧
 ((Af (Ar P #[104, 104] 104 #[r57.1, r7.1] r58.2) fun r60 => (bd P 39 #[(0, r58.1), (1, r5.1)] r60.2 = some (r59.1, r60.2) ∧ True ∧ True ∧ ld P 3 r4.1 r60.2 = some (r5.1, r60.2) ∧ fa P 102 (e 5) 0 r60.2 = some (r4.1, r60.2) ∧ True ∧ True ∧ True) ∧
 (Af (bd P 106 #[(0, r60.1)] r60.2) fun r61 => r61.2 = r60.2 ∧
 (Af (bd P 110 #[(0, r1.1), (1, r59.1), (2, r61.1), (3, r8.1), (4, r9.1)] r60.2) fun r62 => r62.2 = r60.2 ∧
 ((Af (st P 110 r49.1 r62.1 r60.2) fun r63 => (True ∧ True ∧ True ∧ True ∧ True ∧ True ∧ True ∧ True ∧ True ∧ True) ∧
 Af (Be (AJ e [(13, r1.1), (14, r2.1), (15, r3.1), (17, r4.1), (18, r5.1), (21, r6.1), (22, r7.1), (25, r8.1), (26, r9.1), (12, r49.1), (20, r57.1), (16, r58.1), (19, r59.1), (23, r60.1), (24, r61.1), (27, r62.1)]) r63.2) Q))))))))))))))))))))))) : Af (Fp e w) Q := FH (id := 1) (ops := opsOf (cA (cB (Ae P 130)))) (by kernel_rfl) (by kernel_rfl) (Eq.mpr (by kernel_rfl) h)
theorem Jx (e : Env) (w : World) : Be e w = (do
 let r1 ← fa P 110 (e 12) 1 w
 let r2 ← fa P 39 r1.1 0 r1.2
 let r3 ← ld P 3 r2.1 r2.2
 let r4 ← fa P 102 (e 5) 1 r3.2
 let r5 ← st P 3 r4.1 r3.1 r4.2
 let r6 ← fa P 102 (e 5) 2 r5.2
 let r7 ← ld P 98 r6.1 r6.2
 let r8 ← ld P 110 (e 12) r7.2
 let r9 ← EV P 138 #[r7.1, (.int .i64 0), r8.1] r8.2
 let r10 ← fa P 102 (e 5) 2 r9.2
 let r11 ← st P 98 r10.1 r9.1 r10.2
 Ah (ld P 102 (e 5)) (dw r11.2) fun r13 => do
 Ah (fa P 110 (e 12) 1) (dw r11.2) fun r14 => do
 Ah (ld P 39 r14.1) (dw r11.2) fun r15 => do
 let r16 ← EV P 115 #[r13.1] (dw r11.2)
 AG (ld P 39 r14.1 r16.2 = some (r15.1, r16.2) ∧ fa P 110 (e 12) 1 r16.2 = some (r14.1, r16.2) ∧ True ∧ True) <| do
 let r17 ← st P 102 (e 10) r16.1 r16.2
 AG (ld P 39 r14.1 r17.2 = some (r15.1, r17.2) ∧ fa P 110 (e 12) 1 r17.2 = some (r14.1, r17.2) ∧ True ∧ True) <| do
 let r18 ← st P 39 (e 11) r15.1 r17.2
 AG qt4 <| do
 let v20 ← (ld P 102 (e 10) r18.2).bind fun r19 => AG (r19.2 = r18.2) (some r19.1)
 let v22 ← (ld P 39 (e 11) r18.2).bind fun r21 => AG (r21.2 = r18.2) (some r21.1)
 some (.tuple #[v20, v22], r18.2)) := by kernel_rfl
theorem LA (x0 x1 x2 x3 x4 : Value) (w : World) : Bv P (EV P) 130 #[x0, x1, x2, x3, x4] w = (do
 let r1 ← bx P 102 x0 w
 let r2 ← bx P 106 x4 r1.2
 let r3 ← al P 102 r2.2
 let r4 ← al P 39 r3.2
 Fp (AJ (AO #[x0, x1, x2, x3, x4]) [(5, r1.1), (9, r2.1), (10, r3.1), (11, r4.1)]) r4.2) := by kernel_rfl
theorem Ih (x0 x1 x2 x3 x4 : Value) (w : World) : Bv P (EV P) 131 #[x0, x1, x2, x3, x4] w = (do
 let r1 ← bx P 67 x0 w
 let r2 ← bx P 39 x4 r1.2
 let r3 ← al P 67 r2.2
 let r4 ← fa P 67 r1.1 3 r3.2
 let r5 ← ld P 23 r4.1 r4.2
 let r6 ← vl x1 r5.2
 let r7 ← vl x2 r6.2
 let r8 ← vl x3 r7.2
 let r9 ← ld P 39 r2.1 r8.2
 let r10 ← bd P 41 #[(0, r6.1), (1, r7.1), (2, r8.1), (3, r9.1)] r9.2
 let r11 ← bs P 23 1 #[(0, r10.1)] r10.2
 let r12 ← Ar P #[23, 23] 23 #[r5.1, r11.1] r11.2
 let r13 ← fa P 67 r1.1 3 r12.2
 let r14 ← st P 23 r13.1 r12.1 r13.2
 let r15 ← ld P 67 r1.1 r14.2
 let r16 ← st P 67 r3.1 r15.1 r15.2
 let v18 ← (ld P 67 r3.1 r16.2).bind fun r17 => AG (r17.2 = r16.2) (some r17.1)
 some (v18, r16.2)) := by kernel_rfl
noncomputable def CB (e : Env) (w : World) : Option (Value × World) := BA P (EV P) 132 26 (cB (cB (Ae P 132))) e w (Bc P (AB P 132))
theorem Jy (e : Env) (w : World) : CB e w = (do
 let r1 ← fa P 98 (e 3) 0 w
 let r2 ← ld P 96 r1.1 r1.2
 let r3 ← vl (e 1) r2.2
 let r4 ← ia P 96 r2.1 r3.1 r3.2
 let r5 ← fa P 159 r4.1 0 r4.2
 let r6 ← fa P 156 r5.1 0 r5.2
 let r7 ← ld P 99 r6.1 r6.2
 let r8 ← vl (e 2) r7.2
 let r9 ← ia P 99 r7.1 r8.1 r8.2
 let r10 ← ld P 110 r9.1 r9.2
 let r11 ← EV P 66 #[r10.1] r10.2
 let r12 ← st P 110 (e 6) r11.1 r11.2
 let v14 ← (ld P 110 (e 6) r12.2).bind fun r13 => AG (r13.2 = r12.2) (some r13.1)
 some (v14, r12.2)) := by kernel_rfl
theorem LB (x0 x1 x2 : Value) (w : World) : Bv P (EV P) 132 #[x0, x1, x2] w = (do
 let r1 ← bx P 98 x0 w
 let r2 ← al P 110 r1.2
 let r3 ← vl x1 r2.2
 let r4 ← bo P .eql 3 (.tmp 7) (.const (.int .i64 0)) r3.1 (.int .i64 0) r3.2
 let r5 ← vl r4.1 r4.2
 let r6 ← Ao r5.1 true (fa P 98 r1.1 0 r5.2) r5.2
 let r7 ← Ao r5.1 true (ld P 96 r6.1 r6.2) r6.2
 let r8 ← Ao r5.1 true (Au P #[96] 3 #[r7.1] r7.2) r7.2
 let r9 ← Ao r5.1 true (bo P .gtr 3 (.tmp 12) (.const (.int .i64 1)) r8.1 (.int .i64 1) r8.2) r8.2
 let r10 ← Ax r5.1 r9.1 (.bool false) r9.2
 AL r10.1 (do
 let r11 ← vl (.int .i64 1) r10.2
 CB (AJ (AO #[x0, x1, x2]) [(3, r1.1), (6, r2.1), (7, r3.1), (8, r4.1), (9, r5.1), (10, r6.1), (11, r7.1), (12, r8.1), (13, r9.1), (14, r10.1), (1, r11.1)]) r11.2) (do
 CB (AJ (AO #[x0, x1, x2]) [(3, r1.1), (6, r2.1), (7, r3.1), (8, r4.1), (9, r5.1), (10, r6.1), (11, r7.1), (12, r8.1), (13, r9.1), (14, r10.1)]) r10.2)) := by kernel_rfl
theorem MT (x0 x1 : Value) (w : World) : Bv P (EV P) 133 #[x0, x1] w = (do
 let r1 ← bx P 39 x0 w
 let r2 ← bx P 39 x1 r1.2
 let r3 ← vl (.bool false) r2.2
 let r4 ← fa P 39 r1.1 0 r3.2
 let r5 ← ld P 3 r4.1 r4.2
 let r6 ← fa P 39 r2.1 0 r5.2
 let r7 ← ld P 3 r6.1 r6.2
 let r8 ← bo P .lss 3 (.tmp 6) (.tmp 8) r5.1 r7.1 r7.2
 let r9 ← vl r8.1 r8.2
 let r10 ← Ao r9.1 false (fa P 39 r1.1 0 r9.2) r9.2
 let r11 ← Ao r9.1 false (ld P 3 r10.1 r10.2) r10.2
 let r12 ← Ao r9.1 false (fa P 39 r2.1 0 r11.2) r11.2
 let r13 ← Ao r9.1 false (ld P 3 r12.1 r12.2) r12.2
 let r14 ← Ao r9.1 false (bo P .eql 3 (.tmp 12) (.tmp 14) r11.1 r13.1 r13.2) r13.2
 let r15 ← Ao r9.1 false (vl r14.1 r14.2) r14.2
 let r16 ← Ao r15.1 true (fa P 39 r1.1 1 r15.2) r15.2
 let r17 ← Ao r15.1 true (ld P 3 r16.1 r16.2) r16.2
 let r18 ← Ao r15.1 true (fa P 39 r2.1 1 r17.2) r17.2
 let r19 ← Ao r15.1 true (ld P 3 r18.1 r18.2) r18.2
 let r20 ← Ao r15.1 true (bo P .lss 3 (.tmp 18) (.tmp 20) r17.1 r19.1 r19.2) r19.2
 let r21 ← Ao r9.1 false (Ax r15.1 r20.1 (.bool false) r20.2) r20.2
 let r22 ← Ax r9.1 (.bool true) r21.1 r21.2
 let r23 ← vl r22.1 r22.2
 some (r23.1, r23.2)) := by kernel_rfl
theorem MU (x0 x1 x2 : Value) (w : World) : Bv P (EV P) 134 #[x0, x1, x2] w = (do
 let r1 ← bx P 106 x0 w
 let r2 ← bx P 39 x2 r1.2
 let r3 ← al P 106 r2.2
 let r4 ← bs P 104 0 #[] r3.2
 let r5 ← fa P 106 r1.1 0 r4.2
 let r6 ← ld P 104 r5.1 r5.2
 let r7 ← Ar P #[104, 104] 104 #[r4.1, r6.1] r6.2
 let r8 ← bd P 106 #[(0, r7.1)] r7.2
 let r9 ← al P 106 r8.2
 let r10 ← st P 106 r9.1 r8.1 r9.2
 Ah (fa P 106 r9.1 0) (dw r10.2) fun r12 => do
 Ah (ld P 104 r12.1) (dw r10.2) fun r13 => do
 Ah (vl x1) (dw r10.2) fun r14 => do
 Ah (fa P 106 r9.1 0) (dw r10.2) fun r15 => do
 Ah (ld P 104 r15.1) (dw r10.2) fun r16 => do
 Ah (vl x1) (dw r10.2) fun r17 => do
 Ah (ia P 104 r16.1 r17.1) (dw r10.2) fun r18 => do
 Ah (ld P 39 r18.1) (dw r10.2) fun r19 => do
 Ah (ld P 39 r2.1) (dw r10.2) fun r20 => do
 let r21 ← EV P 145 #[r19.1, r20.1] (dw r10.2)
 AG (True ∧ True ∧ True ∧ True ∧ True ∧ ld P 104 r12.1 r21.2 = some (r13.1, r21.2) ∧ fa P 106 r9.1 0 r21.2 = some (r12.1, r21.2) ∧ True) <| do
 Ah (ia P 104 r13.1 r14.1) r21.2 fun r22 => do
 let r23 ← st P 39 r22.1 r21.1 r21.2
 AG qt9 <| do
 let r24 ← ld P 106 r9.1 r23.2
 let r25 ← st P 106 r3.1 r24.1 r24.2
 let v27 ← (ld P 106 r3.1 r25.2).bind fun r26 => AG (r26.2 = r25.2) (some r26.1)
 some (v27, r25.2)) := by kernel_rfl
noncomputable def Ep (e : Env) (w : World) : Option (Value × World) := BA P (EV P) 135 29 (.loop (cA (cA (cB (cA (cB (cB (Ae P 135)))))))) e w (Am 0 (AE P (EV P) 135 29 (cB (cB (cB (Ae P 135)))) (Bc P (AB P 135))))
theorem Gs (e : Env) (w : World) : Ep e w = (do
 let r1 ← vl (e 6) w
 let r2 ← bo P .lss 3 (.tmp 8) (.const (.int .i64 4)) r1.1 (.int .i64 4) r1.2
 AL r2.1 (do
 Ah (fa P 106 (e 5) 0) (dw r2.2) fun r4 => do
 Ah (ld P 104 r4.1) (dw r2.2) fun r5 => do
 Ah (fa P 106 (e 2) 0) (dw r2.2) fun r6 => do
 Ah (ld P 104 r6.1) (dw r2.2) fun r7 => do
 Ah (vl (e 6)) (dw r2.2) fun r8 => do
 Ah (ia P 104 r7.1 r8.1) (dw r2.2) fun r9 => do
 Ah (ld P 39 r9.1) (dw r2.2) fun r10 => do
 Ah (fa P 106 (e 3) 0) (dw r2.2) fun r11 => do
 Ah (ld P 104 r11.1) (dw r2.2) fun r12 => do
 Ah (vl (e 6)) (dw r2.2) fun r13 => do
 Ah (ia P 104 r12.1 r13.1) (dw r2.2) fun r14 => do
 Ah (ld P 39 r14.1) (dw r2.2) fun r15 => do
 let r16 ← EV P 145 #[r10.1, r15.1] (dw r2.2)
 AG (True ∧ True ∧ True ∧ True ∧ True ∧ True ∧ True ∧ True ∧ ld P 104 r4.1 r16.2 = some (r5.1, r16.2) ∧ fa P 106 (e 5) 0 r16.2 = some (r4.1, r16.2) ∧ True) <| do
 let r17 ← bs P 104 1 #[(0, r16.1)] r16.2
 AG (True ∧ True ∧ True ∧ True ∧ True ∧ True ∧ True ∧ True ∧ ld P 104 r4.1 r17.2 = some (r5.1, r17.2) ∧ fa P 106 (e 5) 0 r17.2 = some (r4.1, r17.2) ∧ True) <| do
 let r18 ← Ar P #[104, 104] 104 #[r5.1, r17.1] r17.2
 AG qt11 <| do
 Ah (fa P 106 (e 5) 0) r18.2 fun r19 => do
 let r20 ← st P 104 r19.1 r18.1 r18.2
 AG qt12 <| do
 let r21 ← vl (e 6) r20.2
 let r22 ← bo P .add 3 (.tmp 10) (.const (.int .i64 1)) r21.1 (.int .i64 1) r21.2
 let r23 ← vl r22.1 r22.2
 Ep (AJ e [(8, r1.1), (9, r2.1), (12, r4.1), (13, r5.1), (14, r6.1), (15, r7.1), (16, r8.1), (17, r9.1), (18, r10.1), (19, r11.1), (20, r12.1), (21, r13.1), (22, r14.1), (23, r15.1), (24, r16.1), (25, r17.1), (26, r18.1), (27, r19.1), (10, r21.1), (11, r22.1), (6, r23.1)]) r23.2) (do
 let r24 ← ld P 106 (e 5) r2.2
 let r25 ← st P 106 (e 4) r24.1 r24.2
 let v27 ← (ld P 106 (e 4) r25.2).bind fun r26 => AG (r26.2 = r25.2) (some r26.1)
 some (v27, r25.2))) := (AH P (EV P) 135 29 (cA (cA (cB (cA (cB (cB (Ae P 135))))))) e w (Am 0 (AE P (EV P) 135 29 (cB (cB (cB (Ae P 135)))) (Bc P (AB P 135))))).trans (by kernel_rfl)
theorem MV (x0 x1 : Value) (w : World) : Bv P (EV P) 135 #[x0, x1] w = (do
 let r1 ← bx P 106 x0 w
 let r2 ← bx P 106 x1 r1.2
 let r3 ← al P 106 r2.2
 let r4 ← bd P 106 #[] r3.2
 let r5 ← al P 106 r4.2
 let r6 ← st P 106 r5.1 r4.1 r5.2
 let r7 ← vl (.int .i64 0) r6.2
 Ep (AJ (AO #[x0, x1]) [(2, r1.1), (3, r2.1), (4, r3.1), (7, r4.1), (5, r5.1), (6, r7.1)]) r7.2) := by kernel_rfl
noncomputable def CZ (e : Env) (w : World) : Option (Value × World) := BA P (EV P) 136 21 (.loop (cA (cA (cB (cA (cB (Ae P 136))))))) e w (Am 0 (AE P (EV P) 136 21 (cB (cB (Ae P 136))) (Bc P (AB P 136))))
theorem Fy (e : Env) (w : World) : CZ e w = (do
 let r1 ← vl (e 5) w
 let r2 ← bo P .lss 3 (.tmp 6) (.const (.int .i64 4)) r1.1 (.int .i64 4) r1.2
 AL r2.1 (do
 Ah (fa P 106 (e 3) 0) (dw r2.2) fun r4 => do
 Ah (ld P 104 r4.1) (dw r2.2) fun r5 => do
 Ah (vl (e 5)) (dw r2.2) fun r6 => do
 Ah (ia P 104 r5.1 r6.1) (dw r2.2) fun r7 => do
 Ah (ld P 39 r7.1) (dw r2.2) fun r8 => do
 Ah (fa P 106 (e 2) 0) (dw r2.2) fun r9 => do
 Ah (ld P 104 r9.1) (dw r2.2) fun r10 => do
 Ah (vl (e 5)) (dw r2.2) fun r11 => do
 Ah (ia P 104 r10.1 r11.1) (dw r2.2) fun r12 => do
 Ah (ld P 39 r12.1) (dw r2.2) fun r13 => do
 let r14 ← EV P 133 #[r8.1, r13.1] (dw r2.2)
 AG qt9 <| do
 AL r14.1 (do
 let r15 ← vl (.bool false) r14.2
 some (r15.1, r15.2)) (do
 let r16 ← vl (e 5) r14.2
 let r17 ← bo P .add 3 (.tmp 8) (.const (.int .i64 1)) r16.1 (.int .i64 1) r16.2
 let r18 ← vl r17.1 r17.2
 CZ (AJ e [(6, r1.1), (7, r2.1), (10, r4.1), (11, r5.1), (12, r6.1), (13, r7.1), (14, r8.1), (15, r9.1), (16, r10.1), (17, r11.1), (18, r12.1), (19, r13.1), (20, r14.1), (8, r16.1), (9, r17.1), (5, r18.1)]) r18.2)) (do
 let r19 ← vl (.bool true) r2.2
 some (r19.1, r19.2))) := (AH P (EV P) 136 21 (cA (cA (cB (cA (cB (Ae P 136)))))) e w (Am 0 (AE P (EV P) 136 21 (cB (cB (Ae P 136))) (Bc P (AB P 136))))).trans (by kernel_rfl)
theorem KR (x0 x1 : Value) (w : World) : Bv P (EV P) 136 #[x0, x1] w = (do
 let r1 ← bx P 106 x0 w
 let r2 ← bx P 106 x1 r1.2
 let r3 ← vl (.bool false) r2.2
 let r4 ← vl (.int .i64 0) r3.2
 CZ (AJ (AO #[x0, x1]) [(2, r1.1), (3, r2.1), (4, r3.1), (5, r4.1)]) r4.2) := by kernel_rfl
noncomputable def Er (e : Env) (w : World) : Option (Value × World) := BA P (EV P) 137 25 (.loop (cA (cA (cB (cA (cB (cB (Ae P 137)))))))) e w (Am 0 (AE P (EV P) 137 25 (cB (cB (cB (Ae P 137)))) (Bc P (AB P 137))))
theorem Gt (e : Env) (w : World) : Er e w = (do
 let r1 ← vl (e 4) w
 let r2 ← fa P 156 (e 1) 0 r1.2
 let r3 ← ld P 99 r2.1 r2.2
 let r4 ← Au P #[99] 3 #[r3.1] r3.2
 let r5 ← bo P .lss 3 (.tmp 6) (.tmp 9) r1.1 r4.1 r4.2
 AL r5.1 (do
 Ah (fa P 106 (e 3) 0) (dw r5.2) fun r7 => do
 Ah (ld P 104 r7.1) (dw r5.2) fun r8 => do
 Ah (fa P 156 (e 1) 0) (dw r5.2) fun r9 => do
 Ah (ld P 99 r9.1) (dw r5.2) fun r10 => do
 Ah (vl (e 4)) (dw r5.2) fun r11 => do
 Ah (ia P 99 r10.1 r11.1) (dw r5.2) fun r12 => do
 Ah (fa P 110 r12.1 1) (dw r5.2) fun r13 => do
 Ah (ld P 39 r13.1) (dw r5.2) fun r14 => do
 let r15 ← bs P 104 1 #[(0, r14.1)] (dw r5.2)
 AG (True ∧ True ∧ True ∧ True ∧ True ∧ ld P 104 r7.1 r15.2 = some (r8.1, r15.2) ∧ fa P 106 (e 3) 0 r15.2 = some (r7.1, r15.2) ∧ True) <| do
 let r16 ← Ar P #[104, 104] 104 #[r8.1, r15.1] r15.2
 AG qt8 <| do
 Ah (fa P 106 (e 3) 0) r16.2 fun r17 => do
 let r18 ← st P 104 r17.1 r16.1 r16.2
 AG qt9 <| do
 let r19 ← vl (e 4) r18.2
 let r20 ← bo P .add 3 (.tmp 11) (.const (.int .i64 1)) r19.1 (.int .i64 1) r19.2
 let r21 ← vl r20.1 r20.2
 Er (AJ e [(6, r1.1), (7, r2.1), (8, r3.1), (9, r4.1), (10, r5.1), (13, r7.1), (14, r8.1), (15, r9.1), (16, r10.1), (17, r11.1), (18, r12.1), (19, r13.1), (20, r14.1), (21, r15.1), (22, r16.1), (23, r17.1), (11, r19.1), (12, r20.1), (4, r21.1)]) r21.2) (do
 let r22 ← ld P 106 (e 3) r5.2
 let r23 ← st P 106 (e 2) r22.1 r22.2
 let v25 ← (ld P 106 (e 2) r23.2).bind fun r24 => AG (r24.2 = r23.2) (some r24.1)
 some (v25, r23.2))) := (AH P (EV P) 137 25 (cA (cA (cB (cA (cB (cB (Ae P 137))))))) e w (Am 0 (AE P (EV P) 137 25 (cB (cB (cB (Ae P 137)))) (Bc P (AB P 137))))).trans (by kernel_rfl)
theorem MX (x0 : Value) (w : World) : Bv P (EV P) 137 #[x0] w = (do
 let r1 ← bx P 156 x0 w
 let r2 ← al P 106 r1.2
 let r3 ← bd P 106 #[] r2.2
 let r4 ← al P 106 r3.2
 let r5 ← st P 106 r4.1 r3.1 r4.2
 let r6 ← vl (.int .i64 0) r5.2
 Er (AJ (AO #[x0]) [(1, r1.1), (2, r2.1), (5, r3.1), (3, r4.1), (4, r6.1)]) r6.2) := by kernel_rfl
noncomputable def GW (e : Env) (w : World) : Option (Value × World) := BA P (EV P) 138 59 (cB (cB (cB (cB (Ae P 138))))) e w (Bc P (AB P 138))
theorem Hj (e : Env) (w : World) : GW e w = (do
 let r1 ← ld P 98 (e 3) w
 let r2 ← st P 98 (e 6) r1.1 r1.2
 let v4 ← (ld P 98 (e 6) r2.2).bind fun r3 => AG (r3.2 = r2.2) (some r3.1)
 some (v4, r2.2)) := by kernel_rfl
theorem On (x0 x1 x2 : Value) (w : World) : Bv P (EV P) 138 #[x0, x1, x2] w = (do
 let r1 ← bx P 98 x0 w
 let r2 ← bx P 110 x2 r1.2
 let r3 ← al P 98 r2.2
 Ah (fa P 98 r1.1 0) (dw r3.2) fun r5 => do
 Ah (ld P 96 r5.1) (dw r3.2) fun r6 => do
 Ah (vl x1) (dw r3.2) fun r7 => do
 Ah (ia P 96 r6.1 r7.1) (dw r3.2) fun r8 => do
 Ah (fa P 159 r8.1 0) (dw r3.2) fun r9 => do
 Ah (fa P 156 r9.1 0) (dw r3.2) fun r10 => do
 Ah (ld P 99 r10.1) (dw r3.2) fun r11 => do
 Ah (fa P 110 r2.1 0) (dw r3.2) fun r12 => do
 Ah (ld P 3 r12.1) (dw r3.2) fun r13 => do
 Ah (ia P 99 r11.1 r13.1) (dw r3.2) fun r14 => do
 Ah (fa P 110 r14.1 1) (dw r3.2) fun r15 => do
 Ah (ld P 39 r15.1) (dw r3.2) fun r16 => do
 Ah (fa P 110 r2.1 1) (dw r3.2) fun r17 => do
 Ah (ld P 39 r17.1) (dw r3.2) fun r18 => do
 let r19 ← EV P 133 #[r16.1, r18.1] (dw r3.2)
 AG qt14 <| do
 Ah (uo P .not r19.1) r19.2 fun r20 => do
 AL r20.1 (do
 let r21 ← ld P 98 r1.1 r19.2
 let r22 ← st P 98 r3.1 r21.1 r21.2
 let v24 ← (ld P 98 r3.1 r22.2).bind fun r23 => AG (r23.2 = r22.2) (some r23.1)
 some (v24, r22.2)) (do
 Ah (fa P 98 r1.1 0) (dw r19.2) fun r26 => do
 Ah (ld P 96 r26.1) (dw r19.2) fun r27 => do
 Ah (vl x1) (dw r19.2) fun r28 => do
 Ah (fa P 98 r1.1 0) (dw r19.2) fun r29 => do
 Ah (ld P 96 r29.1) (dw r19.2) fun r30 => do
 Ah (vl x1) (dw r19.2) fun r31 => do
 Ah (ia P 96 r30.1 r31.1) (dw r19.2) fun r32 => do
 Ah (fa P 159 r32.1 0) (dw r19.2) fun r33 => do
 Ah (ld P 156 r33.1) (dw r19.2) fun r34 => do
 Ah (ld P 110 r2.1) (dw r19.2) fun r35 => do
 let r36 ← EV P 146 #[r34.1, r35.1] (dw r19.2)
 AG (True ∧ True ∧ True ∧ True ∧ True ∧ True ∧ ld P 96 r26.1 r36.2 = some (r27.1, r36.2) ∧ fa P 98 r1.1 0 r36.2 = some (r26.1, r36.2) ∧ True) <| do
 Ah (ia P 96 r27.1 r28.1) r36.2 fun r37 => do
 Ah (fa P 159 r37.1 0) r36.2 fun r38 => do
 let r39 ← st P 156 r38.1 r36.1 r36.2
 AG qt11 <| do
 let r40 ← vl x1 r39.2
 let r41 ← fa P 98 r1.1 0 r40.2
 let r42 ← ld P 96 r41.1 r41.2
 let r43 ← Au P #[96] 3 #[r42.1] r42.2
 let r44 ← bo P .sub 3 (.tmp 40) (.const (.int .i64 1)) r43.1 (.int .i64 1) r43.2
 let r45 ← bo P .lss 3 (.tmp 37) (.tmp 41) r40.1 r44.1 r44.2
 AL r45.1 (do
 Ah (fa P 98 r1.1 0) (dw r45.2) fun r47 => do
 Ah (ld P 96 r47.1) (dw r45.2) fun r48 => do
 Ah (vl x1) (dw r45.2) fun r49 => do
 Ah (fa P 98 r1.1 0) (dw r45.2) fun r50 => do
 Ah (ld P 96 r50.1) (dw r45.2) fun r51 => do
 Ah (vl x1) (dw r45.2) fun r52 => do
 Ah (ia P 96 r51.1 r52.1) (dw r45.2) fun r53 => do
 Ah (fa P 159 r53.1 1) (dw r45.2) fun r54 => do
 Ah (ld P 99 r54.1) (dw r45.2) fun r55 => do
 Ah (ld P 110 r2.1) (dw r45.2) fun r56 => do
 let r57 ← EV P 66 #[r56.1] (dw r45.2)
 AG (True ∧ ld P 99 r54.1 r57.2 = some (r55.1, r57.2) ∧ fa P 159 r53.1 1 r57.2 = some (r54.1, r57.2) ∧ ia P 96 r51.1 r52.1 r57.2 = some (r53.1, r57.2) ∧ ld P 96 r50.1 r57.2 = some (r51.1, r57.2) ∧ fa P 98 r1.1 0 r57.2 = some (r50.1, r57.2) ∧ ld P 96 r47.1 r57.2 = some (r48.1, r57.2) ∧ fa P 98 r1.1 0 r57.2 = some (r47.1, r57.2) ∧ True) <| do
 let r58 ← bs P 99 1 #[(0, r57.1)] r57.2
 AG (True ∧ ld P 99 r54.1 r58.2 = some (r55.1, r58.2) ∧ fa P 159 r53.1 1 r58.2 = some (r54.1, r58.2) ∧ ia P 96 r51.1 r52.1 r58.2 = some (r53.1, r58.2) ∧ ld P 96 r50.1 r58.2 = some (r51.1, r58.2) ∧ fa P 98 r1.1 0 r58.2 = some (r50.1, r58.2) ∧ ld P 96 r47.1 r58.2 = some (r48.1, r58.2) ∧ fa P 98 r1.1 0 r58.2 = some (r47.1, r58.2) ∧ True) <| do
 let r59 ← Ar P #[99, 99] 99 #[r55.1, r58.1] r58.2
 AG (True ∧ True ∧ True ∧ True ∧ True ∧ True ∧ ld P 96 r47.1 r59.2 = some (r48.1, r59.2) ∧ fa P 98 r1.1 0 r59.2 = some (r47.1, r59.2) ∧ True) <| do
 Ah (ia P 96 r48.1 r49.1) r59.2 fun r60 => do
 Ah (fa P 159 r60.1 1) r59.2 fun r61 => do
 let r62 ← st P 99 r61.1 r59.1 r59.2
 AG qt11 <| do
 GW (AJ (AO #[x0, x1, x2]) [(3, r1.1), (5, r2.1), (6, r3.1), (7, r5.1), (8, r6.1), (9, r7.1), (10, r8.1), (11, r9.1), (12, r10.1), (13, r11.1), (14, r12.1), (15, r13.1), (16, r14.1), (17, r15.1), (18, r16.1), (19, r17.1), (20, r18.1), (21, r19.1), (22, r20.1), (24, r26.1), (25, r27.1), (26, r28.1), (27, r29.1), (28, r30.1), (29, r31.1), (30, r32.1), (31, r33.1), (32, r34.1), (33, r35.1), (34, r36.1), (35, r37.1), (36, r38.1), (37, r40.1), (38, r41.1), (39, r42.1), (40, r43.1), (41, r44.1), (42, r45.1), (43, r47.1), (44, r48.1), (45, r49.1), (46, r50.1), (47, r51.1), (48, r52.1), (49, r53.1), (50, r54.1), (51, r55.1), (52, r56.1), (53, r57.1), (54, r58.1), (55, r59.1), (56, r60.1), (57, r61.1)]) r62.2) (do
 GW (AJ (AO #[x0, x1, x2]) [(3, r1.1), (5, r2.1), (6, r3.1), (7, r5.1), (8, r6.1), (9, r7.1), (10, r8.1), (11, r9.1), (12, r10.1), (13, r11.1), (14, r12.1), (15, r13.1), (16, r14.1), (17, r15.1), (18, r16.1), (19, r17.1), (20, r18.1), (21, r19.1), (22, r20.1), (24, r26.1), (25, r27.1), (26, r28.1), (27, r29.1), (28, r30.1), (29, r31.1), (30, r32.1), (31, r33.1), (32, r34.1), (33, r35.1), (34, r36.1), (35, r37.1), (36, r38.1), (37, r40.1), (38, r41.1), (39, r42.1), (40, r43.1), (41, r44.1), (42, r45.1)]) r45.2))) := by kernel_rfl
noncomputable def C4 (e : Env) (w : World) : Option (Value × World) := BA P (EV P) 139 19 (.loop (cA (cA (cB (cA (cB (Ae P 139))))))) e w (Am 0 (AE P (EV P) 139 19 (cB (cB (Ae P 139))) (Bc P (AB P 139))))
theorem Fz (e : Env) (w : World) : C4 e w = (do
 let r1 ← vl (e 5) w
 let r2 ← vl (e 0) r1.2
 let r3 ← Au P #[99] 3 #[r2.1] r2.2
 let r4 ← bo P .lss 3 (.tmp 6) (.tmp 8) r1.1 r3.1 r3.2
 AL r4.1 (do
 Ah (vl (e 0)) (dw r4.2) fun r6 => do
 Ah (vl (e 5)) (dw r4.2) fun r7 => do
 Ah (ia P 99 r6.1 r7.1) (dw r4.2) fun r8 => do
 Ah (fa P 110 r8.1 1) (dw r4.2) fun r9 => do
 Ah (ld P 39 r9.1) (dw r4.2) fun r10 => do
 Ah (ld P 39 (e 3)) (dw r4.2) fun r11 => do
 Ah (bo P .eql 39 (.tmp 16) (.tmp 17) r10.1 r11.1) (dw r4.2) fun r12 => do
 AL r12.1 (do
 let r13 ← vl (.bool true) (dw r4.2)
 some (r13.1, r13.2)) (do
 let r14 ← vl (e 5) (dw r4.2)
 let r15 ← bo P .add 3 (.tmp 10) (.const (.int .i64 1)) r14.1 (.int .i64 1) r14.2
 let r16 ← vl r15.1 r15.2
 C4 (AJ e [(6, r1.1), (7, r2.1), (8, r3.1), (9, r4.1), (12, r6.1), (13, r7.1), (14, r8.1), (15, r9.1), (16, r10.1), (17, r11.1), (18, r12.1), (10, r14.1), (11, r15.1), (5, r16.1)]) r16.2)) (do
 let r17 ← vl (.bool false) r4.2
 some (r17.1, r17.2))) := (AH P (EV P) 139 19 (cA (cA (cB (cA (cB (Ae P 139)))))) e w (Am 0 (AE P (EV P) 139 19 (cB (cB (Ae P 139))) (Bc P (AB P 139))))).trans (by kernel_rfl)
theorem KS (x0 x1 : Value) (w : World) : Bv P (EV P) 139 #[x0, x1] w = (do
 let r1 ← bx P 39 x1 w
 let r2 ← vl (.bool false) r1.2
 let r3 ← vl (.int .i64 0) r2.2
 C4 (AJ (AO #[x0, x1]) [(3, r1.1), (4, r2.1), (5, r3.1)]) r3.2) := by kernel_rfl
noncomputable def Es (e : Env) (w : World) : Option (Value × World) := BA P (EV P) 140 68 (.loop (cA (cA (cB (cA (cB (cB (Ae P 140)))))))) e w (Am 0 (AE P (EV P) 140 68 (cB (cB (cB (Ae P 140)))) (Bc P (AB P 140))))
noncomputable def CR (e : Env) (w : World) : Option (Value × World) := BA P (EV P) 140 68 (cB (cB (cA (cA (cB (cA (cB (cB (Ae P 140))))))))) e w (DM P (EV P) 140 68 (cA (cA (cB (cA (cB (cB (Ae P 140))))))) (Am 0 (AE P (EV P) 140 68 (cB (cB (cB (Ae P 140)))) (Bc P (AB P 140)))))
noncomputable def Et (e : Env) (w : World) : Option (Value × World) := BA P (EV P) 140 68 (.loop (cA (cA (cA (cB (cB (cA (cA (cB (cA (cA (cB (cA (cB (cB (Ae P 140)))))))))))))))) e w (Am 2 (AE P (EV P) 140 68 (cB (cB (cB (cA (cA (cB (cA (cA (cB (cA (cB (cB (Ae P 140))))))))))))) (Am 1 (AE P (EV P) 140 68 (cB (cB (cA (cA (cB (cA (cB (cB (Ae P 140))))))))) (DM P (EV P) 140 68 (cA (cA (cB (cA (cB (cB (Ae P 140))))))) (Am 0 (AE P (EV P) 140 68 (cB (cB (cB (Ae P 140)))) (Bc P (AB P 140)))))))))
theorem Gu (e : Env) (w : World) : Es e w = (do
 let r1 ← vl (e 6) w
 let r2 ← bo P .lss 3 (.tmp 10) (.const (.int .i64 4)) r1.1 (.int .i64 4) r1.2
 AL r2.1 (do
 Ah (fa P 156 (e 3) 0) (dw r2.2) fun r4 => do
 Ah (ld P 99 r4.1) (dw r2.2) fun r5 => do
 Ah (vl (e 6)) (dw r2.2) fun r6 => do
 Ah (ia P 99 r5.1 r6.1) (dw r2.2) fun r7 => do
 Ah (fa P 110 r7.1 1) (dw r2.2) fun r8 => do
 Ah (ld P 39 r8.1) (dw r2.2) fun r9 => do
 Ah (fa P 156 (e 2) 0) (dw r2.2) fun r10 => do
 Ah (ld P 99 r10.1) (dw r2.2) fun r11 => do
 Ah (vl (e 6)) (dw r2.2) fun r12 => do
 Ah (ia P 99 r11.1 r12.1) (dw r2.2) fun r13 => do
 Ah (fa P 110 r13.1 1) (dw r2.2) fun r14 => do
 Ah (ld P 39 r14.1) (dw r2.2) fun r15 => do
 let r16 ← EV P 133 #[r9.1, r15.1] (dw r2.2)
 AG qt11 <| do
 Ah (uo P .not r16.1) r16.2 fun r17 => do
 AL r17.1 (do
 CR (AJ e [(10, r1.1), (11, r2.1), (14, r4.1), (15, r5.1), (16, r6.1), (17, r7.1), (18, r8.1), (19, r9.1), (20, r10.1), (21, r11.1), (22, r12.1), (23, r13.1), (24, r14.1), (25, r15.1), (26, r16.1), (27, r17.1)]) r16.2) (do
 let r18 ← vl (.int .i64 0) r16.2
 Et (AJ e [(10, r1.1), (11, r2.1), (14, r4.1), (15, r5.1), (16, r6.1), (17, r7.1), (18, r8.1), (19, r9.1), (20, r10.1), (21, r11.1), (22, r12.1), (23, r13.1), (24, r14.1), (25, r15.1), (26, r16.1), (27, r17.1), (7, r18.1)]) r18.2)) (do
 let r19 ← vl (e 5) r2.2
 let r20 ← vl r19.1 r19.2
 some (r20.1, r20.2))) := (AH P (EV P) 140 68 (cA (cA (cB (cA (cB (cB (Ae P 140))))))) e w (Am 0 (AE P (EV P) 140 68 (cB (cB (cB (Ae P 140)))) (Bc P (AB P 140))))).trans (by kernel_rfl)
theorem J3 (e : Env) (w : World) : CR e w = (do
 let r1 ← vl (e 6) w
 let r2 ← bo P .add 3 (.tmp 12) (.const (.int .i64 1)) r1.1 (.int .i64 1) r1.2
 let r3 ← vl r2.1 r2.2
 Es (AJ e [(12, r1.1), (13, r2.1), (6, r3.1)]) r3.2) := by kernel_rfl
theorem Gv (e : Env) (w : World) : Et e w = (do
 Ah (vl (e 7)) (dw w) fun r2 => do
 Ah (vl (e 5)) (dw w) fun r3 => do
 Ah (Au P #[99] 3 #[r3.1]) (dw w) fun r4 => do
 Ah (bo P .lss 3 (.tmp 28) (.tmp 30) r2.1 r4.1) (dw w) fun r5 => do
 Ah (vl r5.1) (dw w) fun r6 => do
 Ah (Ao r6.1 true (vl (e 5) (dw w))) (dw w) fun r7 => do
 Ah (Ao r6.1 true (vl (e 7) (dw w))) (dw w) fun r8 => do
 Ah (Ao r6.1 true (ia P 99 r7.1 r8.1 (dw w))) (dw w) fun r9 => do
 Ah (Ao r6.1 true (fa P 110 r9.1 1 (dw w))) (dw w) fun r10 => do
 Ah (Ao r6.1 true (ld P 39 r10.1 (dw w))) (dw w) fun r11 => do
 Ah (Ao r6.1 true (fa P 156 (e 2) 0 (dw w))) (dw w) fun r12 => do
 Ah (Ao r6.1 true (ld P 99 r12.1 (dw w))) (dw w) fun r13 => do
 Ah (Ao r6.1 true (vl (e 6) (dw w))) (dw w) fun r14 => do
 Ah (Ao r6.1 true (ia P 99 r13.1 r14.1 (dw w))) (dw w) fun r15 => do
 Ah (Ao r6.1 true (fa P 110 r15.1 1 (dw w))) (dw w) fun r16 => do
 Ah (Ao r6.1 true (ld P 39 r16.1 (dw w))) (dw w) fun r17 => do
 let r18 ← Ao r6.1 true (EV P 133 #[r11.1, r17.1] (dw w)) (dw w)
 AG qt11 <| do
 Ah (Ax r6.1 r18.1 (.bool false)) r18.2 fun r19 => do
 AL r19.1 (do
 let r20 ← vl (e 7) r18.2
 let r21 ← bo P .add 3 (.tmp 46) (.const (.int .i64 1)) r20.1 (.int .i64 1) r20.2
 let r22 ← vl r21.1 r21.2
 Et (AJ e [(28, r2.1), (29, r3.1), (30, r4.1), (31, r5.1), (32, r6.1), (33, r7.1), (34, r8.1), (35, r9.1), (36, r10.1), (37, r11.1), (38, r12.1), (39, r13.1), (40, r14.1), (41, r15.1), (42, r16.1), (43, r17.1), (44, r18.1), (45, r19.1), (46, r20.1), (47, r21.1), (7, r22.1)]) r22.2) (do
 let r23 ← bs P 99 0 #[] r18.2
 let r24 ← vl (e 5) r23.2
 let r25 ← vl (e 7) r24.2
 let r26 ← sl P 99 r24.1 none (some r25.1) none r25.2
 let r27 ← Ar P #[99, 99] 99 #[r23.1, r26.1] r26.2
 let r28 ← vl r27.1 r27.2
 let r29 ← vl r28.1 r28.2
 let r30 ← fa P 156 (e 2) 0 r29.2
 let r31 ← ld P 99 r30.1 r30.2
 let r32 ← vl (e 6) r31.2
 let r33 ← ia P 99 r31.1 r32.1 r32.2
 let r34 ← ld P 110 r33.1 r33.2
 let r35 ← EV P 66 #[r34.1] r34.2
 let r36 ← bs P 99 1 #[(0, r35.1)] r35.2
 let r37 ← Ar P #[99, 99] 99 #[r29.1, r36.1] r36.2
 let r38 ← vl r37.1 r37.2
 let r39 ← vl r38.1 r38.2
 let r40 ← vl (e 5) r39.2
 let r41 ← vl (e 7) r40.2
 let r42 ← sl P 99 r40.1 (some r41.1) none none r41.2
 let r43 ← Ar P #[99, 99] 99 #[r39.1, r42.1] r42.2
 let r44 ← vl r43.1 r43.2
 CR (AJ e [(28, r2.1), (29, r3.1), (30, r4.1), (31, r5.1), (32, r6.1), (33, r7.1), (34, r8.1), (35, r9.1), (36, r10.1), (37, r11.1), (38, r12.1), (39, r13.1), (40, r14.1), (41, r15.1), (42, r16.1), (43, r17.1), (44, r18.1), (45, r19.1), (48, r23.1), (49, r24.1), (50, r25.1), (51, r26.1), (52, r27.1), (8, r28.1), (53, r29.1), (54, r30.1), (55, r31.1), (56, r32.1), (57, r33.1), (58, r34.1), (59, r35.1), (60, r36.1), (61, r37.1), (8, r38.1), (62, r39.1), (63, r40.1), (64, r41.1), (65, r42.1), (66, r43.1), (5, r44.1)]) r44.2)) := (AH P (EV P) 140 68 (cA (cA (cA (cB (cB (cA (cA (cB (cA (cA (cB (cA (cB (cB (Ae P 140))))))))))))))) e w (Am 2 (AE P (EV P) 140 68 (cB (cB (cB (cA (cA (cB (cA (cA (cB (cA (cB (cB (Ae P 140))))))))))))) (Am 1 (AE P (EV P) 140 68 (cB (cB (cA (cA (cB (cA (cB (cB (Ae P 140))))))))) (DM P (EV P) 140 68 (cA (cA (cB (cA (cB (cB (Ae P 140))))))) (Am 0 (AE P (EV P) 140 68 (cB (cB (cB (Ae P 140)))) (Bc P (AB P 140)))))))))).trans (by kernel_rfl)
theorem MY (x0 x1 : Value) (w : World) : Bv P (EV P) 140 #[x0, x1] w = (do
 let r1 ← bx P 156 x0 w
 let r2 ← bx P 156 x1 r1.2
 let r3 ← vl (Go.Value.slice none 0 0) r2.2
 let r4 ← bs P 99 0 #[] r3.2
 let r5 ← vl r4.1 r4.2
 let r6 ← vl (.int .i64 0) r5.2
 Es (AJ (AO #[x0, x1]) [(2, r1.1), (3, r2.1), (4, r3.1), (9, r4.1), (5, r5.1), (6, r6.1)]) r6.2) := by kernel_rfl
noncomputable def Dw (e : Env) (w : World) : Option (Value × World) := BA P (EV P) 141 43 (.loop (cA (cA (cB (cA (cB (cB (Ae P 141)))))))) e w (Am 0 (AE P (EV P) 141 43 (cB (cB (cB (Ae P 141)))) (Bc P (AB P 141))))
theorem FQ (e : Env) (w : World) : Dw e w = (do
 let r1 ← vl (e 6) w
 let r2 ← fa P 102 (e 2) 4 r1.2
 let r3 ← ld P 100 r2.1 r2.2
 let r4 ← vl (e 1) r3.2
 let r5 ← ia P 100 r3.1 r4.1 r4.2
 let r6 ← ld P 99 r5.1 r5.2
 let r7 ← Au P #[99] 3 #[r6.1] r6.2
 let r8 ← bo P .lss 3 (.tmp 14) (.tmp 20) r1.1 r7.1 r7.2
 AL r8.1 (do
 let r9 ← fa P 102 (e 2) 4 r8.2
 let r10 ← ld P 100 r9.1 r9.2
 let r11 ← vl (e 1) r10.2
 let r12 ← ia P 100 r10.1 r11.1 r11.2
 let r13 ← ld P 99 r12.1 r12.2
 let r14 ← vl (e 6) r13.2
 let r15 ← ia P 99 r13.1 r14.1 r14.2
 let r16 ← ld P 110 r15.1 r15.2
 let r17 ← al P 110 r16.2
 let r18 ← st P 110 r17.1 r16.1 r17.2
 Ah (fa P 156 (e 5) 0) (dw r18.2) fun r20 => do
 Ah (ld P 99 r20.1) (dw r18.2) fun r21 => do
 Ah (fa P 110 r17.1 0) (dw r18.2) fun r22 => do
 Ah (ld P 3 r22.1) (dw r18.2) fun r23 => do
 Ah (ia P 99 r21.1 r23.1) (dw r18.2) fun r24 => do
 Ah (fa P 110 r24.1 1) (dw r18.2) fun r25 => do
 Ah (ld P 39 r25.1) (dw r18.2) fun r26 => do
 Ah (fa P 110 r17.1 1) (dw r18.2) fun r27 => do
 Ah (ld P 39 r27.1) (dw r18.2) fun r28 => do
 let r29 ← EV P 133 #[r26.1, r28.1] (dw r18.2)
 AG qt10 <| do
 AL r29.1 (do
 let r30 ← vl (e 6) r29.2
 let r31 ← vl r30.1 r30.2
 some (r31.1, r31.2)) (do
 let r32 ← vl (e 6) r29.2
 let r33 ← bo P .add 3 (.tmp 22) (.const (.int .i64 1)) r32.1 (.int .i64 1) r32.2
 let r34 ← vl r33.1 r33.2
 Dw (AJ e [(14, r1.1), (15, r2.1), (16, r3.1), (17, r4.1), (18, r5.1), (19, r6.1), (20, r7.1), (21, r8.1), (24, r9.1), (25, r10.1), (26, r11.1), (27, r12.1), (28, r13.1), (29, r14.1), (30, r15.1), (31, r16.1), (7, r17.1), (32, r20.1), (33, r21.1), (34, r22.1), (35, r23.1), (36, r24.1), (37, r25.1), (38, r26.1), (39, r27.1), (40, r28.1), (41, r29.1), (22, r32.1), (23, r33.1), (6, r34.1)]) r34.2)) (do
 let r35 ← vl (.int .i64 (-1)) r8.2
 some (r35.1, r35.2))) := (AH P (EV P) 141 43 (cA (cA (cB (cA (cB (cB (Ae P 141))))))) e w (Am 0 (AE P (EV P) 141 43 (cB (cB (cB (Ae P 141)))) (Bc P (AB P 141))))).trans (by kernel_rfl)
theorem LC (x0 x1 : Value) (w : World) : Bv P (EV P) 141 #[x0, x1] w = (do
 let r1 ← bx P 102 x0 w
 let r2 ← vl (.int .i64 0) r1.2
 let r3 ← fa P 102 r1.1 2 r2.2
 let r4 ← fa P 98 r3.1 0 r3.2
 let r5 ← ld P 96 r4.1 r4.2
 let r6 ← ia P 96 r5.1 (.int .i64 0) r5.2
 let r7 ← fa P 159 r6.1 0 r6.2
 let r8 ← ld P 156 r7.1 r7.2
 let r9 ← al P 156 r8.2
 let r10 ← st P 156 r9.1 r8.1 r9.2
 let r11 ← vl (.int .i64 0) r10.2
 Dw (AJ (AO #[x0, x1]) [(2, r1.1), (4, r2.1), (8, r3.1), (9, r4.1), (10, r5.1), (11, r6.1), (12, r7.1), (13, r8.1), (5, r9.1), (6, r11.1)]) r11.2) := by kernel_rfl
theorem MZ (x0 : Value) (w : World) : Bv P (EV P) 142 #[x0] w = (do
 let r1 ← bx P 98 x0 w
 let r2 ← vl (.bool false) r1.2
 let r3 ← fa P 98 r1.1 0 r2.2
 let r4 ← ld P 96 r3.1 r3.2
 let r5 ← ia P 96 r4.1 (.int .i64 0) r4.2
 let r6 ← fa P 159 r5.1 1 r5.2
 let r7 ← ld P 99 r6.1 r6.2
 let r8 ← Au P #[99] 3 #[r7.1] r7.2
 let r9 ← bo P .lss 3 (.tmp 8) (.const (.int .i64 6)) r8.1 (.int .i64 6) r8.2
 let r10 ← vl r9.1 r9.2
 some (r10.1, r10.2)) := by kernel_rfl
theorem KT (x0 : Value) (w : World) : Bv P (EV P) 143 #[x0] w = (do
 let r1 ← bx P 98 x0 w
 let r2 ← al P 106 r1.2
 let r3 ← fa P 98 r1.1 0 r2.2
 let r4 ← ld P 96 r3.1 r3.2
 let r5 ← fa P 98 r1.1 0 r4.2
 let r6 ← ld P 96 r5.1 r5.2
 let r7 ← Au P #[96] 3 #[r6.1] r6.2
 let r8 ← bo P .sub 3 (.tmp 7) (.const (.int .i64 1)) r7.1 (.int .i64 1) r7.2
 let r9 ← ia P 96 r4.1 r8.1 r8.2
 let r10 ← fa P 159 r9.1 0 r9.2
 let r11 ← ld P 156 r10.1 r10.2
 let r12 ← EV P 137 #[r11.1] r11.2
 let r13 ← st P 106 r2.1 r12.1 r12.2
 let v15 ← (ld P 106 r2.1 r13.2).bind fun r14 => AG (r14.2 = r13.2) (some r14.1)
 some (v15, r13.2)) := by kernel_rfl
noncomputable def Eu (e : Env) (w : World) : Option (Value × World) := BA P (EV P) 144 29 (.loop (cA (cA (cB (cA (cB (cB (Ae P 144)))))))) e w (Am 0 (AE P (EV P) 144 29 (cB (cB (cB (Ae P 144)))) (Bc P (AB P 144))))
noncomputable def FR (e : Env) (w : World) : Option (Value × World) := BA P (EV P) 144 29 (cB (cB (cA (cA (cB (cA (cB (cB (Ae P 144))))))))) e w (DM P (EV P) 144 29 (cA (cA (cB (cA (cB (cB (Ae P 144))))))) (Am 0 (AE P (EV P) 144 29 (cB (cB (cB (Ae P 144)))) (Bc P (AB P 144)))))
theorem Gw (e : Env) (w : World) : Eu e w = (do
 let r1 ← vl (e 6) w
 let r2 ← bo P .lss 3 (.tmp 9) (.const (.int .i64 4)) r1.1 (.int .i64 4) r1.2
 AL r2.1 (do
 let r3 ← fa P 106 (e 3) 0 r2.2
 let r4 ← ld P 104 r3.1 r3.2
 let r5 ← vl (e 6) r4.2
 let r6 ← ia P 104 r4.1 r5.1 r5.2
 let r7 ← fa P 39 r6.1 0 r6.2
 let r8 ← ld P 3 r7.1 r7.2
 let r9 ← vl (e 5) r8.2
 let r10 ← bo P .gtr 3 (.tmp 18) (.tmp 19) r8.1 r9.1 r9.2
 AL r10.1 (do
 let r11 ← fa P 106 (e 3) 0 r10.2
 let r12 ← ld P 104 r11.1 r11.2
 let r13 ← vl (e 6) r12.2
 let r14 ← ia P 104 r12.1 r13.1 r13.2
 let r15 ← fa P 39 r14.1 0 r14.2
 let r16 ← ld P 3 r15.1 r15.2
 let r17 ← vl r16.1 r16.2
 FR (AJ e [(9, r1.1), (10, r2.1), (13, r3.1), (14, r4.1), (15, r5.1), (16, r6.1), (17, r7.1), (18, r8.1), (19, r9.1), (20, r10.1), (21, r11.1), (22, r12.1), (23, r13.1), (24, r14.1), (25, r15.1), (26, r16.1), (5, r17.1)]) r17.2) (do
 FR (AJ e [(9, r1.1), (10, r2.1), (13, r3.1), (14, r4.1), (15, r5.1), (16, r6.1), (17, r7.1), (18, r8.1), (19, r9.1), (20, r10.1)]) r10.2)) (do
 let r18 ← vl (e 5) r2.2
 let r19 ← bo P .add 3 (.tmp 27) (.const (.int .i64 1)) r18.1 (.int .i64 1) r18.2
 let r20 ← vl r19.1 r19.2
 some (r20.1, r20.2))) := (AH P (EV P) 144 29 (cA (cA (cB (cA (cB (cB (Ae P 144))))))) e w (Am 0 (AE P (EV P) 144 29 (cB (cB (cB (Ae P 144)))) (Bc P (AB P 144))))).trans (by kernel_rfl)
theorem Gx (e : Env) (w : World) : FR e w = (do
 let r1 ← vl (e 6) w
 let r2 ← bo P .add 3 (.tmp 11) (.const (.int .i64 1)) r1.1 (.int .i64 1) r1.2
 let r3 ← vl r2.1 r2.2
 Eu (AJ e [(11, r1.1), (12, r2.1), (6, r3.1)]) r3.2) := by kernel_rfl
theorem Na (x0 x1 : Value) (w : World) : Bv P (EV P) 144 #[x0, x1] w = (do
 let r1 ← bx P 102 x0 w
 let r2 ← bx P 106 x1 r1.2
 let r3 ← vl (.int .i64 0) r2.2
 let r4 ← fa P 102 r1.1 1 r3.2
 let r5 ← ld P 3 r4.1 r4.2
 let r6 ← vl r5.1 r5.2
 let r7 ← vl (.int .i64 0) r6.2
 Eu (AJ (AO #[x0, x1]) [(2, r1.1), (3, r2.1), (4, r3.1), (7, r4.1), (8, r5.1), (5, r6.1), (6, r7.1)]) r7.2) := by kernel_rfl
theorem Oo (x0 x1 : Value) (w : World) : Bv P (EV P) 145 #[x0, x1] w = (do
 let r1 ← bx P 39 x0 w
 let r2 ← bx P 39 x1 r1.2
 let r3 ← al P 39 r2.2
 let r4 ← ld P 39 r1.1 r3.2
 let r5 ← ld P 39 r2.1 r4.2
 let r6 ← EV P 133 #[r4.1, r5.1] r5.2
 AL r6.1 (do
 let r7 ← ld P 39 r2.1 r6.2
 let r8 ← st P 39 r3.1 r7.1 r7.2
 let v10 ← (ld P 39 r3.1 r8.2).bind fun r9 => AG (r9.2 = r8.2) (some r9.1)
 some (v10, r8.2)) (do
 let r11 ← ld P 39 r1.1 r6.2
 let r12 ← st P 39 r3.1 r11.1 r11.2
 let v14 ← (ld P 39 r3.1 r12.2).bind fun r13 => AG (r13.2 = r12.2) (some r13.1)
 some (v14, r12.2))) := by kernel_rfl
noncomputable def GX (e : Env) (w : World) : Option (Value × World) := BA P (EV P) 146 23 (cB (cB (Ae P 146))) e w (Bc P (AB P 146))
theorem Hk (e : Env) (w : World) : GX e w = (do
 let r1 ← ld P 156 (e 2) w
 let r2 ← st P 156 (e 4) r1.1 r1.2
 let v4 ← (ld P 156 (e 4) r2.2).bind fun r3 => AG (r3.2 = r2.2) (some r3.1)
 some (v4, r2.2)) := by kernel_rfl
theorem Oq (x0 x1 : Value) (w : World) : Bv P (EV P) 146 #[x0, x1] w = (do
 let r1 ← bx P 156 x0 w
 let r2 ← bx P 110 x1 r1.2
 let r3 ← al P 156 r2.2
 Ah (fa P 156 r1.1 0) (dw r3.2) fun r5 => do
 Ah (ld P 99 r5.1) (dw r3.2) fun r6 => do
 Ah (fa P 110 r2.1 0) (dw r3.2) fun r7 => do
 Ah (ld P 3 r7.1) (dw r3.2) fun r8 => do
 Ah (ia P 99 r6.1 r8.1) (dw r3.2) fun r9 => do
 Ah (fa P 110 r9.1 1) (dw r3.2) fun r10 => do
 Ah (ld P 39 r10.1) (dw r3.2) fun r11 => do
 Ah (fa P 110 r2.1 1) (dw r3.2) fun r12 => do
 Ah (ld P 39 r12.1) (dw r3.2) fun r13 => do
 let r14 ← EV P 133 #[r11.1, r13.1] (dw r3.2)
 AG qt10 <| do
 AL r14.1 (do
 Ah (fa P 156 r1.1 0) (dw r14.2) fun r16 => do
 Ah (ld P 99 r16.1) (dw r14.2) fun r17 => do
 Ah (fa P 110 r2.1 0) (dw r14.2) fun r18 => do
 Ah (ld P 3 r18.1) (dw r14.2) fun r19 => do
 Ah (ld P 110 r2.1) (dw r14.2) fun r20 => do
 let r21 ← EV P 66 #[r20.1] (dw r14.2)
 AG (True ∧ ld P 3 r18.1 r21.2 = some (r19.1, r21.2) ∧ fa P 110 r2.1 0 r21.2 = some (r18.1, r21.2) ∧ ld P 99 r16.1 r21.2 = some (r17.1, r21.2) ∧ fa P 156 r1.1 0 r21.2 = some (r16.1, r21.2) ∧ True) <| do
 Ah (ia P 99 r17.1 r19.1) r21.2 fun r22 => do
 let r23 ← st P 110 r22.1 r21.1 r21.2
 AG qt7 <| do
 GX (AJ (AO #[x0, x1]) [(2, r1.1), (3, r2.1), (4, r3.1), (5, r5.1), (6, r6.1), (7, r7.1), (8, r8.1), (9, r9.1), (10, r10.1), (11, r11.1), (12, r12.1), (13, r13.1), (14, r14.1), (15, r16.1), (16, r17.1), (17, r18.1), (18, r19.1), (19, r20.1), (20, r21.1), (21, r22.1)]) r23.2) (do
 GX (AJ (AO #[x0, x1]) [(2, r1.1), (3, r2.1), (4, r3.1), (5, r5.1), (6, r6.1), (7, r7.1), (8, r8.1), (9, r9.1), (10, r10.1), (11, r11.1), (12, r12.1), (13, r13.1), (14, r14.1)]) r14.2)) := by kernel_rfl
end Go.Proofs.YtkhbpmhagpljiaaGreatDoor.X
