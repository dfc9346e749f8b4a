/- A part of the proof: an evaluator of the model, its laws, and contracts of functions; no condition. -/
import Derived.Test.YtkhbpmhagpljiaaDoorEvT
set_option linter.unusedVariables false
set_option maxRecDepth 100000
namespace Go.Proofs.YtkhbpmhagpljiaaDoor.X
open Go Go.Ev
theorem impl_keyOk_fn (x0 : Value) (w : World) : fnC P (EV P) 38 #[x0] w =
 (vl (.bool false) w).bind fun r1 =>
 (vl x0 r1.2).bind fun r2 =>
 (EV P 37 #[r2.1, (.int .i64 0), (.int .i64 3)] r2.2).bind fun r3 =>
 (vl r3.1 r3.2).bind fun r4 =>
 some (r4.1, r4.2) := by kernel_rfl
theorem impl_TagOk_fn (x0 : Value) (w : World) : fnC P (EV P) 39 #[x0] w =
 (bx P 36 x0 w).bind fun r1 =>
 (vl (.bool false) r1.2).bind fun r2 =>
 (ld P 36 r1.1 r2.2).bind fun r3 =>
 (bd P 36 #[] r3.2).bind fun r4 =>
 (bo P .eql 36 (.tmp 3) (.tmp 4) r3.1 r4.1 r4.2).bind fun r5 =>
 (vl r5.1 r5.2).bind fun r6 =>
 (gif r6.1 false (fa P 36 r1.1 0 r6.2) r6.2).bind fun r7 =>
 (gif r6.1 false (ld P 3 r7.1 r7.2) r7.2).bind fun r8 =>
 (gif r6.1 false (EV P 37 #[r8.1, (.int .i64 1), (.int .i64 999)] r8.2) r8.2).bind fun r9 =>
 (gif r6.1 false (vl r9.1 r9.2) r9.2).bind fun r10 =>
 (gif r10.1 true (fa P 36 r1.1 1 r10.2) r10.2).bind fun r11 =>
 (gif r10.1 true (ld P 3 r11.1 r11.2) r11.2).bind fun r12 =>
 (gif r10.1 true (EV P 51 #[r12.1] r12.2) r12.2).bind fun r13 =>
 (gif r6.1 false (pickV r10.1 r13.1 (.bool false) r13.2) r13.2).bind fun r14 =>
 (pickV r6.1 (.bool true) r14.1 r14.2).bind fun r15 =>
 (vl r15.1 r15.2).bind fun r16 =>
 some (r16.1, r16.2) := by kernel_rfl
theorem strings_Builder_copyCheck_fn (x0 : Value) (w : World) : fnC P (EV P) 40 #[x0] w =
 (vl x0 w).bind fun r1 =>
 (nk P r1.1 r1.2).bind fun r2 =>
 (fa P 46 r2.1 0 r2.2).bind fun r3 =>
 (ld P 43 r3.1 r3.2).bind fun r4 =>
 (bo P .eql 43 (.tmp 5) (.const (Go.Value.pointer none)) r4.1 (Go.Value.pointer none) r4.2).bind fun r5 =>
 cnd r5.1 (
 (vl x0 r5.2).bind fun r6 =>
 (vl x0 r6.2).bind fun r7 =>
 (cv P 43 77 r7.1 r7.2).bind fun r8 =>
 (xf P 52 #[r8.1] r8.2).bind fun r9 =>
 (cv P 77 43 r9.1 r9.2).bind fun r10 =>
 (nk P r6.1 r10.2).bind fun r11 =>
 (fa P 46 r11.1 0 r11.2).bind fun r12 =>
 (st P 43 r12.1 r10.1 r12.2).bind fun r13 =>
 some (.tuple #[], r13.2)) (
 (vl x0 r5.2).bind fun r14 =>
 (nk P r14.1 r14.2).bind fun r15 =>
 (fa P 46 r15.1 0 r15.2).bind fun r16 =>
 (ld P 43 r16.1 r16.2).bind fun r17 =>
 (vl x0 r17.2).bind fun r18 =>
 (bo P .neq 43 (.tmp 17) (.tmp 18) r17.1 r18.1 r18.2).bind fun r19 =>
 cnd r19.1 (
 (none : Option (Value × World))) (
 some (.tuple #[], r19.2))) := by kernel_rfl
theorem internal_strconv_Itoa_fn (x0 : Value) (w : World) : fnC P (EV P) 41 #[x0] w =
 (vl (Go.Value.string { data := #[] }) w).bind fun r1 =>
 (vl x0 r1.2).bind fun r2 =>
 (EV P 53 #[r2.1, (.int .i64 10)] r2.2).bind fun r3 =>
 (vl r3.1 r3.2).bind fun r4 =>
 some (r4.1, r4.2) := by kernel_rfl
theorem laws_eqTag_fn (x0 x1 : Value) (w : World) : fnC P (EV P) 42 #[x0, x1] w =
 (bx P 36 x0 w).bind fun r1 =>
 (bx P 36 x1 r1.2).bind fun r2 =>
 (vl (.bool false) r2.2).bind fun r3 =>
 (fa P 36 r1.1 0 r3.2).bind fun r4 =>
 (ld P 3 r4.1 r4.2).bind fun r5 =>
 (fa P 36 r2.1 0 r5.2).bind fun r6 =>
 (ld P 3 r6.1 r6.2).bind fun r7 =>
 (bo P .neq 3 (.tmp 6) (.tmp 8) r5.1 r7.1 r7.2).bind fun r8 =>
 cnd r8.1 (
 (vl (.bool false) r8.2).bind fun r9 =>
 some (r9.1, r9.2)) (
 (fa P 36 r1.1 1 r8.2).bind fun r10 =>
 (ld P 3 r10.1 r10.2).bind fun r11 =>
 (fa P 36 r2.1 1 r11.2).bind fun r12 =>
 (ld P 3 r12.1 r12.2).bind fun r13 =>
 (bo P .neq 3 (.tmp 11) (.tmp 13) r11.1 r13.1 r13.2).bind fun r14 =>
 cnd r14.1 (
 (vl (.bool false) r14.2).bind fun r15 =>
 some (r15.1, r15.2)) (
 (vl (.bool true) r14.2).bind fun r16 =>
 some (r16.1, r16.2))) := by kernel_rfl
theorem spec_l1TagOk_fn (x0 : Value) (w : World) : fnC P (EV P) 43 #[x0] w =
 (bx P 36 x0 w).bind fun r1 =>
 (vl (.bool false) r1.2).bind fun r2 =>
 (ld P 36 r1.1 r2.2).bind fun r3 =>
 (bd P 36 #[] r3.2).bind fun r4 =>
 (bo P .eql 36 (.tmp 3) (.tmp 4) r3.1 r4.1 r4.2).bind fun r5 =>
 (vl r5.1 r5.2).bind fun r6 =>
 (gif r6.1 false (fa P 36 r1.1 0 r6.2) r6.2).bind fun r7 =>
 (gif r6.1 false (ld P 3 r7.1 r7.2) r7.2).bind fun r8 =>
 (gif r6.1 false (EV P 44 #[r8.1, (.int .i64 1), (.int .i64 999)] r8.2) r8.2).bind fun r9 =>
 (gif r6.1 false (vl r9.1 r9.2) r9.2).bind fun r10 =>
 (gif r10.1 true (fa P 36 r1.1 1 r10.2) r10.2).bind fun r11 =>
 (gif r10.1 true (ld P 3 r11.1 r11.2) r11.2).bind fun r12 =>
 (gif r10.1 true (EV P 44 #[r12.1, (.int .i64 0), (.int .i64 2)] r12.2) r12.2).bind fun r13 =>
 (gif r6.1 false (pickV r10.1 r13.1 (.bool false) r13.2) r13.2).bind fun r14 =>
 (pickV r6.1 (.bool true) r14.1 r14.2).bind fun r15 =>
 (vl r15.1 r15.2).bind fun r16 =>
 some (r16.1, r16.2) := by kernel_rfl
theorem spec_l1In_fn (x0 x1 x2 : Value) (w : World) : fnC P (EV P) 44 #[x0, x1, x2] w =
 (vl (.bool false) w).bind fun r1 =>
 (vl x0 r1.2).bind fun r2 =>
 (vl x1 r2.2).bind fun r3 =>
 (bo P .geq 3 (.tmp 7) (.tmp 8) r2.1 r3.1 r3.2).bind fun r4 =>
 (vl r4.1 r4.2).bind fun r5 =>
 (gif r5.1 true (vl x0 r5.2) r5.2).bind fun r6 =>
 (gif r5.1 true (vl x2 r6.2) r6.2).bind fun r7 =>
 (gif r5.1 true (bo P .leq 3 (.tmp 11) (.tmp 12) r6.1 r7.1 r7.2) r7.2).bind fun r8 =>
 (pickV r5.1 r8.1 (.bool false) r8.2).bind fun r9 =>
 (vl r9.1 r9.2).bind fun r10 =>
 some (r10.1, r10.2) := by kernel_rfl
theorem internal_stringslite_Cut_fn (x0 x1 : Value) (w : World) : fnC P (EV P) 45 #[x0, x1] w =
 (vl (Go.Value.string { data := #[] }) w).bind fun r1 =>
 (vl (Go.Value.string { data := #[] }) r1.2).bind fun r2 =>
 (vl (.bool false) r2.2).bind fun r3 =>
 (vl x0 r3.2).bind fun r4 =>
 (vl x1 r4.2).bind fun r5 =>
 (EV P 54 #[r4.1, r5.1] r5.2).bind fun r6 =>
 (vl r6.1 r6.2).bind fun r7 =>
 (vl r7.1 r7.2).bind fun r8 =>
 (bo P .geq 3 (.tmp 11) (.const (.int .i64 0)) r8.1 (.int .i64 0) r8.2).bind fun r9 =>
 cnd r9.1 (
 (vl x0 (dw r9.2)).bind fun r11 =>
 ifP (r11.2 = (dw r9.2)) <|
 (vl r7.1 (dw r9.2)).bind fun r12 =>
 ifP (r12.2 = (dw r9.2)) <|
 (sl P 9 r11.1 none (some r12.1) none (dw r9.2)).bind fun r13 =>
 ifP (r13.2 = (dw r9.2)) <|
 (vl x0 (dw r9.2)).bind fun r14 =>
 ifP (r14.2 = (dw r9.2)) <|
 (vl r7.1 (dw r9.2)).bind fun r15 =>
 ifP (r15.2 = (dw r9.2)) <|
 (vl x1 (dw r9.2)).bind fun r16 =>
 ifP (r16.2 = (dw r9.2)) <|
 (b_len P #[9] 3 #[r16.1] (dw r9.2)).bind fun r17 =>
 ifP (r17.2 = (dw r9.2)) <|
 (bo P .add 3 (.tmp 17) (.tmp 19) r15.1 r17.1 (dw r9.2)).bind fun r18 =>
 ifP (r18.2 = (dw r9.2)) <|
 (sl P 9 r14.1 (some r18.1) none none (dw r9.2)).bind fun r19 =>
 ifP (r19.2 = (dw r9.2)) <|
 (vl r13.1 (dw r9.2)).bind fun r20 =>
 ifP (r20.2 = (dw r9.2)) <|
 (vl r19.1 (dw r9.2)).bind fun r21 =>
 ifP (r21.2 = (dw r9.2)) <|
 (vl (.bool true) (dw r9.2)).bind fun r22 =>
 ifP (r22.2 = (dw r9.2)) <|
 some (.tuple #[r20.1, r21.1, r22.1], (dw r9.2))) (
 (vl x0 r9.2).bind fun r23 =>
 (vl r23.1 r23.2).bind fun r24 =>
 (vl (Go.Value.string { data := #[] }) r24.2).bind fun r25 =>
 (vl (.bool false) r25.2).bind fun r26 =>
 some (.tuple #[r24.1, r25.1, r26.1], r26.2)) := by kernel_rfl
theorem strings_Split_fn (x0 x1 : Value) (w : World) : fnC P (EV P) 46 #[x0, x1] w =
 (vl (Go.Value.slice none 0 0) w).bind fun r1 =>
 (vl x0 r1.2).bind fun r2 =>
 (vl x1 r2.2).bind fun r3 =>
 (EV P 55 #[r2.1, r3.1, (.int .i64 0), (.int .i64 (-1))] r3.2).bind fun r4 =>
 (vl r4.1 r4.2).bind fun r5 =>
 some (r5.1, r5.2) := by kernel_rfl
theorem strconv_Atoi_fn (x0 : Value) (w : World) : fnC P (EV P) 47 #[x0] w =
 (vl (.int .i64 0) w).bind fun r1 =>
 (vl Go.Value.nilIface r1.2).bind fun r2 =>
 (vl x0 r2.2).bind fun r3 =>
 (EV P 56 #[r3.1] r3.2).bind fun r4 =>
 (vl r4.1 r4.2).bind fun r5 =>
 (xt P r5.1 0 r5.2).bind fun r6 =>
 (xt P r5.1 1 r6.2).bind fun r7 =>
 (vl r6.1 r7.2).bind fun r8 =>
 (vl r7.1 r8.2).bind fun r9 =>
 (vl r9.1 r9.2).bind fun r10 =>
 (bo P .neq 48 (.tmp 11) (.const Go.Value.nilIface) r10.1 Go.Value.nilIface r10.2).bind fun r11 =>
 cnd r11.1 (
 (vl r8.1 r11.2).bind fun r12 =>
 (vl x0 r12.2).bind fun r13 =>
 (vl r9.1 r13.2).bind fun r14 =>
 (EV P 57 #[(Go.Value.string { data := #[65, 116, 111, 105] }), r13.1, (.int .i64 0), (.int .i64 0), r14.1] r14.2).bind fun r15 =>
 (vl r12.1 r15.2).bind fun r16 =>
 (vl r15.1 r16.2).bind fun r17 =>
 some (.tuple #[r16.1, r17.1], r17.2)) (
 (vl r8.1 r11.2).bind fun r18 =>
 (vl r18.1 r18.2).bind fun r19 =>
 (vl Go.Value.nilIface r19.2).bind fun r20 =>
 some (.tuple #[r19.1, r20.1], r20.2)) := by kernel_rfl
theorem impl_TagGet_fn (x0 : Value) (w : World) : fnC P (EV P) 48 #[x0] w =
 (al P 36 w).bind fun r1 =>
 (vl (.bool false) r1.2).bind fun r2 =>
 (vl x0 r2.2).bind fun r3 =>
 (EV P 29 #[r3.1, (Go.Value.string { data := #[46] })] r3.2).bind fun r4 =>
 (vl r4.1 r4.2).bind fun r5 =>
 (xt P r5.1 0 r5.2).bind fun r6 =>
 (xt P r5.1 1 r6.2).bind fun r7 =>
 (xt P r5.1 2 r7.2).bind fun r8 =>
 (vl r6.1 r8.2).bind fun r9 =>
 (vl r7.1 r9.2).bind fun r10 =>
 (vl r8.1 r10.2).bind fun r11 =>
 (vl r9.1 r11.2).bind fun r12 =>
 (EV P 47 #[r12.1] r12.2).bind fun r13 =>
 (vl r13.1 r13.2).bind fun r14 =>
 (xt P r14.1 0 r14.2).bind fun r15 =>
 (xt P r14.1 1 r15.2).bind fun r16 =>
 (vl r15.1 r16.2).bind fun r17 =>
 (vl r16.1 r17.2).bind fun r18 =>
 (vl r10.1 r18.2).bind fun r19 =>
 (EV P 47 #[r19.1] r19.2).bind fun r20 =>
 (vl r20.1 r20.2).bind fun r21 =>
 (xt P r21.1 0 r21.2).bind fun r22 =>
 (xt P r21.1 1 r22.2).bind fun r23 =>
 (vl r22.1 r23.2).bind fun r24 =>
 (vl r23.1 r24.2).bind fun r25 =>
 (vl r17.1 r25.2).bind fun r26 =>
 (vl r24.1 r26.2).bind fun r27 =>
 (bd P 36 #[(0, r26.1), (1, r27.1)] r27.2).bind fun r28 =>
 (al P 36 r28.2).bind fun r29 =>
 (st P 36 r29.1 r28.1 r29.2).bind fun r30 =>
 (vl r18.1 r30.2).bind fun r31 =>
 (bo P .neq 48 (.tmp 31) (.const Go.Value.nilIface) r31.1 Go.Value.nilIface r31.2).bind fun r32 =>
 (vl r32.1 r32.2).bind fun r33 =>
 (gif r33.1 false (vl r25.1 r33.2) r33.2).bind fun r34 =>
 (gif r33.1 false (bo P .neq 48 (.tmp 34) (.const Go.Value.nilIface) r34.1 Go.Value.nilIface r34.2) r34.2).bind fun r35 =>
 (pickV r33.1 (.bool true) r35.1 r35.2).bind fun r36 =>
 (vl r36.1 r36.2).bind fun r37 =>
 (gif r37.1 false (ld P 36 r29.1 r37.2) r37.2).bind fun r38 =>
 (gif r37.1 false (EV P 39 #[r38.1] r38.2) r38.2).bind fun r39 =>
 (gif r37.1 false (uo P .not r39.1 r39.2) r39.2).bind fun r40 =>
 (pickV r37.1 (.bool true) r40.1 r40.2).bind fun r41 =>
 (vl r41.1 r41.2).bind fun r42 =>
 (gif r42.1 false (ld P 36 r29.1 r42.2) r42.2).bind fun r43 =>
 (gif r42.1 false (EV P 21 #[r43.1] r43.2) r43.2).bind fun r44 =>
 (gif r42.1 false (vl x0 r44.2) r44.2).bind fun r45 =>
 (gif r42.1 false (bo P .neq 9 (.tmp 44) (.tmp 45) r44.1 r45.1 r45.2) r45.2).bind fun r46 =>
 (pickV r42.1 (.bool true) r46.1 r46.2).bind fun r47 =>
 cnd r47.1 (
 (bd P 36 #[] r47.2).bind fun r48 =>
 (st P 36 r1.1 r48.1 r48.2).bind fun r49 =>
 (vl (.bool false) r49.2).bind fun r50 =>
 ((ld P 36 r1.1 r50.2).bind fun r51 => ifP (r51.2 = r50.2) (some r51.1)).bind fun v52 =>
 some (.tuple #[v52, r50.1], r50.2)) (
 (ld P 36 r29.1 r47.2).bind fun r53 =>
 (st P 36 r1.1 r53.1 r53.2).bind fun r54 =>
 (vl (.bool true) r54.2).bind fun r55 =>
 ((ld P 36 r1.1 r55.2).bind fun r56 => ifP (r56.2 = r55.2) (some r56.1)).bind fun v57 =>
 some (.tuple #[v57, r55.1], r55.2)) := by kernel_rfl
noncomputable def slices_Index_string_l1 (e : Env) (w : World) : Option (Value × World) := exC P (EV P) 49 19 (.loop (cA (cA (cB (cA (cB (bodyOf P 49))))))) e w (kBlock 0 (kSeq P (EV P) 49 19 (cB (cB (bodyOf P 49))) (kFn P (fnOf P 49))))
theorem slices_Index_string_l1_eq (e : Env) (w : World) : slices_Index_string_l1 e w =
 (bo P .lss 3 (.tmp 8) (.tmp 7) (e 8) (e 7) w).bind fun r1 =>
 cnd r1.1 (
 (vl (e 8) r1.2).bind fun r2 =>
 (vl r2.1 r2.2).bind fun r3 =>
 (vl (e 1) r3.2).bind fun r4 =>
 (vl (e 0) r4.2).bind fun r5 =>
 (vl r3.1 r5.2).bind fun r6 =>
 (ia P 52 r5.1 r6.1 r6.2).bind fun r7 =>
 (ld P 9 r7.1 r7.2).bind fun r8 =>
 (bo P .eql 9 (.tmp 11) (.tmp 15) r4.1 r8.1 r8.2).bind fun r9 =>
 cnd r9.1 (
 (vl r3.1 r9.2).bind fun r10 =>
 (vl r10.1 r10.2).bind fun r11 =>
 some (r11.1, r11.2)) (
 (bo P .add 3 (.tmp 8) (.const (.int .i64 1)) (e 8) (.int .i64 1) r9.2).bind fun r12 =>
 (vl r12.1 r12.2).bind fun r13 =>
 slices_Index_string_l1 (ups e [(9, r1.1), (10, r2.1), (5, r3.1), (11, r4.1), (12, r5.1), (13, r6.1), (14, r7.1), (15, r8.1), (16, r9.1), (18, r12.1), (8, r13.1)]) r13.2)) (
 (vl (.int .i64 (-1)) r1.2).bind fun r14 =>
 some (r14.1, r14.2)) := (exC_loop P (EV P) 49 19 (cA (cA (cB (cA (cB (bodyOf P 49)))))) e w (kBlock 0 (kSeq P (EV P) 49 19 (cB (cB (bodyOf P 49))) (kFn P (fnOf P 49))))).trans (by kernel_rfl)
theorem slices_Index_string_fn (x0 x1 : Value) (w : World) : fnC P (EV P) 49 #[x0, x1] w =
 (vl (.int .i64 0) w).bind fun r1 =>
 (vl x0 r1.2).bind fun r2 =>
 (b_len P #[52] 3 #[r2.1] r2.2).bind fun r3 =>
 (vl (.int .i64 0) r3.2).bind fun r4 =>
 slices_Index_string_l1 (ups (env0 #[x0, x1]) [(4, r1.1), (6, r2.1), (7, r3.1), (8, r4.1)]) r4.2 := by kernel_rfl
noncomputable def slices_IndexFunc_Done_l1 (e : Env) (w : World) : Option (Value × World) := exC P (EV P) 50 19 (.loop (cA (cA (cB (cA (cB (bodyOf P 50))))))) e w (kBlock 0 (kSeq P (EV P) 50 19 (cB (cB (bodyOf P 50))) (kFn P (fnOf P 50))))
theorem slices_IndexFunc_Done_l1_eq (e : Env) (w : World) : slices_IndexFunc_Done_l1 e w =
 (bo P .lss 3 (.tmp 8) (.tmp 7) (e 8) (e 7) w).bind fun r1 =>
 cnd r1.1 (
 (vl (e 8) r1.2).bind fun r2 =>
 (vl r2.1 r2.2).bind fun r3 =>
 (vl (e 1) r3.2).bind fun r4 =>
 (vl (e 0) r4.2).bind fun r5 =>
 (vl r3.1 r5.2).bind fun r6 =>
 (ia P 25 r5.1 r6.1 r6.2).bind fun r7 =>
 (ld P 38 r7.1 r7.2).bind fun r8 =>
 (clo P r4.1 #[r8.1] r8.2).bind fun r9 =>
 cnd r9.1 (
 (vl r3.1 r9.2).bind fun r10 =>
 (vl r10.1 r10.2).bind fun r11 =>
 some (r11.1, r11.2)) (
 (bo P .add 3 (.tmp 8) (.const (.int .i64 1)) (e 8) (.int .i64 1) r9.2).bind fun r12 =>
 (vl r12.1 r12.2).bind fun r13 =>
 slices_IndexFunc_Done_l1 (ups e [(9, r1.1), (10, r2.1), (5, r3.1), (11, r4.1), (12, r5.1), (13, r6.1), (14, r7.1), (15, r8.1), (16, r9.1), (18, r12.1), (8, r13.1)]) r13.2)) (
 (vl (.int .i64 (-1)) r1.2).bind fun r14 =>
 some (r14.1, r14.2)) := (exC_loop P (EV P) 50 19 (cA (cA (cB (cA (cB (bodyOf P 50)))))) e w (kBlock 0 (kSeq P (EV P) 50 19 (cB (cB (bodyOf P 50))) (kFn P (fnOf P 50))))).trans (by kernel_rfl)
theorem slices_IndexFunc_Done_fn (x0 x1 : Value) (w : World) : fnC P (EV P) 50 #[x0, x1] w =
 (vl (.int .i64 0) w).bind fun r1 =>
 (vl x0 r1.2).bind fun r2 =>
 (b_len P #[25] 3 #[r2.1] r2.2).bind fun r3 =>
 (vl (.int .i64 0) r3.2).bind fun r4 =>
 slices_IndexFunc_Done_l1 (ups (env0 #[x0, x1]) [(4, r1.1), (6, r2.1), (7, r3.1), (8, r4.1)]) r4.2 := by kernel_rfl
theorem impl_placeOk_fn (x0 : Value) (w : World) : fnC P (EV P) 51 #[x0] w =
 (vl (.bool false) w).bind fun r1 =>
 (vl x0 r1.2).bind fun r2 =>
 (EV P 37 #[r2.1, (.int .i64 0), (.int .i64 2)] r2.2).bind fun r3 =>
 (vl r3.1 r3.2).bind fun r4 =>
 some (r4.1, r4.2) := by kernel_rfl
noncomputable def internal_strconv_FormatInt_j1 (e : Env) (w : World) : Option (Value × World) := exC P (EV P) 53 54 (cB (cB (cB (cB (cA (cB (cA (cB (bodyOf P 53))))))))) e w (kSeq P (EV P) 53 54 (cB (cB (bodyOf P 53))) (kFn P (fnOf P 53)))
theorem internal_strconv_FormatInt_j1_eq (e : Env) (w : World) : internal_strconv_FormatInt_j1 e w =
 (vl (e 6) w).bind fun r1 =>
 (EV P 59 #[r1.1] r1.2).bind fun r2 =>
 (vl r2.1 r2.2).bind fun r3 =>
 (vl r3.1 r3.2).bind fun r4 =>
 (bo P .add 3 (.const (.int .i64 1)) (.tmp 28) (.int .i64 1) r4.1 r4.2).bind fun r5 =>
 (sl P 83 (e 5) (some (.int .i64 1)) (some r5.1) none r5.2).bind fun r6 =>
 (vl (e 6) r6.2).bind fun r7 =>
 (EV P 60 #[r6.1, r7.1] r7.2).bind fun r8 =>
 (vl (e 0) r8.2).bind fun r9 =>
 (bo P .lss 2 (.tmp 33) (.const (.int .i64 0)) r9.1 (.int .i64 0) r9.2).bind fun r10 =>
 cnd r10.1 (
 (ia P 83 (e 5) (.int .i64 0) r10.2).bind fun r11 =>
 (st P 5 r11.1 (.int .u8 45) r11.2).bind fun r12 =>
 (vl r3.1 r12.2).bind fun r13 =>
 (bo P .add 3 (.const (.int .i64 1)) (.tmp 36) (.int .i64 1) r13.1 r13.2).bind fun r14 =>
 (sl P 83 (e 5) none (some r14.1) none r14.2).bind fun r15 =>
 (cv P 44 9 r15.1 r15.2).bind fun r16 =>
 (vl r16.1 r16.2).bind fun r17 =>
 some (r17.1, r17.2)) (
 (vl r3.1 r10.2).bind fun r18 =>
 (bo P .add 3 (.const (.int .i64 1)) (.tmp 40) (.int .i64 1) r18.1 r18.2).bind fun r19 =>
 (sl P 83 (e 5) (some (.int .i64 1)) (some r19.1) none r19.2).bind fun r20 =>
 (cv P 44 9 r20.1 r20.2).bind fun r21 =>
 (vl r21.1 r21.2).bind fun r22 =>
 some (r22.1, r22.2)) := by kernel_rfl
theorem internal_strconv_FormatInt_fn (x0 x1 : Value) (w : World) : fnC P (EV P) 53 #[x0, x1] w =
 (vl (Go.Value.string { data := #[] }) w).bind fun r1 =>
 (vl x1 r1.2).bind fun r2 =>
 (bo P .eql 3 (.tmp 10) (.const (.int .i64 10)) r2.1 (.int .i64 10) r2.2).bind fun r3 =>
 cnd r3.1 (
 (vl x0 r3.2).bind fun r4 =>
 (bo P .leq 2 (.const (.int .i64 0)) (.tmp 12) (.int .i64 0) r4.1 r4.2).bind fun r5 =>
 (vl r5.1 r5.2).bind fun r6 =>
 (gif r6.1 true (vl x0 r6.2) r6.2).bind fun r7 =>
 (gif r6.1 true (bo P .lss 2 (.tmp 15) (.const (.int .i64 100)) r7.1 (.int .i64 100) r7.2) r7.2).bind fun r8 =>
 (pickV r6.1 r8.1 (.bool false) r8.2).bind fun r9 =>
 cnd r9.1 (
 (vl x0 r9.2).bind fun r10 =>
 (EV P 58 #[r10.1] r10.2).bind fun r11 =>
 (vl r11.1 r11.2).bind fun r12 =>
 some (r12.1, r12.2)) (
 (al P 83 r9.2).bind fun r13 =>
 (vl x0 r13.2).bind fun r14 =>
 (cv P 2 84 r14.1 r14.2).bind fun r15 =>
 (vl r15.1 r15.2).bind fun r16 =>
 (vl x0 r16.2).bind fun r17 =>
 (bo P .lss 2 (.tmp 22) (.const (.int .i64 0)) r17.1 (.int .i64 0) r17.2).bind fun r18 =>
 cnd r18.1 (
 (vl r16.1 r18.2).bind fun r19 =>
 (uo P .neg r19.1 r19.2).bind fun r20 =>
 (vl r20.1 r20.2).bind fun r21 =>
 internal_strconv_FormatInt_j1 (ups (env0 #[x0, x1]) [(4, r1.1), (10, r2.1), (11, r3.1), (12, r4.1), (13, r5.1), (14, r6.1), (15, r7.1), (16, r8.1), (17, r9.1), (5, r13.1), (20, r14.1), (21, r15.1), (6, r16.1), (22, r17.1), (23, r18.1), (24, r19.1), (25, r20.1), (6, r21.1)]) r21.2) (
 internal_strconv_FormatInt_j1 (ups (env0 #[x0, x1]) [(4, r1.1), (10, r2.1), (11, r3.1), (12, r4.1), (13, r5.1), (14, r6.1), (15, r7.1), (16, r8.1), (17, r9.1), (5, r13.1), (20, r14.1), (21, r15.1), (6, r16.1), (22, r17.1), (23, r18.1)]) r18.2))) (
 (vl x0 r3.2).bind fun r22 =>
 (cv P 2 84 r22.1 r22.2).bind fun r23 =>
 (vl x1 r23.2).bind fun r24 =>
 (vl x0 r24.2).bind fun r25 =>
 (bo P .lss 2 (.tmp 48) (.const (.int .i64 0)) r25.1 (.int .i64 0) r25.2).bind fun r26 =>
 (EV P 61 #[(Go.Value.slice none 0 0), r23.1, r24.1, r26.1, (.bool false)] r26.2).bind fun r27 =>
 (vl r27.1 r27.2).bind fun r28 =>
 (xt P r28.1 0 r28.2).bind fun r29 =>
 (xt P r28.1 1 r29.2).bind fun r30 =>
 (vl r29.1 r30.2).bind fun r31 =>
 (vl r30.1 r31.2).bind fun r32 =>
 (vl r32.1 r32.2).bind fun r33 =>
 (vl r33.1 r33.2).bind fun r34 =>
 some (r34.1, r34.2)) := by kernel_rfl
noncomputable def internal_stringslite_Index_l1 (e : Env) (w : World) : Option (Value × World) := exC P (EV P) 54 143 (.loop (cA (cA (cA (cB (cB (cB (cB (cB (cB (cB (cB (bodyOf P 54))))))))))))) e w (kBlock 1 (kSeq P (EV P) 54 143 (cB (cB (cB (cB (cB (cB (cB (cB (cB (bodyOf P 54)))))))))) (kFn P (fnOf P 54))))
theorem internal_stringslite_Index_fn (x0 x1 : Value) (w : World) : fnC P (EV P) 54 #[x0, x1] w =
 (vl (.int .i64 0) w).bind fun r1 =>
 (vl x1 r1.2).bind fun r2 =>
 (b_len P #[9] 3 #[r2.1] r2.2).bind fun r3 =>
 (vl r3.1 r3.2).bind fun r4 =>
 (vl r4.1 r4.2).bind fun r5 =>
 (bo P .eql 3 (.tmp 17) (.const (.int .i64 0)) r5.1 (.int .i64 0) r5.2).bind fun r6 =>
 (vl r6.1 r6.2).bind fun r7 =>
 (gif r7.1 false (vl x1 r7.2) r7.2).bind fun r8 =>
 (gif r7.1 false (vl x0 r8.2) r8.2).bind fun r9 =>
 (gif r7.1 false (bo P .eql 9 (.tmp 20) (.tmp 21) r8.1 r9.1 r9.2) r9.2).bind fun r10 =>
 (pickV r7.1 (.bool true) r10.1 r10.2).bind fun r11 =>
 (vl r11.1 r11.2).bind fun r12 =>
 cnd r12.1 (
 (vl (.int .i64 0) r12.2).bind fun r13 =>
 some (r13.1, r13.2)) (
 (vl r4.1 r12.2).bind fun r14 =>
 (bo P .eql 3 (.tmp 25) (.const (.int .i64 1)) r14.1 (.int .i64 1) r14.2).bind fun r15 =>
 (vl r15.1 r15.2).bind fun r16 =>
 cnd r16.1 (
 (vl x0 r16.2).bind fun r17 =>
 (vl x1 r17.2).bind fun r18 =>
 (ix P 9 r18.1 (.int .i64 0) r18.2).bind fun r19 =>
 (EV P 62 #[r17.1, r19.1] r19.2).bind fun r20 =>
 (vl r20.1 r20.2).bind fun r21 =>
 some (r21.1, r21.2)) (
 (vl r4.1 r16.2).bind fun r22 =>
 (vl x0 r22.2).bind fun r23 =>
 (b_len P #[9] 3 #[r23.1] r23.2).bind fun r24 =>
 (bo P .geq 3 (.tmp 32) (.tmp 34) r22.1 r24.1 r24.2).bind fun r25 =>
 (vl r25.1 r25.2).bind fun r26 =>
 cnd r26.1 (
 (vl (.int .i64 (-1)) r26.2).bind fun r27 =>
 some (r27.1, r27.2)) (
 (vl r4.1 r26.2).bind fun r28 =>
 (ld P 3 (.pointer (some ⟨0, 0, none⟩)) r28.2).bind fun r29 =>
 (bo P .leq 3 (.tmp 37) (.tmp 38) r28.1 r29.1 r29.2).bind fun r30 =>
 (vl r30.1 r30.2).bind fun r31 =>
 (gif r31.1 true (vl x0 r31.2) r31.2).bind fun r32 =>
 (gif r31.1 true (b_len P #[9] 3 #[r32.1] r32.2) r32.2).bind fun r33 =>
 (gif r31.1 true (bo P .leq 3 (.tmp 42) (.const (.int .i64 64)) r33.1 (.int .i64 64) r33.2) r33.2).bind fun r34 =>
 (pickV r31.1 r34.1 (.bool false) r34.2).bind fun r35 =>
 (vl r35.1 r35.2).bind fun r36 =>
 cnd r36.1 (
 (vl x0 r36.2).bind fun r37 =>
 (vl x1 r37.2).bind fun r38 =>
 (xf P 63 #[r37.1, r38.1] r38.2).bind fun r39 =>
 (vl r39.1 r39.2).bind fun r40 =>
 some (r40.1, r40.2)) (
 (vl x1 r36.2).bind fun r41 =>
 (ix P 9 r41.1 (.int .i64 0) r41.2).bind fun r42 =>
 (vl r42.1 r42.2).bind fun r43 =>
 (vl x1 r43.2).bind fun r44 =>
 (ix P 9 r44.1 (.int .i64 1) r44.2).bind fun r45 =>
 (vl r45.1 r45.2).bind fun r46 =>
 (vl (.int .i64 0) r46.2).bind fun r47 =>
 (vl x0 r47.2).bind fun r48 =>
 (b_len P #[9] 3 #[r48.1] r48.2).bind fun r49 =>
 (vl r4.1 r49.2).bind fun r50 =>
 (bo P .sub 3 (.tmp 53) (.tmp 54) r49.1 r50.1 r50.2).bind fun r51 =>
 (bo P .add 3 (.tmp 55) (.const (.int .i64 1)) r51.1 (.int .i64 1) r51.2).bind fun r52 =>
 (vl r52.1 r52.2).bind fun r53 =>
 (vl (.int .i64 0) r53.2).bind fun r54 =>
 internal_stringslite_Index_l1 (ups (env0 #[x0, x1]) [(4, r1.1), (14, r2.1), (15, r3.1), (5, r4.1), (17, r5.1), (18, r6.1), (19, r7.1), (20, r8.1), (21, r9.1), (22, r10.1), (23, r11.1), (16, r12.1), (25, r14.1), (26, r15.1), (24, r16.1), (32, r22.1), (33, r23.1), (34, r24.1), (35, r25.1), (31, r26.1), (37, r28.1), (38, r29.1), (39, r30.1), (40, r31.1), (41, r32.1), (42, r33.1), (43, r34.1), (44, r35.1), (36, r36.1), (48, r41.1), (49, r42.1), (6, r43.1), (50, r44.1), (51, r45.1), (7, r46.1), (8, r47.1), (52, r48.1), (53, r49.1), (54, r50.1), (55, r51.1), (56, r52.1), (9, r53.1), (10, r54.1)]) r54.2)))) := by kernel_rfl
noncomputable def strings_genSplit_j1 (e : Env) (w : World) : Option (Value × World) := exC P (EV P) 55 66 (cB (cB (cB (cB (bodyOf P 55))))) e w (kFn P (fnOf P 55))
noncomputable def strings_genSplit_l1 (e : Env) (w : World) : Option (Value × World) := exC P (EV P) 55 66 (.loop (cA (cA (cA (cB (cB (cB (cB (cB (cB (cB (cB (bodyOf P 55))))))))))))) e w (kBlock 0 (kSeq P (EV P) 55 66 (cB (cB (cB (cB (cB (cB (cB (cB (cB (bodyOf P 55)))))))))) (kFn P (fnOf P 55))))
noncomputable def strings_genSplit_j2 (e : Env) (w : World) : Option (Value × World) := exC P (EV P) 55 66 (cB (cB (cB (cB (cB (cB (cB (cB (cB (bodyOf P 55)))))))))) e w (kFn P (fnOf P 55))
theorem strings_genSplit_j1_eq (e : Env) (w : World) : strings_genSplit_j1 e w =
 (vl (e 3) w).bind fun r1 =>
 (vl (e 0) r1.2).bind fun r2 =>
 (b_len P #[9] 3 #[r2.1] r2.2).bind fun r3 =>
 (bo P .add 3 (.tmp 27) (.const (.int .i64 1)) r3.1 (.int .i64 1) r3.2).bind fun r4 =>
 (b_min P #[3, 3] 3 #[r1.1, r4.1] r4.2).bind fun r5 =>
 (vl r5.1 r5.2).bind fun r6 =>
 (vl r6.1 r6.2).bind fun r7 =>
 (ms P 52 r7.1 r7.1 r7.2).bind fun r8 =>
 (vl r8.1 r8.2).bind fun r9 =>
 (vl r6.1 r9.2).bind fun r10 =>
 (bo P .sub 3 (.tmp 32) (.const (.int .i64 1)) r10.1 (.int .i64 1) r10.2).bind fun r11 =>
 (vl r11.1 r11.2).bind fun r12 =>
 (vl (.int .i64 0) r12.2).bind fun r13 =>
 strings_genSplit_l1 (ups e [(25, r1.1), (26, r2.1), (27, r3.1), (28, r4.1), (29, r5.1), (3, r6.1), (30, r7.1), (31, r8.1), (9, r9.1), (32, r10.1), (33, r11.1), (3, r12.1), (10, r13.1)]) r13.2 := by kernel_rfl
theorem strings_genSplit_l1_eq (e : Env) (w : World) : strings_genSplit_l1 e w =
 (vl (e 10) w).bind fun r1 =>
 (vl (e 3) r1.2).bind fun r2 =>
 (bo P .lss 3 (.tmp 34) (.tmp 35) r1.1 r2.1 r2.2).bind fun r3 =>
 cnd r3.1 (
 (vl (e 0) r3.2).bind fun r4 =>
 (vl (e 1) r4.2).bind fun r5 =>
 (EV P 68 #[r4.1, r5.1] r5.2).bind fun r6 =>
 (vl r6.1 r6.2).bind fun r7 =>
 (vl r7.1 r7.2).bind fun r8 =>
 (bo P .lss 3 (.tmp 40) (.const (.int .i64 0)) r8.1 (.int .i64 0) r8.2).bind fun r9 =>
 cnd r9.1 (
 strings_genSplit_j2 (ups e [(34, r1.1), (35, r2.1), (36, r3.1), (37, r4.1), (38, r5.1), (39, r6.1), (11, r7.1), (40, r8.1), (41, r9.1)]) r9.2) (
 (vl (e 9) r9.2).bind fun r10 =>
 (vl (e 10) r10.2).bind fun r11 =>
 (vl (e 0) r11.2).bind fun r12 =>
 (vl r7.1 r12.2).bind fun r13 =>
 (vl (e 2) r13.2).bind fun r14 =>
 (bo P .add 3 (.tmp 45) (.tmp 46) r13.1 r14.1 r14.2).bind fun r15 =>
 (sl P 9 r12.1 none (some r15.1) none r15.2).bind fun r16 =>
 (ia P 52 r10.1 r11.1 r16.2).bind fun r17 =>
 (st P 9 r17.1 r16.1 r17.2).bind fun r18 =>
 (vl (e 0) r18.2).bind fun r19 =>
 (vl r7.1 r19.2).bind fun r20 =>
 (vl (e 1) r20.2).bind fun r21 =>
 (b_len P #[9] 3 #[r21.1] r21.2).bind fun r22 =>
 (bo P .add 3 (.tmp 51) (.tmp 53) r20.1 r22.1 r22.2).bind fun r23 =>
 (sl P 9 r19.1 (some r23.1) none none r23.2).bind fun r24 =>
 (vl r24.1 r24.2).bind fun r25 =>
 (vl (e 10) r25.2).bind fun r26 =>
 (bo P .add 3 (.tmp 56) (.const (.int .i64 1)) r26.1 (.int .i64 1) r26.2).bind fun r27 =>
 (vl r27.1 r27.2).bind fun r28 =>
 strings_genSplit_l1 (ups e [(34, r1.1), (35, r2.1), (36, r3.1), (37, r4.1), (38, r5.1), (39, r6.1), (11, r7.1), (40, r8.1), (41, r9.1), (42, r10.1), (43, r11.1), (44, r12.1), (45, r13.1), (46, r14.1), (47, r15.1), (48, r16.1), (49, r17.1), (50, r19.1), (51, r20.1), (52, r21.1), (53, r22.1), (54, r23.1), (55, r24.1), (0, r25.1), (56, r26.1), (57, r27.1), (10, r28.1)]) r28.2)) (
 strings_genSplit_j2 (ups e [(34, r1.1), (35, r2.1), (36, r3.1)]) r3.2) := (exC_loop P (EV P) 55 66 (cA (cA (cA (cB (cB (cB (cB (cB (cB (cB (cB (bodyOf P 55)))))))))))) e w (kBlock 0 (kSeq P (EV P) 55 66 (cB (cB (cB (cB (cB (cB (cB (cB (cB (bodyOf P 55)))))))))) (kFn P (fnOf P 55))))).trans (by kernel_rfl)
theorem strings_genSplit_j2_eq (e : Env) (w : World) : strings_genSplit_j2 e w =
 (vl (e 9) w).bind fun r1 =>
 (vl (e 10) r1.2).bind fun r2 =>
 (vl (e 0) r2.2).bind fun r3 =>
 (ia P 52 r1.1 r2.1 r3.2).bind fun r4 =>
 (st P 9 r4.1 r3.1 r4.2).bind fun r5 =>
 (vl (e 9) r5.2).bind fun r6 =>
 (vl (e 10) r6.2).bind fun r7 =>
 (bo P .add 3 (.tmp 63) (.const (.int .i64 1)) r7.1 (.int .i64 1) r7.2).bind fun r8 =>
 (sl P 52 r6.1 none (some r8.1) none r8.2).bind fun r9 =>
 (vl r9.1 r9.2).bind fun r10 =>
 some (r10.1, r10.2) := by kernel_rfl
theorem strings_genSplit_fn (x0 x1 x2 x3 : Value) (w : World) : fnC P (EV P) 55 #[x0, x1, x2, x3] w =
 (vl (Go.Value.slice none 0 0) w).bind fun r1 =>
 (vl x3 r1.2).bind fun r2 =>
 (bo P .eql 3 (.tmp 12) (.const (.int .i64 0)) r2.1 (.int .i64 0) r2.2).bind fun r3 =>
 cnd r3.1 (
 (vl (Go.Value.slice none 0 0) r3.2).bind fun r4 =>
 some (r4.1, r4.2)) (
 (vl x1 r3.2).bind fun r5 =>
 (bo P .eql 9 (.tmp 14) (.const (Go.Value.string { data := #[] })) r5.1 (Go.Value.string { data := #[] }) r5.2).bind fun r6 =>
 cnd r6.1 (
 (vl x0 r6.2).bind fun r7 =>
 (vl x3 r7.2).bind fun r8 =>
 (EV P 66 #[r7.1, r8.1] r8.2).bind fun r9 =>
 (vl r9.1 r9.2).bind fun r10 =>
 some (r10.1, r10.2)) (
 (vl x3 r6.2).bind fun r11 =>
 (bo P .lss 3 (.tmp 19) (.const (.int .i64 0)) r11.1 (.int .i64 0) r11.2).bind fun r12 =>
 cnd r12.1 (
 (vl x0 r12.2).bind fun r13 =>
 (vl x1 r13.2).bind fun r14 =>
 (EV P 67 #[r13.1, r14.1] r14.2).bind fun r15 =>
 (bo P .add 3 (.tmp 23) (.const (.int .i64 1)) r15.1 (.int .i64 1) r15.2).bind fun r16 =>
 (vl r16.1 r16.2).bind fun r17 =>
 strings_genSplit_j1 (ups (env0 #[x0, x1, x2, x3]) [(8, r1.1), (12, r2.1), (13, r3.1), (14, r5.1), (15, r6.1), (19, r11.1), (20, r12.1), (21, r13.1), (22, r14.1), (23, r15.1), (24, r16.1), (3, r17.1)]) r17.2) (
 strings_genSplit_j1 (ups (env0 #[x0, x1, x2, x3]) [(8, r1.1), (12, r2.1), (13, r3.1), (14, r5.1), (15, r6.1), (19, r11.1), (20, r12.1)]) r12.2))) := by kernel_rfl
noncomputable def internal_strconv_Atoi_j1 (e : Env) (w : World) : Option (Value × World) := exC P (EV P) 56 77 (cB (cB (cA (cB (cA (cB (cB (bodyOf P 56)))))))) e w (kSeq P (EV P) 56 77 (cB (cB (cB (bodyOf P 56)))) (kFn P (fnOf P 56)))
noncomputable def internal_strconv_Atoi_l1 (e : Env) (w : World) : Option (Value × World) := exC P (EV P) 56 77 (.loop (cA (cA (cB (cA (cB (cB (cB (cA (cB (cA (cB (cB (bodyOf P 56)))))))))))))) e w (kBlock 0 (kSeq P (EV P) 56 77 (cB (cB (cB (cB (cA (cB (cA (cB (cB (bodyOf P 56)))))))))) (kSeq P (EV P) 56 77 (cB (cB (cB (bodyOf P 56)))) (kFn P (fnOf P 56)))))
noncomputable def internal_strconv_Atoi_j2 (e : Env) (w : World) : Option (Value × World) := exC P (EV P) 56 77 (cB (cB (cB (cB (cB (cA (cB (cA (cB (cB (bodyOf P 56))))))))))) e w (kSeq P (EV P) 56 77 (cB (cB (cB (bodyOf P 56)))) (kFn P (fnOf P 56)))
theorem internal_strconv_Atoi_j1_eq (e : Env) (w : World) : internal_strconv_Atoi_j1 e w =
 (vl (.int .i64 0) w).bind fun r1 =>
 (vl (e 0) r1.2).bind fun r2 =>
 (cv P 9 44 r2.1 r2.2).bind fun r3 =>
 (b_len P #[44] 3 #[r3.1] r3.2).bind fun r4 =>
 (vl (.int .i64 0) r4.2).bind fun r5 =>
 internal_strconv_Atoi_l1 (ups e [(6, r1.1), (46, r2.1), (47, r3.1), (48, r4.1), (49, r5.1)]) r5.2 := by kernel_rfl
theorem internal_strconv_Atoi_l1_eq (e : Env) (w : World) : internal_strconv_Atoi_l1 e w =
 (bo P .lss 3 (.tmp 49) (.tmp 48) (e 49) (e 48) w).bind fun r1 =>
 cnd r1.1 (
 (ia P 44 (e 47) (e 49) r1.2).bind fun r2 =>
 (ld P 5 r2.1 r2.2).bind fun r3 =>
 (vl r3.1 r3.2).bind fun r4 =>
 (vl r4.1 r4.2).bind fun r5 =>
 (bo P .sub 5 (.tmp 53) (.const (.int .u8 48)) r5.1 (.int .u8 48) r5.2).bind fun r6 =>
 (vl r6.1 r6.2).bind fun r7 =>
 (vl r7.1 r7.2).bind fun r8 =>
 (bo P .gtr 5 (.tmp 55) (.const (.int .u8 9)) r8.1 (.int .u8 9) r8.2).bind fun r9 =>
 cnd r9.1 (
 (mi P 93 (.int .i64 2) r9.2).bind fun r10 =>
 (vl (.int .i64 0) r10.2).bind fun r11 =>
 (vl r10.1 r11.2).bind fun r12 =>
 some (.tuple #[r11.1, r12.1], r12.2)) (
 (vl (e 6) r9.2).bind fun r13 =>
 (bo P .mul 3 (.tmp 58) (.const (.int .i64 10)) r13.1 (.int .i64 10) r13.2).bind fun r14 =>
 (vl r7.1 r14.2).bind fun r15 =>
 (cv P 5 3 r15.1 r15.2).bind fun r16 =>
 (bo P .add 3 (.tmp 59) (.tmp 61) r14.1 r16.1 r16.2).bind fun r17 =>
 (vl r17.1 r17.2).bind fun r18 =>
 (bo P .add 3 (.tmp 49) (.const (.int .i64 1)) (e 49) (.int .i64 1) r18.2).bind fun r19 =>
 (vl r19.1 r19.2).bind fun r20 =>
 internal_strconv_Atoi_l1 (ups e [(50, r1.1), (51, r2.1), (52, r3.1), (8, r4.1), (53, r5.1), (54, r6.1), (8, r7.1), (55, r8.1), (56, r9.1), (58, r13.1), (59, r14.1), (60, r15.1), (61, r16.1), (62, r17.1), (6, r18.1), (63, r19.1), (49, r20.1)]) r20.2)) (
 (vl (e 5) r1.2).bind fun r21 =>
 (ix P 9 r21.1 (.int .i64 0) r21.2).bind fun r22 =>
 (bo P .eql 5 (.tmp 65) (.const (.int .u8 45)) r22.1 (.int .u8 45) r22.2).bind fun r23 =>
 cnd r23.1 (
 (vl (e 6) r23.2).bind fun r24 =>
 (uo P .neg r24.1 r24.2).bind fun r25 =>
 (vl r25.1 r25.2).bind fun r26 =>
 internal_strconv_Atoi_j2 (ups e [(50, r1.1), (64, r21.1), (65, r22.1), (66, r23.1), (67, r24.1), (68, r25.1), (6, r26.1)]) r26.2) (
 internal_strconv_Atoi_j2 (ups e [(50, r1.1), (64, r21.1), (65, r22.1), (66, r23.1)]) r23.2)) := (exC_loop P (EV P) 56 77 (cA (cA (cB (cA (cB (cB (cB (cA (cB (cA (cB (cB (bodyOf P 56))))))))))))) e w (kBlock 0 (kSeq P (EV P) 56 77 (cB (cB (cB (cB (cA (cB (cA (cB (cB (bodyOf P 56)))))))))) (kSeq P (EV P) 56 77 (cB (cB (cB (bodyOf P 56)))) (kFn P (fnOf P 56)))))).trans (by kernel_rfl)
theorem internal_strconv_Atoi_j2_eq (e : Env) (w : World) : internal_strconv_Atoi_j2 e w =
 (vl (e 6) w).bind fun r1 =>
 (vl r1.1 r1.2).bind fun r2 =>
 (vl Go.Value.nilIface r2.2).bind fun r3 =>
 some (.tuple #[r2.1, r3.1], r3.2) := by kernel_rfl
theorem internal_strconv_Atoi_fn (x0 : Value) (w : World) : fnC P (EV P) 56 #[x0] w =
 (vl (.int .i64 0) w).bind fun r1 =>
 (vl Go.Value.nilIface r1.2).bind fun r2 =>
 (vl x0 r2.2).bind fun r3 =>
 (b_len P #[9] 3 #[r3.1] r3.2).bind fun r4 =>
 (vl r4.1 r4.2).bind fun r5 =>
 (vl (.bool false) r5.2).bind fun r6 =>
 (gif r6.1 true (vl r5.1 r6.2) r6.2).bind fun r7 =>
 (gif r6.1 true (bo P .lss 3 (.const (.int .i64 0)) (.tmp 14) (.int .i64 0) r7.1 r7.2) r7.2).bind fun r8 =>
 (gif r6.1 true (vl r8.1 r8.2) r8.2).bind fun r9 =>
 (gif r9.1 true (vl r5.1 r9.2) r9.2).bind fun r10 =>
 (gif r9.1 true (bo P .lss 3 (.tmp 17) (.const (.int .i64 10)) r10.1 (.int .i64 10) r10.2) r10.2).bind fun r11 =>
 (gif r6.1 true (pickV r9.1 r11.1 (.bool false) r11.2) r11.2).bind fun r12 =>
 (pickV r6.1 r12.1 (.bool false) r12.2).bind fun r13 =>
 (vl r13.1 r13.2).bind fun r14 =>
 (gif r14.1 false (vl (.bool true) r14.2) r14.2).bind fun r15 =>
 (gif r15.1 true (vl r5.1 r15.2) r15.2).bind fun r16 =>
 (gif r15.1 true (bo P .lss 3 (.const (.int .i64 0)) (.tmp 23) (.int .i64 0) r16.1 r16.2) r16.2).bind fun r17 =>
 (gif r15.1 true (vl r17.1 r17.2) r17.2).bind fun r18 =>
 (gif r18.1 true (vl r5.1 r18.2) r18.2).bind fun r19 =>
 (gif r18.1 true (bo P .lss 3 (.tmp 26) (.const (.int .i64 19)) r19.1 (.int .i64 19) r19.2) r19.2).bind fun r20 =>
 (gif r15.1 true (pickV r18.1 r20.1 (.bool false) r20.2) r20.2).bind fun r21 =>
 (gif r14.1 false (pickV r15.1 r21.1 (.bool false) r21.2) r21.2).bind fun r22 =>
 (pickV r14.1 (.bool true) r22.1 r22.2).bind fun r23 =>
 cnd r23.1 (
 (vl x0 r23.2).bind fun r24 =>
 (vl r24.1 r24.2).bind fun r25 =>
 (vl x0 r25.2).bind fun r26 =>
 (ix P 9 r26.1 (.int .i64 0) r26.2).bind fun r27 =>
 (bo P .eql 5 (.tmp 33) (.const (.int .u8 45)) r27.1 (.int .u8 45) r27.2).bind fun r28 =>
 (vl r28.1 r28.2).bind fun r29 =>
 (gif r29.1 false (vl x0 r29.2) r29.2).bind fun r30 =>
 (gif r29.1 false (ix P 9 r30.1 (.int .i64 0) r30.2) r30.2).bind fun r31 =>
 (gif r29.1 false (bo P .eql 5 (.tmp 37) (.const (.int .u8 43)) r31.1 (.int .u8 43) r31.2) r31.2).bind fun r32 =>
 (pickV r29.1 (.bool true) r32.1 r32.2).bind fun r33 =>
 cnd r33.1 (
 (vl x0 r33.2).bind fun r34 =>
 (sl P 9 r34.1 (some (.int .i64 1)) none none r34.2).bind fun r35 =>
 (vl r35.1 r35.2).bind fun r36 =>
 (vl r36.1 r36.2).bind fun r37 =>
 (b_len P #[9] 3 #[r37.1] r37.2).bind fun r38 =>
 (bo P .lss 3 (.tmp 43) (.const (.int .i64 1)) r38.1 (.int .i64 1) r38.2).bind fun r39 =>
 cnd r39.1 (
 (mi P 93 (.int .i64 2) r39.2).bind fun r40 =>
 (vl (.int .i64 0) r40.2).bind fun r41 =>
 (vl r40.1 r41.2).bind fun r42 =>
 some (.tuple #[r41.1, r42.1], r42.2)) (
 internal_strconv_Atoi_j1 (ups (env0 #[x0]) [(2, r1.1), (3, r2.1), (11, r3.1), (12, r4.1), (4, r5.1), (13, r6.1), (14, r7.1), (15, r8.1), (16, r9.1), (17, r10.1), (18, r11.1), (19, r12.1), (20, r13.1), (21, r14.1), (22, r15.1), (23, r16.1), (24, r17.1), (25, r18.1), (26, r19.1), (27, r20.1), (28, r21.1), (29, r22.1), (30, r23.1), (31, r24.1), (5, r25.1), (32, r26.1), (33, r27.1), (34, r28.1), (35, r29.1), (36, r30.1), (37, r31.1), (38, r32.1), (39, r33.1), (40, r34.1), (41, r35.1), (0, r36.1), (42, r37.1), (43, r38.1), (44, r39.1)]) r39.2)) (
 internal_strconv_Atoi_j1 (ups (env0 #[x0]) [(2, r1.1), (3, r2.1), (11, r3.1), (12, r4.1), (4, r5.1), (13, r6.1), (14, r7.1), (15, r8.1), (16, r9.1), (17, r10.1), (18, r11.1), (19, r12.1), (20, r13.1), (21, r14.1), (22, r15.1), (23, r16.1), (24, r17.1), (25, r18.1), (26, r19.1), (27, r20.1), (28, r21.1), (29, r22.1), (30, r23.1), (31, r24.1), (5, r25.1), (32, r26.1), (33, r27.1), (34, r28.1), (35, r29.1), (36, r30.1), (37, r31.1), (38, r32.1), (39, r33.1)]) r33.2)) (
 (vl x0 r23.2).bind fun r43 =>
 (EV P 69 #[r43.1, (.int .i64 10), (.int .i64 0)] r43.2).bind fun r44 =>
 (vl r44.1 r44.2).bind fun r45 =>
 (xt P r45.1 0 r45.2).bind fun r46 =>
 (xt P r45.1 1 r46.2).bind fun r47 =>
 (vl r46.1 r47.2).bind fun r48 =>
 (vl r47.1 r48.2).bind fun r49 =>
 (vl r48.1 r49.2).bind fun r50 =>
 (vl r49.1 r50.2).bind fun r51 =>
 (vl r50.1 r51.2).bind fun r52 =>
 (vl r51.1 r52.2).bind fun r53 =>
 some (.tuple #[r52.1, r53.1], r53.2)) := by kernel_rfl
theorem strconv_toError_fn (x0 x1 x2 x3 x4 : Value) (w : World) : fnC P (EV P) 57 #[x0, x1, x2, x3, x4] w =
 (vl Go.Value.nilIface w).bind fun r1 =>
 (vl x4 r1.2).bind fun r2 =>
 (mi P 93 (.int .i64 2) r2.2).bind fun r3 =>
 (bo P .eql 48 (.tmp 11) (.tmp 13) r2.1 r3.1 r3.2).bind fun r4 =>
 (vl r4.1 r4.2).bind fun r5 =>
 cnd r5.1 (
 (vl x0 r5.2).bind fun r6 =>
 (vl x1 r6.2).bind fun r7 =>
 (EV P 70 #[r6.1, r7.1] r7.2).bind fun r8 =>
 (mi P 96 r8.1 r8.2).bind fun r9 =>
 (vl r9.1 r9.2).bind fun r10 =>
 some (r10.1, r10.2)) (
 (mi P 93 (.int .i64 1) r5.2).bind fun r11 =>
 (bo P .eql 48 (.tmp 11) (.tmp 20) r2.1 r11.1 r11.2).bind fun r12 =>
 (vl r12.1 r12.2).bind fun r13 =>
 cnd r13.1 (
 (vl x0 r13.2).bind fun r14 =>
 (vl x1 r14.2).bind fun r15 =>
 (EV P 71 #[r14.1, r15.1] r15.2).bind fun r16 =>
 (mi P 96 r16.1 r16.2).bind fun r17 =>
 (vl r17.1 r17.2).bind fun r18 =>
 some (r18.1, r18.2)) (
 (mi P 93 (.int .i64 3) r13.2).bind fun r19 =>
 (bo P .eql 48 (.tmp 11) (.tmp 27) r2.1 r19.1 r19.2).bind fun r20 =>
 (vl r20.1 r20.2).bind fun r21 =>
 cnd r21.1 (
 (vl x0 r21.2).bind fun r22 =>
 (vl x1 r22.2).bind fun r23 =>
 (vl x2 r23.2).bind fun r24 =>
 (EV P 72 #[r22.1, r23.1, r24.1] r24.2).bind fun r25 =>
 (mi P 96 r25.1 r25.2).bind fun r26 =>
 (vl r26.1 r26.2).bind fun r27 =>
 some (r27.1, r27.2)) (
 (mi P 93 (.int .i64 4) r21.2).bind fun r28 =>
 (bo P .eql 48 (.tmp 11) (.tmp 35) r2.1 r28.1 r28.2).bind fun r29 =>
 (vl r29.1 r29.2).bind fun r30 =>
 cnd r30.1 (
 (vl x0 r30.2).bind fun r31 =>
 (vl x1 r31.2).bind fun r32 =>
 (vl x3 r32.2).bind fun r33 =>
 (EV P 73 #[r31.1, r32.1, r33.1] r33.2).bind fun r34 =>
 (mi P 96 r34.1 r34.2).bind fun r35 =>
 (vl r35.1 r35.2).bind fun r36 =>
 some (r36.1, r36.2)) (
 (vl x4 r30.2).bind fun r37 =>
 (vl r37.1 r37.2).bind fun r38 =>
 some (r38.1, r38.2))))) := by kernel_rfl
theorem internal_strconv_small_fn (x0 : Value) (w : World) : fnC P (EV P) 58 #[x0] w =
 (vl (Go.Value.string { data := #[] }) w).bind fun r1 =>
 (vl x0 r1.2).bind fun r2 =>
 (bo P .lss 3 (.tmp 3) (.const (.int .i64 10)) r2.1 (.int .i64 10) r2.2).bind fun r3 =>
 cnd r3.1 (
 (vl x0 r3.2).bind fun r4 =>
 (vl x0 r4.2).bind fun r5 =>
 (bo P .add 3 (.tmp 6) (.const (.int .i64 1)) r5.1 (.int .i64 1) r5.2).bind fun r6 =>
 (sl P 9 (Go.Value.string { data := #[48, 49, 50, 51, 52, 53, 54, 55, 56, 57, 97, 98, 99, 100, 101, 102, 103, 104, 105, 106, 107, 108, 109, 110, 111, 112, 113, 114, 115, 116, 117, 118, 119, 120, 121, 122] }) (some r4.1) (some r6.1) none r6.2).bind fun r7 =>
 (vl r7.1 r7.2).bind fun r8 =>
 some (r8.1, r8.2)) (
 (vl x0 r3.2).bind fun r9 =>
 (bo P .mul 3 (.tmp 9) (.const (.int .i64 2)) r9.1 (.int .i64 2) r9.2).bind fun r10 =>
 (vl x0 r10.2).bind fun r11 =>
 (bo P .mul 3 (.tmp 11) (.const (.int .i64 2)) r11.1 (.int .i64 2) r11.2).bind fun r12 =>
 (bo P .add 3 (.tmp 12) (.const (.int .i64 2)) r12.1 (.int .i64 2) r12.2).bind fun r13 =>
 (sl P 9 (Go.Value.string { data := #[48, 48, 48, 49, 48, 50, 48, 51, 48, 52, 48, 53, 48, 54, 48, 55, 48, 56, 48, 57, 49, 48, 49, 49, 49, 50, 49, 51, 49, 52, 49, 53, 49, 54, 49, 55, 49, 56, 49, 57, 50, 48, 50, 49, 50, 50, 50, 51, 50, 52, 50, 53, 50, 54, 50, 55, 50, 56, 50, 57, 51, 48, 51, 49, 51, 50, 51, 51, 51, 52, 51, 53, 51, 54, 51, 55, 51, 56, 51, 57, 52, 48, 52, 49, 52, 50, 52, 51, 52, 52, 52, 53, 52, 54, 52, 55, 52, 56, 52, 57, 53, 48, 53, 49, 53, 50, 53, 51, 53, 52, 53, 53, 53, 54, 53, 55, 53, 56, 53, 57, 54, 48, 54, 49, 54, 50, 54, 51, 54, 52, 54, 53, 54, 54, 54, 55, 54, 56, 54, 57, 55, 48, 55, 49, 55, 50, 55, 51, 55, 52, 55, 53, 55, 54, 55, 55, 55, 56, 55, 57, 56, 48, 56, 49, 56, 50, 56, 51, 56, 52, 56, 53, 56, 54, 56, 55, 56, 56, 56, 57, 57, 48, 57, 49, 57, 50, 57, 51, 57, 52, 57, 53, 57, 54, 57, 55, 57, 56, 57, 57] }) (some r10.1) (some r13.1) none r13.2).bind fun r14 =>
 (vl r14.1 r14.2).bind fun r15 =>
 some (r15.1, r15.2)) := by kernel_rfl
theorem internal_strconv_numDigits_fn (x0 : Value) (w : World) : fnC P (EV P) 59 #[x0] w =
 (vl (.int .i64 0) w).bind fun r1 =>
 (vl x0 r1.2).bind fun r2 =>
 (EV P 75 #[r2.1] r2.2).bind fun r3 =>
 (EV P 74 #[r3.1] r3.2).bind fun r4 =>
 (vl r4.1 r4.2).bind fun r5 =>
 (vl r5.1 r5.2).bind fun r6 =>
 (vl x0 r6.2).bind fun r7 =>
 (vl r5.1 r7.2).bind fun r8 =>
 (ia P 100 (.pointer (some ⟨1, 0, none⟩)) r8.1 r8.2).bind fun r9 =>
 (ld P 84 r9.1 r9.2).bind fun r10 =>
 (bo P .geq 84 (.tmp 8) (.tmp 11) r7.1 r10.1 r10.2).bind fun r11 =>
 (EV P 76 #[r11.1] r11.2).bind fun r12 =>
 (bo P .add 3 (.tmp 7) (.tmp 13) r6.1 r12.1 r12.2).bind fun r13 =>
 (vl r13.1 r13.2).bind fun r14 =>
 some (r14.1, r14.2) := by kernel_rfl
noncomputable def internal_strconv_formatBase10_l1 (e : Env) (w : World) : Option (Value × World) := exC P (EV P) 60 167 (.loop (cA (cA (cA (cB (bodyOf P 60)))))) e w (kBlock 0 (kSeq P (EV P) 60 167 (cB (cB (bodyOf P 60))) (kFn P (fnOf P 60))))
noncomputable def internal_strconv_formatBase10_j1 (e : Env) (w : World) : Option (Value × World) := exC P (EV P) 60 167 (cB (cB (cB (cB (bodyOf P 60))))) e w (kFn P (fnOf P 60))
noncomputable def internal_strconv_formatBase10_j2 (e : Env) (w : World) : Option (Value × World) := exC P (EV P) 60 167 (cB (cB (cB (cB (cB (bodyOf P 60)))))) e w (kFn P (fnOf P 60))
theorem internal_strconv_formatBase10_l1_eq (e : Env) (w : World) : internal_strconv_formatBase10_l1 e w =
 (vl (e 4) w).bind fun r1 =>
 (bo P .geq 3 (.tmp 19) (.const (.int .i64 8)) r1.1 (.int .i64 8) r1.2).bind fun r2 =>
 cnd r2.1 (
 (vl (e 1) r2.2).bind fun r3 =>
 (bo P .rem 84 (.tmp 21) (.const (.int .u64 100000000)) r3.1 (.int .u64 100000000) r3.2).bind fun r4 =>
 (cv P 84 101 r4.1 r4.2).bind fun r5 =>
 (vl r5.1 r5.2).bind fun r6 =>
 (vl (e 1) r6.2).bind fun r7 =>
 (bo P .quo 84 (.tmp 24) (.const (.int .u64 100000000)) r7.1 (.int .u64 100000000) r7.2).bind fun r8 =>
 (vl r8.1 r8.2).bind fun r9 =>
 (vl r6.1 r9.2).bind fun r10 =>
 (bo P .quo 101 (.tmp 26) (.const (.int .u32 10000)) r10.1 (.int .u32 10000) r10.2).bind fun r11 =>
 (vl r6.1 r11.2).bind fun r12 =>
 (bo P .rem 101 (.tmp 28) (.const (.int .u32 10000)) r12.1 (.int .u32 10000) r12.2).bind fun r13 =>
 (vl r11.1 r13.2).bind fun r14 =>
 (vl r13.1 r14.2).bind fun r15 =>
 (vl r15.1 r15.2).bind fun r16 =>
 (bo P .quo 101 (.tmp 30) (.const (.int .u32 100)) r16.1 (.int .u32 100) r16.2).bind fun r17 =>
 (bo P .mul 101 (.tmp 31) (.const (.int .u32 2)) r17.1 (.int .u32 2) r17.2).bind fun r18 =>
 (vl r15.1 r18.2).bind fun r19 =>
 (bo P .rem 101 (.tmp 33) (.const (.int .u32 100)) r19.1 (.int .u32 100) r19.2).bind fun r20 =>
 (bo P .mul 101 (.tmp 34) (.const (.int .u32 2)) r20.1 (.int .u32 2) r20.2).bind fun r21 =>
 (vl r18.1 r21.2).bind fun r22 =>
 (vl r21.1 r22.2).bind fun r23 =>
 (vl r14.1 r23.2).bind fun r24 =>
 (bo P .quo 101 (.tmp 36) (.const (.int .u32 100)) r24.1 (.int .u32 100) r24.2).bind fun r25 =>
 (bo P .mul 101 (.tmp 37) (.const (.int .u32 2)) r25.1 (.int .u32 2) r25.2).bind fun r26 =>
 (vl r14.1 r26.2).bind fun r27 =>
 (bo P .rem 101 (.tmp 39) (.const (.int .u32 100)) r27.1 (.int .u32 100) r27.2).bind fun r28 =>
 (bo P .mul 101 (.tmp 40) (.const (.int .u32 2)) r28.1 (.int .u32 2) r28.2).bind fun r29 =>
 (vl r26.1 r29.2).bind fun r30 =>
 (vl r29.1 r30.2).bind fun r31 =>
 (vl (e 0) (dw r31.2)).bind fun r33 =>
 ifP (r33.2 = (dw r31.2)) <|
 (vl (e 4) (dw r31.2)).bind fun r34 =>
 ifP (r34.2 = (dw r31.2)) <|
 (bo P .sub 3 (.tmp 43) (.const (.int .i64 1)) r34.1 (.int .i64 1) (dw r31.2)).bind fun r35 =>
 ifP (r35.2 = (dw r31.2)) <|
 (vl (e 0) (dw r31.2)).bind fun r36 =>
 ifP (r36.2 = (dw r31.2)) <|
 (vl (e 4) (dw r31.2)).bind fun r37 =>
 ifP (r37.2 = (dw r31.2)) <|
 (bo P .sub 3 (.tmp 46) (.const (.int .i64 2)) r37.1 (.int .i64 2) (dw r31.2)).bind fun r38 =>
 ifP (r38.2 = (dw r31.2)) <|
 (vl r23.1 (dw r31.2)).bind fun r39 =>
 ifP (r39.2 = (dw r31.2)) <|
 (bo P .add 101 (.tmp 48) (.const (.int .u32 1)) r39.1 (.int .u32 1) (dw r31.2)).bind fun r40 =>
 ifP (r40.2 = (dw r31.2)) <|
 (ix P 9 (Go.Value.string { data := #[48, 48, 48, 49, 48, 50, 48, 51, 48, 52, 48, 53, 48, 54, 48, 55, 48, 56, 48, 57, 49, 48, 49, 49, 49, 50, 49, 51, 49, 52, 49, 53, 49, 54, 49, 55, 49, 56, 49, 57, 50, 48, 50, 49, 50, 50, 50, 51, 50, 52, 50, 53, 50, 54, 50, 55, 50, 56, 50, 57, 51, 48, 51, 49, 51, 50, 51, 51, 51, 52, 51, 53, 51, 54, 51, 55, 51, 56, 51, 57, 52, 48, 52, 49, 52, 50, 52, 51, 52, 52, 52, 53, 52, 54, 52, 55, 52, 56, 52, 57, 53, 48, 53, 49, 53, 50, 53, 51, 53, 52, 53, 53, 53, 54, 53, 55, 53, 56, 53, 57, 54, 48, 54, 49, 54, 50, 54, 51, 54, 52, 54, 53, 54, 54, 54, 55, 54, 56, 54, 57, 55, 48, 55, 49, 55, 50, 55, 51, 55, 52, 55, 53, 55, 54, 55, 55, 55, 56, 55, 57, 56, 48, 56, 49, 56, 50, 56, 51, 56, 52, 56, 53, 56, 54, 56, 55, 56, 56, 56, 57, 57, 48, 57, 49, 57, 50, 57, 51, 57, 52, 57, 53, 57, 54, 57, 55, 57, 56, 57, 57] }) r40.1 (dw r31.2)).bind fun r41 =>
 ifP (r41.2 = (dw r31.2)) <|
 (vl r23.1 (dw r31.2)).bind fun r42 =>
 ifP (r42.2 = (dw r31.2)) <|
 (ix P 9 (Go.Value.string { data := #[48, 48, 48, 49, 48, 50, 48, 51, 48, 52, 48, 53, 48, 54, 48, 55, 48, 56, 48, 57, 49, 48, 49, 49, 49, 50, 49, 51, 49, 52, 49, 53, 49, 54, 49, 55, 49, 56, 49, 57, 50, 48, 50, 49, 50, 50, 50, 51, 50, 52, 50, 53, 50, 54, 50, 55, 50, 56, 50, 57, 51, 48, 51, 49, 51, 50, 51, 51, 51, 52, 51, 53, 51, 54, 51, 55, 51, 56, 51, 57, 52, 48, 52, 49, 52, 50, 52, 51, 52, 52, 52, 53, 52, 54, 52, 55, 52, 56, 52, 57, 53, 48, 53, 49, 53, 50, 53, 51, 53, 52, 53, 53, 53, 54, 53, 55, 53, 56, 53, 57, 54, 48, 54, 49, 54, 50, 54, 51, 54, 52, 54, 53, 54, 54, 54, 55, 54, 56, 54, 57, 55, 48, 55, 49, 55, 50, 55, 51, 55, 52, 55, 53, 55, 54, 55, 55, 55, 56, 55, 57, 56, 48, 56, 49, 56, 50, 56, 51, 56, 52, 56, 53, 56, 54, 56, 55, 56, 56, 56, 57, 57, 48, 57, 49, 57, 50, 57, 51, 57, 52, 57, 53, 57, 54, 57, 55, 57, 56, 57, 57] }) r42.1 (dw r31.2)).bind fun r43 =>
 ifP (r43.2 = (dw r31.2)) <|
 (ia P 44 r33.1 r35.1 (dw r31.2)).bind fun r44 =>
 ifP (r44.2 = (dw r31.2)) <|
 (st P 5 r44.1 r41.1 (dw r31.2)).bind fun r45 =>
 ifP (True ∧ ix P 9 (Go.Value.string { data := #[48, 48, 48, 49, 48, 50, 48, 51, 48, 52, 48, 53, 48, 54, 48, 55, 48, 56, 48, 57, 49, 48, 49, 49, 49, 50, 49, 51, 49, 52, 49, 53, 49, 54, 49, 55, 49, 56, 49, 57, 50, 48, 50, 49, 50, 50, 50, 51, 50, 52, 50, 53, 50, 54, 50, 55, 50, 56, 50, 57, 51, 48, 51, 49, 51, 50, 51, 51, 51, 52, 51, 53, 51, 54, 51, 55, 51, 56, 51, 57, 52, 48, 52, 49, 52, 50, 52, 51, 52, 52, 52, 53, 52, 54, 52, 55, 52, 56, 52, 57, 53, 48, 53, 49, 53, 50, 53, 51, 53, 52, 53, 53, 53, 54, 53, 55, 53, 56, 53, 57, 54, 48, 54, 49, 54, 50, 54, 51, 54, 52, 54, 53, 54, 54, 54, 55, 54, 56, 54, 57, 55, 48, 55, 49, 55, 50, 55, 51, 55, 52, 55, 53, 55, 54, 55, 55, 55, 56, 55, 57, 56, 48, 56, 49, 56, 50, 56, 51, 56, 52, 56, 53, 56, 54, 56, 55, 56, 56, 56, 57, 57, 48, 57, 49, 57, 50, 57, 51, 57, 52, 57, 53, 57, 54, 57, 55, 57, 56, 57, 57] }) r42.1 r45.2 = some (r43.1, r45.2) ∧ True ∧ True ∧ bo P .sub 3 (.tmp 46) (.const (.int .i64 2)) r37.1 (.int .i64 2) r45.2 = some (r38.1, r45.2) ∧ True ∧ True) <|
 (ia P 44 r36.1 r38.1 r45.2).bind fun r46 =>
 ifP (r46.2 = r45.2) <|
 (st P 5 r46.1 r43.1 r45.2).bind fun r47 =>
 ifP (True ∧ True ∧ True ∧ True ∧ True ∧ True ∧ True ∧ True) <|
 (vl (e 0) (dw r47.2)).bind fun r49 =>
 ifP (r49.2 = (dw r47.2)) <|
 (vl (e 4) (dw r47.2)).bind fun r50 =>
 ifP (r50.2 = (dw r47.2)) <|
 (bo P .sub 3 (.tmp 56) (.const (.int .i64 3)) r50.1 (.int .i64 3) (dw r47.2)).bind fun r51 =>
 ifP (r51.2 = (dw r47.2)) <|
 (vl (e 0) (dw r47.2)).bind fun r52 =>
 ifP (r52.2 = (dw r47.2)) <|
 (vl (e 4) (dw r47.2)).bind fun r53 =>
 ifP (r53.2 = (dw r47.2)) <|
 (bo P .sub 3 (.tmp 59) (.const (.int .i64 4)) r53.1 (.int .i64 4) (dw r47.2)).bind fun r54 =>
 ifP (r54.2 = (dw r47.2)) <|
 (vl r22.1 (dw r47.2)).bind fun r55 =>
 ifP (r55.2 = (dw r47.2)) <|
 (bo P .add 101 (.tmp 61) (.const (.int .u32 1)) r55.1 (.int .u32 1) (dw r47.2)).bind fun r56 =>
 ifP (r56.2 = (dw r47.2)) <|
 (ix P 9 (Go.Value.string { data := #[48, 48, 48, 49, 48, 50, 48, 51, 48, 52, 48, 53, 48, 54, 48, 55, 48, 56, 48, 57, 49, 48, 49, 49, 49, 50, 49, 51, 49, 52, 49, 53, 49, 54, 49, 55, 49, 56, 49, 57, 50, 48, 50, 49, 50, 50, 50, 51, 50, 52, 50, 53, 50, 54, 50, 55, 50, 56, 50, 57, 51, 48, 51, 49, 51, 50, 51, 51, 51, 52, 51, 53, 51, 54, 51, 55, 51, 56, 51, 57, 52, 48, 52, 49, 52, 50, 52, 51, 52, 52, 52, 53, 52, 54, 52, 55, 52, 56, 52, 57, 53, 48, 53, 49, 53, 50, 53, 51, 53, 52, 53, 53, 53, 54, 53, 55, 53, 56, 53, 57, 54, 48, 54, 49, 54, 50, 54, 51, 54, 52, 54, 53, 54, 54, 54, 55, 54, 56, 54, 57, 55, 48, 55, 49, 55, 50, 55, 51, 55, 52, 55, 53, 55, 54, 55, 55, 55, 56, 55, 57, 56, 48, 56, 49, 56, 50, 56, 51, 56, 52, 56, 53, 56, 54, 56, 55, 56, 56, 56, 57, 57, 48, 57, 49, 57, 50, 57, 51, 57, 52, 57, 53, 57, 54, 57, 55, 57, 56, 57, 57] }) r56.1 (dw r47.2)).bind fun r57 =>
 ifP (r57.2 = (dw r47.2)) <|
 (vl r22.1 (dw r47.2)).bind fun r58 =>
 ifP (r58.2 = (dw r47.2)) <|
 (ix P 9 (Go.Value.string { data := #[48, 48, 48, 49, 48, 50, 48, 51, 48, 52, 48, 53, 48, 54, 48, 55, 48, 56, 48, 57, 49, 48, 49, 49, 49, 50, 49, 51, 49, 52, 49, 53, 49, 54, 49, 55, 49, 56, 49, 57, 50, 48, 50, 49, 50, 50, 50, 51, 50, 52, 50, 53, 50, 54, 50, 55, 50, 56, 50, 57, 51, 48, 51, 49, 51, 50, 51, 51, 51, 52, 51, 53, 51, 54, 51, 55, 51, 56, 51, 57, 52, 48, 52, 49, 52, 50, 52, 51, 52, 52, 52, 53, 52, 54, 52, 55, 52, 56, 52, 57, 53, 48, 53, 49, 53, 50, 53, 51, 53, 52, 53, 53, 53, 54, 53, 55, 53, 56, 53, 57, 54, 48, 54, 49, 54, 50, 54, 51, 54, 52, 54, 53, 54, 54, 54, 55, 54, 56, 54, 57, 55, 48, 55, 49, 55, 50, 55, 51, 55, 52, 55, 53, 55, 54, 55, 55, 55, 56, 55, 57, 56, 48, 56, 49, 56, 50, 56, 51, 56, 52, 56, 53, 56, 54, 56, 55, 56, 56, 56, 57, 57, 48, 57, 49, 57, 50, 57, 51, 57, 52, 57, 53, 57, 54, 57, 55, 57, 56, 57, 57] }) r58.1 (dw r47.2)).bind fun r59 =>
 ifP (r59.2 = (dw r47.2)) <|
 (ia P 44 r49.1 r51.1 (dw r47.2)).bind fun r60 =>
 ifP (r60.2 = (dw r47.2)) <|
 (st P 5 r60.1 r57.1 (dw r47.2)).bind fun r61 =>
 ifP (True ∧ ix P 9 (Go.Value.string { data := #[48, 48, 48, 49, 48, 50, 48, 51, 48, 52, 48, 53, 48, 54, 48, 55, 48, 56, 48, 57, 49, 48, 49, 49, 49, 50, 49, 51, 49, 52, 49, 53, 49, 54, 49, 55, 49, 56, 49, 57, 50, 48, 50, 49, 50, 50, 50, 51, 50, 52, 50, 53, 50, 54, 50, 55, 50, 56, 50, 57, 51, 48, 51, 49, 51, 50, 51, 51, 51, 52, 51, 53, 51, 54, 51, 55, 51, 56, 51, 57, 52, 48, 52, 49, 52, 50, 52, 51, 52, 52, 52, 53, 52, 54, 52, 55, 52, 56, 52, 57, 53, 48, 53, 49, 53, 50, 53, 51, 53, 52, 53, 53, 53, 54, 53, 55, 53, 56, 53, 57, 54, 48, 54, 49, 54, 50, 54, 51, 54, 52, 54, 53, 54, 54, 54, 55, 54, 56, 54, 57, 55, 48, 55, 49, 55, 50, 55, 51, 55, 52, 55, 53, 55, 54, 55, 55, 55, 56, 55, 57, 56, 48, 56, 49, 56, 50, 56, 51, 56, 52, 56, 53, 56, 54, 56, 55, 56, 56, 56, 57, 57, 48, 57, 49, 57, 50, 57, 51, 57, 52, 57, 53, 57, 54, 57, 55, 57, 56, 57, 57] }) r58.1 r61.2 = some (r59.1, r61.2) ∧ True ∧ True ∧ bo P .sub 3 (.tmp 59) (.const (.int .i64 4)) r53.1 (.int .i64 4) r61.2 = some (r54.1, r61.2) ∧ True ∧ True) <|
 (ia P 44 r52.1 r54.1 r61.2).bind fun r62 =>
 ifP (r62.2 = r61.2) <|
 (st P 5 r62.1 r59.1 r61.2).bind fun r63 =>
 ifP (True ∧ True ∧ True ∧ True ∧ True ∧ True ∧ True ∧ True) <|
 (vl (e 0) (dw r63.2)).bind fun r65 =>
 ifP (r65.2 = (dw r63.2)) <|
 (vl (e 4) (dw r63.2)).bind fun r66 =>
 ifP (r66.2 = (dw r63.2)) <|
 (bo P .sub 3 (.tmp 69) (.const (.int .i64 5)) r66.1 (.int .i64 5) (dw r63.2)).bind fun r67 =>
 ifP (r67.2 = (dw r63.2)) <|
 (vl (e 0) (dw r63.2)).bind fun r68 =>
 ifP (r68.2 = (dw r63.2)) <|
 (vl (e 4) (dw r63.2)).bind fun r69 =>
 ifP (r69.2 = (dw r63.2)) <|
 (bo P .sub 3 (.tmp 72) (.const (.int .i64 6)) r69.1 (.int .i64 6) (dw r63.2)).bind fun r70 =>
 ifP (r70.2 = (dw r63.2)) <|
 (vl r31.1 (dw r63.2)).bind fun r71 =>
 ifP (r71.2 = (dw r63.2)) <|
 (bo P .add 101 (.tmp 74) (.const (.int .u32 1)) r71.1 (.int .u32 1) (dw r63.2)).bind fun r72 =>
 ifP (r72.2 = (dw r63.2)) <|
 (ix P 9 (Go.Value.string { data := #[48, 48, 48, 49, 48, 50, 48, 51, 48, 52, 48, 53, 48, 54, 48, 55, 48, 56, 48, 57, 49, 48, 49, 49, 49, 50, 49, 51, 49, 52, 49, 53, 49, 54, 49, 55, 49, 56, 49, 57, 50, 48, 50, 49, 50, 50, 50, 51, 50, 52, 50, 53, 50, 54, 50, 55, 50, 56, 50, 57, 51, 48, 51, 49, 51, 50, 51, 51, 51, 52, 51, 53, 51, 54, 51, 55, 51, 56, 51, 57, 52, 48, 52, 49, 52, 50, 52, 51, 52, 52, 52, 53, 52, 54, 52, 55, 52, 56, 52, 57, 53, 48, 53, 49, 53, 50, 53, 51, 53, 52, 53, 53, 53, 54, 53, 55, 53, 56, 53, 57, 54, 48, 54, 49, 54, 50, 54, 51, 54, 52, 54, 53, 54, 54, 54, 55, 54, 56, 54, 57, 55, 48, 55, 49, 55, 50, 55, 51, 55, 52, 55, 53, 55, 54, 55, 55, 55, 56, 55, 57, 56, 48, 56, 49, 56, 50, 56, 51, 56, 52, 56, 53, 56, 54, 56, 55, 56, 56, 56, 57, 57, 48, 57, 49, 57, 50, 57, 51, 57, 52, 57, 53, 57, 54, 57, 55, 57, 56, 57, 57] }) r72.1 (dw r63.2)).bind fun r73 =>
 ifP (r73.2 = (dw r63.2)) <|
 (vl r31.1 (dw r63.2)).bind fun r74 =>
 ifP (r74.2 = (dw r63.2)) <|
 (ix P 9 (Go.Value.string { data := #[48, 48, 48, 49, 48, 50, 48, 51, 48, 52, 48, 53, 48, 54, 48, 55, 48, 56, 48, 57, 49, 48, 49, 49, 49, 50, 49, 51, 49, 52, 49, 53, 49, 54, 49, 55, 49, 56, 49, 57, 50, 48, 50, 49, 50, 50, 50, 51, 50, 52, 50, 53, 50, 54, 50, 55, 50, 56, 50, 57, 51, 48, 51, 49, 51, 50, 51, 51, 51, 52, 51, 53, 51, 54, 51, 55, 51, 56, 51, 57, 52, 48, 52, 49, 52, 50, 52, 51, 52, 52, 52, 53, 52, 54, 52, 55, 52, 56, 52, 57, 53, 48, 53, 49, 53, 50, 53, 51, 53, 52, 53, 53, 53, 54, 53, 55, 53, 56, 53, 57, 54, 48, 54, 49, 54, 50, 54, 51, 54, 52, 54, 53, 54, 54, 54, 55, 54, 56, 54, 57, 55, 48, 55, 49, 55, 50, 55, 51, 55, 52, 55, 53, 55, 54, 55, 55, 55, 56, 55, 57, 56, 48, 56, 49, 56, 50, 56, 51, 56, 52, 56, 53, 56, 54, 56, 55, 56, 56, 56, 57, 57, 48, 57, 49, 57, 50, 57, 51, 57, 52, 57, 53, 57, 54, 57, 55, 57, 56, 57, 57] }) r74.1 (dw r63.2)).bind fun r75 =>
 ifP (r75.2 = (dw r63.2)) <|
 (ia P 44 r65.1 r67.1 (dw r63.2)).bind fun r76 =>
 ifP (r76.2 = (dw r63.2)) <|
 (st P 5 r76.1 r73.1 (dw r63.2)).bind fun r77 =>
 ifP (True ∧ ix P 9 (Go.Value.string { data := #[48, 48, 48, 49, 48, 50, 48, 51, 48, 52, 48, 53, 48, 54, 48, 55, 48, 56, 48, 57, 49, 48, 49, 49, 49, 50, 49, 51, 49, 52, 49, 53, 49, 54, 49, 55, 49, 56, 49, 57, 50, 48, 50, 49, 50, 50, 50, 51, 50, 52, 50, 53, 50, 54, 50, 55, 50, 56, 50, 57, 51, 48, 51, 49, 51, 50, 51, 51, 51, 52, 51, 53, 51, 54, 51, 55, 51, 56, 51, 57, 52, 48, 52, 49, 52, 50, 52, 51, 52, 52, 52, 53, 52, 54, 52, 55, 52, 56, 52, 57, 53, 48, 53, 49, 53, 50, 53, 51, 53, 52, 53, 53, 53, 54, 53, 55, 53, 56, 53, 57, 54, 48, 54, 49, 54, 50, 54, 51, 54, 52, 54, 53, 54, 54, 54, 55, 54, 56, 54, 57, 55, 48, 55, 49, 55, 50, 55, 51, 55, 52, 55, 53, 55, 54, 55, 55, 55, 56, 55, 57, 56, 48, 56, 49, 56, 50, 56, 51, 56, 52, 56, 53, 56, 54, 56, 55, 56, 56, 56, 57, 57, 48, 57, 49, 57, 50, 57, 51, 57, 52, 57, 53, 57, 54, 57, 55, 57, 56, 57, 57] }) r74.1 r77.2 = some (r75.1, r77.2) ∧ True ∧ True ∧ bo P .sub 3 (.tmp 72) (.const (.int .i64 6)) r69.1 (.int .i64 6) r77.2 = some (r70.1, r77.2) ∧ True ∧ True) <|
 (ia P 44 r68.1 r70.1 r77.2).bind fun r78 =>
 ifP (r78.2 = r77.2) <|
 (st P 5 r78.1 r75.1 r77.2).bind fun r79 =>
 ifP (True ∧ True ∧ True ∧ True ∧ True ∧ True ∧ True ∧ True) <|
 (vl (e 0) (dw r79.2)).bind fun r81 =>
 ifP (r81.2 = (dw r79.2)) <|
 (vl (e 4) (dw r79.2)).bind fun r82 =>
 ifP (r82.2 = (dw r79.2)) <|
 (bo P .sub 3 (.tmp 82) (.const (.int .i64 7)) r82.1 (.int .i64 7) (dw r79.2)).bind fun r83 =>
 ifP (r83.2 = (dw r79.2)) <|
 (vl (e 0) (dw r79.2)).bind fun r84 =>
 ifP (r84.2 = (dw r79.2)) <|
 (vl (e 4) (dw r79.2)).bind fun r85 =>
 ifP (r85.2 = (dw r79.2)) <|
 (bo P .sub 3 (.tmp 85) (.const (.int .i64 8)) r85.1 (.int .i64 8) (dw r79.2)).bind fun r86 =>
 ifP (r86.2 = (dw r79.2)) <|
 (vl r30.1 (dw r79.2)).bind fun r87 =>
 ifP (r87.2 = (dw r79.2)) <|
 (bo P .add 101 (.tmp 87) (.const (.int .u32 1)) r87.1 (.int .u32 1) (dw r79.2)).bind fun r88 =>
 ifP (r88.2 = (dw r79.2)) <|
 (ix P 9 (Go.Value.string { data := #[48, 48, 48, 49, 48, 50, 48, 51, 48, 52, 48, 53, 48, 54, 48, 55, 48, 56, 48, 57, 49, 48, 49, 49, 49, 50, 49, 51, 49, 52, 49, 53, 49, 54, 49, 55, 49, 56, 49, 57, 50, 48, 50, 49, 50, 50, 50, 51, 50, 52, 50, 53, 50, 54, 50, 55, 50, 56, 50, 57, 51, 48, 51, 49, 51, 50, 51, 51, 51, 52, 51, 53, 51, 54, 51, 55, 51, 56, 51, 57, 52, 48, 52, 49, 52, 50, 52, 51, 52, 52, 52, 53, 52, 54, 52, 55, 52, 56, 52, 57, 53, 48, 53, 49, 53, 50, 53, 51, 53, 52, 53, 53, 53, 54, 53, 55, 53, 56, 53, 57, 54, 48, 54, 49, 54, 50, 54, 51, 54, 52, 54, 53, 54, 54, 54, 55, 54, 56, 54, 57, 55, 48, 55, 49, 55, 50, 55, 51, 55, 52, 55, 53, 55, 54, 55, 55, 55, 56, 55, 57, 56, 48, 56, 49, 56, 50, 56, 51, 56, 52, 56, 53, 56, 54, 56, 55, 56, 56, 56, 57, 57, 48, 57, 49, 57, 50, 57, 51, 57, 52, 57, 53, 57, 54, 57, 55, 57, 56, 57, 57] }) r88.1 (dw r79.2)).bind fun r89 =>
 ifP (r89.2 = (dw r79.2)) <|
 (vl r30.1 (dw r79.2)).bind fun r90 =>
 ifP (r90.2 = (dw r79.2)) <|
 (ix P 9 (Go.Value.string { data := #[48, 48, 48, 49, 48, 50, 48, 51, 48, 52, 48, 53, 48, 54, 48, 55, 48, 56, 48, 57, 49, 48, 49, 49, 49, 50, 49, 51, 49, 52, 49, 53, 49, 54, 49, 55, 49, 56, 49, 57, 50, 48, 50, 49, 50, 50, 50, 51, 50, 52, 50, 53, 50, 54, 50, 55, 50, 56, 50, 57, 51, 48, 51, 49, 51, 50, 51, 51, 51, 52, 51, 53, 51, 54, 51, 55, 51, 56, 51, 57, 52, 48, 52, 49, 52, 50, 52, 51, 52, 52, 52, 53, 52, 54, 52, 55, 52, 56, 52, 57, 53, 48, 53, 49, 53, 50, 53, 51, 53, 52, 53, 53, 53, 54, 53, 55, 53, 56, 53, 57, 54, 48, 54, 49, 54, 50, 54, 51, 54, 52, 54, 53, 54, 54, 54, 55, 54, 56, 54, 57, 55, 48, 55, 49, 55, 50, 55, 51, 55, 52, 55, 53, 55, 54, 55, 55, 55, 56, 55, 57, 56, 48, 56, 49, 56, 50, 56, 51, 56, 52, 56, 53, 56, 54, 56, 55, 56, 56, 56, 57, 57, 48, 57, 49, 57, 50, 57, 51, 57, 52, 57, 53, 57, 54, 57, 55, 57, 56, 57, 57] }) r90.1 (dw r79.2)).bind fun r91 =>
 ifP (r91.2 = (dw r79.2)) <|
 (ia P 44 r81.1 r83.1 (dw r79.2)).bind fun r92 =>
 ifP (r92.2 = (dw r79.2)) <|
 (st P 5 r92.1 r89.1 (dw r79.2)).bind fun r93 =>
 ifP (True ∧ ix P 9 (Go.Value.string { data := #[48, 48, 48, 49, 48, 50, 48, 51, 48, 52, 48, 53, 48, 54, 48, 55, 48, 56, 48, 57, 49, 48, 49, 49, 49, 50, 49, 51, 49, 52, 49, 53, 49, 54, 49, 55, 49, 56, 49, 57, 50, 48, 50, 49, 50, 50, 50, 51, 50, 52, 50, 53, 50, 54, 50, 55, 50, 56, 50, 57, 51, 48, 51, 49, 51, 50, 51, 51, 51, 52, 51, 53, 51, 54, 51, 55, 51, 56, 51, 57, 52, 48, 52, 49, 52, 50, 52, 51, 52, 52, 52, 53, 52, 54, 52, 55, 52, 56, 52, 57, 53, 48, 53, 49, 53, 50, 53, 51, 53, 52, 53, 53, 53, 54, 53, 55, 53, 56, 53, 57, 54, 48, 54, 49, 54, 50, 54, 51, 54, 52, 54, 53, 54, 54, 54, 55, 54, 56, 54, 57, 55, 48, 55, 49, 55, 50, 55, 51, 55, 52, 55, 53, 55, 54, 55, 55, 55, 56, 55, 57, 56, 48, 56, 49, 56, 50, 56, 51, 56, 52, 56, 53, 56, 54, 56, 55, 56, 56, 56, 57, 57, 48, 57, 49, 57, 50, 57, 51, 57, 52, 57, 53, 57, 54, 57, 55, 57, 56, 57, 57] }) r90.1 r93.2 = some (r91.1, r93.2) ∧ True ∧ True ∧ bo P .sub 3 (.tmp 85) (.const (.int .i64 8)) r85.1 (.int .i64 8) r93.2 = some (r86.1, r93.2) ∧ True ∧ True) <|
 (ia P 44 r84.1 r86.1 r93.2).bind fun r94 =>
 ifP (r94.2 = r93.2) <|
 (st P 5 r94.1 r91.1 r93.2).bind fun r95 =>
 ifP (True ∧ True ∧ True ∧ True ∧ True ∧ True ∧ True ∧ True) <|
 (vl (e 4) r95.2).bind fun r96 =>
 (bo P .sub 3 (.tmp 94) (.const (.int .i64 8)) r96.1 (.int .i64 8) r96.2).bind fun r97 =>
 (vl r97.1 r97.2).bind fun r98 =>
 internal_strconv_formatBase10_l1 (ups e [(19, r1.1), (20, r2.1), (21, r3.1), (22, r4.1), (23, r5.1), (5, r6.1), (24, r7.1), (25, r8.1), (1, r9.1), (26, r10.1), (27, r11.1), (28, r12.1), (29, r13.1), (6, r14.1), (7, r15.1), (30, r16.1), (31, r17.1), (32, r18.1), (33, r19.1), (34, r20.1), (35, r21.1), (8, r22.1), (9, r23.1), (36, r24.1), (37, r25.1), (38, r26.1), (39, r27.1), (40, r28.1), (41, r29.1), (10, r30.1), (11, r31.1), (42, r33.1), (43, r34.1), (44, r35.1), (45, r36.1), (46, r37.1), (47, r38.1), (48, r39.1), (49, r40.1), (50, r41.1), (51, r42.1), (52, r43.1), (53, r44.1), (54, r46.1), (55, r49.1), (56, r50.1), (57, r51.1), (58, r52.1), (59, r53.1), (60, r54.1), (61, r55.1), (62, r56.1), (63, r57.1), (64, r58.1), (65, r59.1), (66, r60.1), (67, r62.1), (68, r65.1), (69, r66.1), (70, r67.1), (71, r68.1), (72, r69.1), (73, r70.1), (74, r71.1), (75, r72.1), (76, r73.1), (77, r74.1), (78, r75.1), (79, r76.1), (80, r78.1), (81, r81.1), (82, r82.1), (83, r83.1), (84, r84.1), (85, r85.1), (86, r86.1), (87, r87.1), (88, r88.1), (89, r89.1), (90, r90.1), (91, r91.1), (92, r92.1), (93, r94.1), (94, r96.1), (95, r97.1), (4, r98.1)]) r98.2) (
 (vl (e 1) r2.2).bind fun r99 =>
 (cv P 84 101 r99.1 r99.2).bind fun r100 =>
 (vl r100.1 r100.2).bind fun r101 =>
 (vl (e 4) r101.2).bind fun r102 =>
 (bo P .geq 3 (.tmp 98) (.const (.int .i64 4)) r102.1 (.int .i64 4) r102.2).bind fun r103 =>
 cnd r103.1 (
 (vl r101.1 r103.2).bind fun r104 =>
 (bo P .rem 101 (.tmp 100) (.const (.int .u32 10000)) r104.1 (.int .u32 10000) r104.2).bind fun r105 =>
 (vl r105.1 r105.2).bind fun r106 =>
 (vl r101.1 r106.2).bind fun r107 =>
 (bo P .quo 101 (.tmp 102) (.const (.int .u32 10000)) r107.1 (.int .u32 10000) r107.2).bind fun r108 =>
 (vl r108.1 r108.2).bind fun r109 =>
 (vl r106.1 r109.2).bind fun r110 =>
 (bo P .quo 101 (.tmp 104) (.const (.int .u32 100)) r110.1 (.int .u32 100) r110.2).bind fun r111 =>
 (bo P .mul 101 (.tmp 105) (.const (.int .u32 2)) r111.1 (.int .u32 2) r111.2).bind fun r112 =>
 (vl r106.1 r112.2).bind fun r113 =>
 (bo P .rem 101 (.tmp 107) (.const (.int .u32 100)) r113.1 (.int .u32 100) r113.2).bind fun r114 =>
 (bo P .mul 101 (.tmp 108) (.const (.int .u32 2)) r114.1 (.int .u32 2) r114.2).bind fun r115 =>
 (vl r112.1 r115.2).bind fun r116 =>
 (vl r115.1 r116.2).bind fun r117 =>
 (vl (e 0) (dw r117.2)).bind fun r119 =>
 ifP (r119.2 = (dw r117.2)) <|
 (vl (e 4) (dw r117.2)).bind fun r120 =>
 ifP (r120.2 = (dw r117.2)) <|
 (bo P .sub 3 (.tmp 111) (.const (.int .i64 1)) r120.1 (.int .i64 1) (dw r117.2)).bind fun r121 =>
 ifP (r121.2 = (dw r117.2)) <|
 (vl (e 0) (dw r117.2)).bind fun r122 =>
 ifP (r122.2 = (dw r117.2)) <|
 (vl (e 4) (dw r117.2)).bind fun r123 =>
 ifP (r123.2 = (dw r117.2)) <|
 (bo P .sub 3 (.tmp 114) (.const (.int .i64 2)) r123.1 (.int .i64 2) (dw r117.2)).bind fun r124 =>
 ifP (r124.2 = (dw r117.2)) <|
 (vl r117.1 (dw r117.2)).bind fun r125 =>
 ifP (r125.2 = (dw r117.2)) <|
 (bo P .add 101 (.tmp 116) (.const (.int .u32 1)) r125.1 (.int .u32 1) (dw r117.2)).bind fun r126 =>
 ifP (r126.2 = (dw r117.2)) <|
 (ix P 9 (Go.Value.string { data := #[48, 48, 48, 49, 48, 50, 48, 51, 48, 52, 48, 53, 48, 54, 48, 55, 48, 56, 48, 57, 49, 48, 49, 49, 49, 50, 49, 51, 49, 52, 49, 53, 49, 54, 49, 55, 49, 56, 49, 57, 50, 48, 50, 49, 50, 50, 50, 51, 50, 52, 50, 53, 50, 54, 50, 55, 50, 56, 50, 57, 51, 48, 51, 49, 51, 50, 51, 51, 51, 52, 51, 53, 51, 54, 51, 55, 51, 56, 51, 57, 52, 48, 52, 49, 52, 50, 52, 51, 52, 52, 52, 53, 52, 54, 52, 55, 52, 56, 52, 57, 53, 48, 53, 49, 53, 50, 53, 51, 53, 52, 53, 53, 53, 54, 53, 55, 53, 56, 53, 57, 54, 48, 54, 49, 54, 50, 54, 51, 54, 52, 54, 53, 54, 54, 54, 55, 54, 56, 54, 57, 55, 48, 55, 49, 55, 50, 55, 51, 55, 52, 55, 53, 55, 54, 55, 55, 55, 56, 55, 57, 56, 48, 56, 49, 56, 50, 56, 51, 56, 52, 56, 53, 56, 54, 56, 55, 56, 56, 56, 57, 57, 48, 57, 49, 57, 50, 57, 51, 57, 52, 57, 53, 57, 54, 57, 55, 57, 56, 57, 57] }) r126.1 (dw r117.2)).bind fun r127 =>
 ifP (r127.2 = (dw r117.2)) <|
 (vl r117.1 (dw r117.2)).bind fun r128 =>
 ifP (r128.2 = (dw r117.2)) <|
 (ix P 9 (Go.Value.string { data := #[48, 48, 48, 49, 48, 50, 48, 51, 48, 52, 48, 53, 48, 54, 48, 55, 48, 56, 48, 57, 49, 48, 49, 49, 49, 50, 49, 51, 49, 52, 49, 53, 49, 54, 49, 55, 49, 56, 49, 57, 50, 48, 50, 49, 50, 50, 50, 51, 50, 52, 50, 53, 50, 54, 50, 55, 50, 56, 50, 57, 51, 48, 51, 49, 51, 50, 51, 51, 51, 52, 51, 53, 51, 54, 51, 55, 51, 56, 51, 57, 52, 48, 52, 49, 52, 50, 52, 51, 52, 52, 52, 53, 52, 54, 52, 55, 52, 56, 52, 57, 53, 48, 53, 49, 53, 50, 53, 51, 53, 52, 53, 53, 53, 54, 53, 55, 53, 56, 53, 57, 54, 48, 54, 49, 54, 50, 54, 51, 54, 52, 54, 53, 54, 54, 54, 55, 54, 56, 54, 57, 55, 48, 55, 49, 55, 50, 55, 51, 55, 52, 55, 53, 55, 54, 55, 55, 55, 56, 55, 57, 56, 48, 56, 49, 56, 50, 56, 51, 56, 52, 56, 53, 56, 54, 56, 55, 56, 56, 56, 57, 57, 48, 57, 49, 57, 50, 57, 51, 57, 52, 57, 53, 57, 54, 57, 55, 57, 56, 57, 57] }) r128.1 (dw r117.2)).bind fun r129 =>
 ifP (r129.2 = (dw r117.2)) <|
 (ia P 44 r119.1 r121.1 (dw r117.2)).bind fun r130 =>
 ifP (r130.2 = (dw r117.2)) <|
 (st P 5 r130.1 r127.1 (dw r117.2)).bind fun r131 =>
 ifP (True ∧ ix P 9 (Go.Value.string { data := #[48, 48, 48, 49, 48, 50, 48, 51, 48, 52, 48, 53, 48, 54, 48, 55, 48, 56, 48, 57, 49, 48, 49, 49, 49, 50, 49, 51, 49, 52, 49, 53, 49, 54, 49, 55, 49, 56, 49, 57, 50, 48, 50, 49, 50, 50, 50, 51, 50, 52, 50, 53, 50, 54, 50, 55, 50, 56, 50, 57, 51, 48, 51, 49, 51, 50, 51, 51, 51, 52, 51, 53, 51, 54, 51, 55, 51, 56, 51, 57, 52, 48, 52, 49, 52, 50, 52, 51, 52, 52, 52, 53, 52, 54, 52, 55, 52, 56, 52, 57, 53, 48, 53, 49, 53, 50, 53, 51, 53, 52, 53, 53, 53, 54, 53, 55, 53, 56, 53, 57, 54, 48, 54, 49, 54, 50, 54, 51, 54, 52, 54, 53, 54, 54, 54, 55, 54, 56, 54, 57, 55, 48, 55, 49, 55, 50, 55, 51, 55, 52, 55, 53, 55, 54, 55, 55, 55, 56, 55, 57, 56, 48, 56, 49, 56, 50, 56, 51, 56, 52, 56, 53, 56, 54, 56, 55, 56, 56, 56, 57, 57, 48, 57, 49, 57, 50, 57, 51, 57, 52, 57, 53, 57, 54, 57, 55, 57, 56, 57, 57] }) r128.1 r131.2 = some (r129.1, r131.2) ∧ True ∧ True ∧ bo P .sub 3 (.tmp 114) (.const (.int .i64 2)) r123.1 (.int .i64 2) r131.2 = some (r124.1, r131.2) ∧ True ∧ True) <|
 (ia P 44 r122.1 r124.1 r131.2).bind fun r132 =>
 ifP (r132.2 = r131.2) <|
 (st P 5 r132.1 r129.1 r131.2).bind fun r133 =>
 ifP (True ∧ True ∧ True ∧ True ∧ True ∧ True ∧ True ∧ True) <|
 (vl (e 0) (dw r133.2)).bind fun r135 =>
 ifP (r135.2 = (dw r133.2)) <|
 (vl (e 4) (dw r133.2)).bind fun r136 =>
 ifP (r136.2 = (dw r133.2)) <|
 (bo P .sub 3 (.tmp 124) (.const (.int .i64 3)) r136.1 (.int .i64 3) (dw r133.2)).bind fun r137 =>
 ifP (r137.2 = (dw r133.2)) <|
 (vl (e 0) (dw r133.2)).bind fun r138 =>
 ifP (r138.2 = (dw r133.2)) <|
 (vl (e 4) (dw r133.2)).bind fun r139 =>
 ifP (r139.2 = (dw r133.2)) <|
 (bo P .sub 3 (.tmp 127) (.const (.int .i64 4)) r139.1 (.int .i64 4) (dw r133.2)).bind fun r140 =>
 ifP (r140.2 = (dw r133.2)) <|
 (vl r116.1 (dw r133.2)).bind fun r141 =>
 ifP (r141.2 = (dw r133.2)) <|
 (bo P .add 101 (.tmp 129) (.const (.int .u32 1)) r141.1 (.int .u32 1) (dw r133.2)).bind fun r142 =>
 ifP (r142.2 = (dw r133.2)) <|
 (ix P 9 (Go.Value.string { data := #[48, 48, 48, 49, 48, 50, 48, 51, 48, 52, 48, 53, 48, 54, 48, 55, 48, 56, 48, 57, 49, 48, 49, 49, 49, 50, 49, 51, 49, 52, 49, 53, 49, 54, 49, 55, 49, 56, 49, 57, 50, 48, 50, 49, 50, 50, 50, 51, 50, 52, 50, 53, 50, 54, 50, 55, 50, 56, 50, 57, 51, 48, 51, 49, 51, 50, 51, 51, 51, 52, 51, 53, 51, 54, 51, 55, 51, 56, 51, 57, 52, 48, 52, 49, 52, 50, 52, 51, 52, 52, 52, 53, 52, 54, 52, 55, 52, 56, 52, 57, 53, 48, 53, 49, 53, 50, 53, 51, 53, 52, 53, 53, 53, 54, 53, 55, 53, 56, 53, 57, 54, 48, 54, 49, 54, 50, 54, 51, 54, 52, 54, 53, 54, 54, 54, 55, 54, 56, 54, 57, 55, 48, 55, 49, 55, 50, 55, 51, 55, 52, 55, 53, 55, 54, 55, 55, 55, 56, 55, 57, 56, 48, 56, 49, 56, 50, 56, 51, 56, 52, 56, 53, 56, 54, 56, 55, 56, 56, 56, 57, 57, 48, 57, 49, 57, 50, 57, 51, 57, 52, 57, 53, 57, 54, 57, 55, 57, 56, 57, 57] }) r142.1 (dw r133.2)).bind fun r143 =>
 ifP (r143.2 = (dw r133.2)) <|
 (vl r116.1 (dw r133.2)).bind fun r144 =>
 ifP (r144.2 = (dw r133.2)) <|
 (ix P 9 (Go.Value.string { data := #[48, 48, 48, 49, 48, 50, 48, 51, 48, 52, 48, 53, 48, 54, 48, 55, 48, 56, 48, 57, 49, 48, 49, 49, 49, 50, 49, 51, 49, 52, 49, 53, 49, 54, 49, 55, 49, 56, 49, 57, 50, 48, 50, 49, 50, 50, 50, 51, 50, 52, 50, 53, 50, 54, 50, 55, 50, 56, 50, 57, 51, 48, 51, 49, 51, 50, 51, 51, 51, 52, 51, 53, 51, 54, 51, 55, 51, 56, 51, 57, 52, 48, 52, 49, 52, 50, 52, 51, 52, 52, 52, 53, 52, 54, 52, 55, 52, 56, 52, 57, 53, 48, 53, 49, 53, 50, 53, 51, 53, 52, 53, 53, 53, 54, 53, 55, 53, 56, 53, 57, 54, 48, 54, 49, 54, 50, 54, 51, 54, 52, 54, 53, 54, 54, 54, 55, 54, 56, 54, 57, 55, 48, 55, 49, 55, 50, 55, 51, 55, 52, 55, 53, 55, 54, 55, 55, 55, 56, 55, 57, 56, 48, 56, 49, 56, 50, 56, 51, 56, 52, 56, 53, 56, 54, 56, 55, 56, 56, 56, 57, 57, 48, 57, 49, 57, 50, 57, 51, 57, 52, 57, 53, 57, 54, 57, 55, 57, 56, 57, 57] }) r144.1 (dw r133.2)).bind fun r145 =>
 ifP (r145.2 = (dw r133.2)) <|
 (ia P 44 r135.1 r137.1 (dw r133.2)).bind fun r146 =>
 ifP (r146.2 = (dw r133.2)) <|
 (st P 5 r146.1 r143.1 (dw r133.2)).bind fun r147 =>
 ifP (True ∧ ix P 9 (Go.Value.string { data := #[48, 48, 48, 49, 48, 50, 48, 51, 48, 52, 48, 53, 48, 54, 48, 55, 48, 56, 48, 57, 49, 48, 49, 49, 49, 50, 49, 51, 49, 52, 49, 53, 49, 54, 49, 55, 49, 56, 49, 57, 50, 48, 50, 49, 50, 50, 50, 51, 50, 52, 50, 53, 50, 54, 50, 55, 50, 56, 50, 57, 51, 48, 51, 49, 51, 50, 51, 51, 51, 52, 51, 53, 51, 54, 51, 55, 51, 56, 51, 57, 52, 48, 52, 49, 52, 50, 52, 51, 52, 52, 52, 53, 52, 54, 52, 55, 52, 56, 52, 57, 53, 48, 53, 49, 53, 50, 53, 51, 53, 52, 53, 53, 53, 54, 53, 55, 53, 56, 53, 57, 54, 48, 54, 49, 54, 50, 54, 51, 54, 52, 54, 53, 54, 54, 54, 55, 54, 56, 54, 57, 55, 48, 55, 49, 55, 50, 55, 51, 55, 52, 55, 53, 55, 54, 55, 55, 55, 56, 55, 57, 56, 48, 56, 49, 56, 50, 56, 51, 56, 52, 56, 53, 56, 54, 56, 55, 56, 56, 56, 57, 57, 48, 57, 49, 57, 50, 57, 51, 57, 52, 57, 53, 57, 54, 57, 55, 57, 56, 57, 57] }) r144.1 r147.2 = some (r145.1, r147.2) ∧ True ∧ True ∧ bo P .sub 3 (.tmp 127) (.const (.int .i64 4)) r139.1 (.int .i64 4) r147.2 = some (r140.1, r147.2) ∧ True ∧ True) <|
 (ia P 44 r138.1 r140.1 r147.2).bind fun r148 =>
 ifP (r148.2 = r147.2) <|
 (st P 5 r148.1 r145.1 r147.2).bind fun r149 =>
 ifP (True ∧ True ∧ True ∧ True ∧ True ∧ True ∧ True ∧ True) <|
 (vl (e 4) r149.2).bind fun r150 =>
 (bo P .sub 3 (.tmp 136) (.const (.int .i64 4)) r150.1 (.int .i64 4) r150.2).bind fun r151 =>
 (vl r151.1 r151.2).bind fun r152 =>
 internal_strconv_formatBase10_j1 (ups e [(19, r1.1), (20, r2.1), (96, r99.1), (97, r100.1), (12, r101.1), (98, r102.1), (99, r103.1), (100, r104.1), (101, r105.1), (13, r106.1), (102, r107.1), (103, r108.1), (12, r109.1), (104, r110.1), (105, r111.1), (106, r112.1), (107, r113.1), (108, r114.1), (109, r115.1), (14, r116.1), (15, r117.1), (110, r119.1), (111, r120.1), (112, r121.1), (113, r122.1), (114, r123.1), (115, r124.1), (116, r125.1), (117, r126.1), (118, r127.1), (119, r128.1), (120, r129.1), (121, r130.1), (122, r132.1), (123, r135.1), (124, r136.1), (125, r137.1), (126, r138.1), (127, r139.1), (128, r140.1), (129, r141.1), (130, r142.1), (131, r143.1), (132, r144.1), (133, r145.1), (134, r146.1), (135, r148.1), (136, r150.1), (137, r151.1), (4, r152.1)]) r152.2) (
 internal_strconv_formatBase10_j1 (ups e [(19, r1.1), (20, r2.1), (96, r99.1), (97, r100.1), (12, r101.1), (98, r102.1), (99, r103.1)]) r103.2)) := (exC_loop P (EV P) 60 167 (cA (cA (cA (cB (bodyOf P 60))))) e w (kBlock 0 (kSeq P (EV P) 60 167 (cB (cB (bodyOf P 60))) (kFn P (fnOf P 60))))).trans (by kernel_rfl)
theorem internal_strconv_formatBase10_j1_eq (e : Env) (w : World) : internal_strconv_formatBase10_j1 e w =
 (vl (e 4) w).bind fun r1 =>
 (bo P .geq 3 (.tmp 138) (.const (.int .i64 2)) r1.1 (.int .i64 2) r1.2).bind fun r2 =>
 cnd r2.1 (
 (vl (e 12) r2.2).bind fun r3 =>
 (bo P .rem 101 (.tmp 140) (.const (.int .u32 100)) r3.1 (.int .u32 100) r3.2).bind fun r4 =>
 (bo P .mul 101 (.tmp 141) (.const (.int .u32 2)) r4.1 (.int .u32 2) r4.2).bind fun r5 =>
 (vl r5.1 r5.2).bind fun r6 =>
 (vl (e 12) r6.2).bind fun r7 =>
 (bo P .quo 101 (.tmp 143) (.const (.int .u32 100)) r7.1 (.int .u32 100) r7.2).bind fun r8 =>
 (vl r8.1 r8.2).bind fun r9 =>
 (vl (e 0) (dw r9.2)).bind fun r11 =>
 ifP (r11.2 = (dw r9.2)) <|
 (vl (e 4) (dw r9.2)).bind fun r12 =>
 ifP (r12.2 = (dw r9.2)) <|
 (bo P .sub 3 (.tmp 146) (.const (.int .i64 1)) r12.1 (.int .i64 1) (dw r9.2)).bind fun r13 =>
 ifP (r13.2 = (dw r9.2)) <|
 (vl (e 0) (dw r9.2)).bind fun r14 =>
 ifP (r14.2 = (dw r9.2)) <|
 (vl (e 4) (dw r9.2)).bind fun r15 =>
 ifP (r15.2 = (dw r9.2)) <|
 (bo P .sub 3 (.tmp 149) (.const (.int .i64 2)) r15.1 (.int .i64 2) (dw r9.2)).bind fun r16 =>
 ifP (r16.2 = (dw r9.2)) <|
 (vl r6.1 (dw r9.2)).bind fun r17 =>
 ifP (r17.2 = (dw r9.2)) <|
 (bo P .add 101 (.tmp 151) (.const (.int .u32 1)) r17.1 (.int .u32 1) (dw r9.2)).bind fun r18 =>
 ifP (r18.2 = (dw r9.2)) <|
 (ix P 9 (Go.Value.string { data := #[48, 48, 48, 49, 48, 50, 48, 51, 48, 52, 48, 53, 48, 54, 48, 55, 48, 56, 48, 57, 49, 48, 49, 49, 49, 50, 49, 51, 49, 52, 49, 53, 49, 54, 49, 55, 49, 56, 49, 57, 50, 48, 50, 49, 50, 50, 50, 51, 50, 52, 50, 53, 50, 54, 50, 55, 50, 56, 50, 57, 51, 48, 51, 49, 51, 50, 51, 51, 51, 52, 51, 53, 51, 54, 51, 55, 51, 56, 51, 57, 52, 48, 52, 49, 52, 50, 52, 51, 52, 52, 52, 53, 52, 54, 52, 55, 52, 56, 52, 57, 53, 48, 53, 49, 53, 50, 53, 51, 53, 52, 53, 53, 53, 54, 53, 55, 53, 56, 53, 57, 54, 48, 54, 49, 54, 50, 54, 51, 54, 52, 54, 53, 54, 54, 54, 55, 54, 56, 54, 57, 55, 48, 55, 49, 55, 50, 55, 51, 55, 52, 55, 53, 55, 54, 55, 55, 55, 56, 55, 57, 56, 48, 56, 49, 56, 50, 56, 51, 56, 52, 56, 53, 56, 54, 56, 55, 56, 56, 56, 57, 57, 48, 57, 49, 57, 50, 57, 51, 57, 52, 57, 53, 57, 54, 57, 55, 57, 56, 57, 57] }) r18.1 (dw r9.2)).bind fun r19 =>
 ifP (r19.2 = (dw r9.2)) <|
 (vl r6.1 (dw r9.2)).bind fun r20 =>
 ifP (r20.2 = (dw r9.2)) <|
 (ix P 9 (Go.Value.string { data := #[48, 48, 48, 49, 48, 50, 48, 51, 48, 52, 48, 53, 48, 54, 48, 55, 48, 56, 48, 57, 49, 48, 49, 49, 49, 50, 49, 51, 49, 52, 49, 53, 49, 54, 49, 55, 49, 56, 49, 57, 50, 48, 50, 49, 50, 50, 50, 51, 50, 52, 50, 53, 50, 54, 50, 55, 50, 56, 50, 57, 51, 48, 51, 49, 51, 50, 51, 51, 51, 52, 51, 53, 51, 54, 51, 55, 51, 56, 51, 57, 52, 48, 52, 49, 52, 50, 52, 51, 52, 52, 52, 53, 52, 54, 52, 55, 52, 56, 52, 57, 53, 48, 53, 49, 53, 50, 53, 51, 53, 52, 53, 53, 53, 54, 53, 55, 53, 56, 53, 57, 54, 48, 54, 49, 54, 50, 54, 51, 54, 52, 54, 53, 54, 54, 54, 55, 54, 56, 54, 57, 55, 48, 55, 49, 55, 50, 55, 51, 55, 52, 55, 53, 55, 54, 55, 55, 55, 56, 55, 57, 56, 48, 56, 49, 56, 50, 56, 51, 56, 52, 56, 53, 56, 54, 56, 55, 56, 56, 56, 57, 57, 48, 57, 49, 57, 50, 57, 51, 57, 52, 57, 53, 57, 54, 57, 55, 57, 56, 57, 57] }) r20.1 (dw r9.2)).bind fun r21 =>
 ifP (r21.2 = (dw r9.2)) <|
 (ia P 44 r11.1 r13.1 (dw r9.2)).bind fun r22 =>
 ifP (r22.2 = (dw r9.2)) <|
 (st P 5 r22.1 r19.1 (dw r9.2)).bind fun r23 =>
 ifP (True ∧ ix P 9 (Go.Value.string { data := #[48, 48, 48, 49, 48, 50, 48, 51, 48, 52, 48, 53, 48, 54, 48, 55, 48, 56, 48, 57, 49, 48, 49, 49, 49, 50, 49, 51, 49, 52, 49, 53, 49, 54, 49, 55, 49, 56, 49, 57, 50, 48, 50, 49, 50, 50, 50, 51, 50, 52, 50, 53, 50, 54, 50, 55, 50, 56, 50, 57, 51, 48, 51, 49, 51, 50, 51, 51, 51, 52, 51, 53, 51, 54, 51, 55, 51, 56, 51, 57, 52, 48, 52, 49, 52, 50, 52, 51, 52, 52, 52, 53, 52, 54, 52, 55, 52, 56, 52, 57, 53, 48, 53, 49, 53, 50, 53, 51, 53, 52, 53, 53, 53, 54, 53, 55, 53, 56, 53, 57, 54, 48, 54, 49, 54, 50, 54, 51, 54, 52, 54, 53, 54, 54, 54, 55, 54, 56, 54, 57, 55, 48, 55, 49, 55, 50, 55, 51, 55, 52, 55, 53, 55, 54, 55, 55, 55, 56, 55, 57, 56, 48, 56, 49, 56, 50, 56, 51, 56, 52, 56, 53, 56, 54, 56, 55, 56, 56, 56, 57, 57, 48, 57, 49, 57, 50, 57, 51, 57, 52, 57, 53, 57, 54, 57, 55, 57, 56, 57, 57] }) r20.1 r23.2 = some (r21.1, r23.2) ∧ True ∧ True ∧ bo P .sub 3 (.tmp 149) (.const (.int .i64 2)) r15.1 (.int .i64 2) r23.2 = some (r16.1, r23.2) ∧ True ∧ True) <|
 (ia P 44 r14.1 r16.1 r23.2).bind fun r24 =>
 ifP (r24.2 = r23.2) <|
 (st P 5 r24.1 r21.1 r23.2).bind fun r25 =>
 ifP (True ∧ True ∧ True ∧ True ∧ True ∧ True ∧ True ∧ True) <|
 (vl (e 4) r25.2).bind fun r26 =>
 (bo P .sub 3 (.tmp 158) (.const (.int .i64 2)) r26.1 (.int .i64 2) r26.2).bind fun r27 =>
 (vl r27.1 r27.2).bind fun r28 =>
 internal_strconv_formatBase10_j2 (ups e [(138, r1.1), (139, r2.1), (140, r3.1), (141, r4.1), (142, r5.1), (16, r6.1), (143, r7.1), (144, r8.1), (12, r9.1), (145, r11.1), (146, r12.1), (147, r13.1), (148, r14.1), (149, r15.1), (150, r16.1), (151, r17.1), (152, r18.1), (153, r19.1), (154, r20.1), (155, r21.1), (156, r22.1), (157, r24.1), (158, r26.1), (159, r27.1), (4, r28.1)]) r28.2) (
 internal_strconv_formatBase10_j2 (ups e [(138, r1.1), (139, r2.1)]) r2.2) := by kernel_rfl
theorem internal_strconv_formatBase10_j2_eq (e : Env) (w : World) : internal_strconv_formatBase10_j2 e w =
 (vl (e 4) w).bind fun r1 =>
 (bo P .gtr 3 (.tmp 160) (.const (.int .i64 0)) r1.1 (.int .i64 0) r1.2).bind fun r2 =>
 cnd r2.1 (
 (vl (e 0) r2.2).bind fun r3 =>
 (vl (e 12) r3.2).bind fun r4 =>
 (bo P .add 101 (.const (.int .u32 48)) (.tmp 163) (.int .u32 48) r4.1 r4.2).bind fun r5 =>
 (cv P 101 5 r5.1 r5.2).bind fun r6 =>
 (ia P 44 r3.1 (.int .i64 0) r6.2).bind fun r7 =>
 (st P 5 r7.1 r6.1 r7.2).bind fun r8 =>
 some (.tuple #[], r8.2)) (
 some (.tuple #[], r2.2)) := by kernel_rfl
theorem internal_strconv_formatBase10_fn (x0 x1 : Value) (w : World) : fnC P (EV P) 60 #[x0, x1] w =
 (vl x0 w).bind fun r1 =>
 (b_len P #[44] 3 #[r1.1] r1.2).bind fun r2 =>
 (vl r2.1 r2.2).bind fun r3 =>
 internal_strconv_formatBase10_l1 (ups (env0 #[x0, x1]) [(17, r1.1), (18, r2.1), (4, r3.1)]) r3.2 := by kernel_rfl
end Go.Proofs.YtkhbpmhagpljiaaDoor.X
