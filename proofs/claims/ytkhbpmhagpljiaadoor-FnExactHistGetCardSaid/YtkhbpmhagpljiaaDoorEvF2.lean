/- A part of the proof: an evaluator of the model, its laws, and contracts of functions; no condition. -/
import Derived.Test.YtkhbpmhagpljiaaDoorEvT
set_option linter.unusedVariables false
set_option maxRecDepth 100000
namespace Go.Proofs.YtkhbpmhagpljiaaDoor.X
open Go Go.Ev
theorem internal_stringslite_IndexByte_fn (x0 x1 : Value) (w : World) : fnC P (EV P) 62 #[x0, x1] w =
 (vl (.int .i64 0) w).bind fun r1 =>
 (vl x0 r1.2).bind fun r2 =>
 (vl x1 r2.2).bind fun r3 =>
 (xf P 79 #[r2.1, r3.1] r3.2).bind fun r4 =>
 (vl r4.1 r4.2).bind fun r5 =>
 some (r5.1, r5.2) := by kernel_rfl
noncomputable def strings_Count_l1 (e : Env) (w : World) : Option (Value × World) := exC P (EV P) 67 34 (.loop (cA (cA (cB (cB (cB (cB (bodyOf P 67)))))))) e w (kBlock 0 (kFn P (fnOf P 67)))
theorem strings_Count_fn (x0 x1 : Value) (w : World) : fnC P (EV P) 67 #[x0, x1] w =
 (vl (.int .i64 0) w).bind fun r1 =>
 (vl x1 r1.2).bind fun r2 =>
 (b_len P #[9] 3 #[r2.1] r2.2).bind fun r3 =>
 (bo P .eql 3 (.tmp 8) (.const (.int .i64 0)) r3.1 (.int .i64 0) r3.2).bind fun r4 =>
 cnd r4.1 (
 (vl x0 r4.2).bind fun r5 =>
 (EV P 81 #[r5.1] r5.2).bind fun r6 =>
 (bo P .add 3 (.tmp 11) (.const (.int .i64 1)) r6.1 (.int .i64 1) r6.2).bind fun r7 =>
 (vl r7.1 r7.2).bind fun r8 =>
 some (r8.1, r8.2)) (
 (vl x1 r4.2).bind fun r9 =>
 (b_len P #[9] 3 #[r9.1] r9.2).bind fun r10 =>
 (bo P .eql 3 (.tmp 14) (.const (.int .i64 1)) r10.1 (.int .i64 1) r10.2).bind fun r11 =>
 cnd r11.1 (
 (vl x0 r11.2).bind fun r12 =>
 (vl x1 r12.2).bind fun r13 =>
 (ix P 9 r13.1 (.int .i64 0) r13.2).bind fun r14 =>
 (xf P 83 #[r12.1, r14.1] r14.2).bind fun r15 =>
 (vl r15.1 r15.2).bind fun r16 =>
 some (r16.1, r16.2)) (
 (vl (.int .i64 0) r11.2).bind fun r17 =>
 strings_Count_l1 (ups (env0 #[x0, x1]) [(4, r1.1), (7, r2.1), (8, r3.1), (9, r4.1), (13, r9.1), (14, r10.1), (15, r11.1), (5, r17.1)]) r17.2)) := by kernel_rfl
theorem strings_Index_fn (x0 x1 : Value) (w : World) : fnC P (EV P) 68 #[x0, x1] w =
 (vl (.int .i64 0) w).bind fun r1 =>
 (vl x0 r1.2).bind fun r2 =>
 (vl x1 r2.2).bind fun r3 =>
 (EV P 54 #[r2.1, r3.1] r3.2).bind fun r4 =>
 (vl r4.1 r4.2).bind fun r5 =>
 some (r5.1, r5.2) := by kernel_rfl
noncomputable def internal_strconv_ParseInt_j1 (e : Env) (w : World) : Option (Value × World) := exC P (EV P) 69 73 (cB (cB (cB (cB (bodyOf P 69))))) e w (kFn P (fnOf P 69))
noncomputable def internal_strconv_ParseInt_j2 (e : Env) (w : World) : Option (Value × World) := exC P (EV P) 69 73 (cB (cB (cB (cB (cB (cB (cB (cB (bodyOf P 69))))))))) e w (kFn P (fnOf P 69))
noncomputable def internal_strconv_ParseInt_j3 (e : Env) (w : World) : Option (Value × World) := exC P (EV P) 69 73 (cB (cB (cB (cB (cB (cB (cB (cB (cB (cB (cB (cB (cB (bodyOf P 69)))))))))))))) e w (kFn P (fnOf P 69))
theorem internal_strconv_ParseInt_j1_eq (e : Env) (w : World) : internal_strconv_ParseInt_j1 e w =
 (vl (.int .u64 0) w).bind fun r1 =>
 (vl (e 0) r1.2).bind fun r2 =>
 (vl (e 1) r2.2).bind fun r3 =>
 (vl (e 2) r3.2).bind fun r4 =>
 (EV P 84 #[r2.1, r3.1, r4.1] r4.2).bind fun r5 =>
 (vl r5.1 r5.2).bind fun r6 =>
 (xt P r6.1 0 r6.2).bind fun r7 =>
 (xt P r6.1 1 r7.2).bind fun r8 =>
 (vl r7.1 r8.2).bind fun r9 =>
 (vl r8.1 r9.2).bind fun r10 =>
 (vl r10.1 r10.2).bind fun r11 =>
 (bo P .neq 48 (.tmp 32) (.const Go.Value.nilIface) r11.1 Go.Value.nilIface r11.2).bind fun r12 =>
 (vl r12.1 r12.2).bind fun r13 =>
 (gif r13.1 true (vl r10.1 r13.2) r13.2).bind fun r14 =>
 (gif r13.1 true (mi P 93 (.int .i64 1) r14.2) r14.2).bind fun r15 =>
 (gif r13.1 true (bo P .neq 48 (.tmp 35) (.tmp 36) r14.1 r15.1 r15.2) r15.2).bind fun r16 =>
 (pickV r13.1 r16.1 (.bool false) r16.2).bind fun r17 =>
 cnd r17.1 (
 (vl r10.1 r17.2).bind fun r18 =>
 (vl (.int .i64 0) r18.2).bind fun r19 =>
 (vl r18.1 r19.2).bind fun r20 =>
 some (.tuple #[r19.1, r20.1], r20.2)) (
 (vl (e 2) r17.2).bind fun r21 =>
 (bo P .eql 3 (.tmp 40) (.const (.int .i64 0)) r21.1 (.int .i64 0) r21.2).bind fun r22 =>
 cnd r22.1 (
 (vl (.int .i64 64) r22.2).bind fun r23 =>
 internal_strconv_ParseInt_j2 (ups e [(9, r1.1), (26, r2.1), (27, r3.1), (28, r4.1), (29, r5.1), (25, r6.1), (30, r7.1), (31, r8.1), (9, r9.1), (7, r10.1), (32, r11.1), (33, r12.1), (34, r13.1), (35, r14.1), (36, r15.1), (37, r16.1), (38, r17.1), (40, r21.1), (41, r22.1), (2, r23.1)]) r23.2) (
 internal_strconv_ParseInt_j2 (ups e [(9, r1.1), (26, r2.1), (27, r3.1), (28, r4.1), (29, r5.1), (25, r6.1), (30, r7.1), (31, r8.1), (9, r9.1), (7, r10.1), (32, r11.1), (33, r12.1), (34, r13.1), (35, r14.1), (36, r15.1), (37, r16.1), (38, r17.1), (40, r21.1), (41, r22.1)]) r22.2)) := by kernel_rfl
theorem internal_strconv_ParseInt_j2_eq (e : Env) (w : World) : internal_strconv_ParseInt_j2 e w =
 (vl (e 2) w).bind fun r1 =>
 (bo P .sub 3 (.tmp 42) (.const (.int .i64 1)) r1.1 (.int .i64 1) r1.2).bind fun r2 =>
 (cv P 3 91 r2.1 r2.2).bind fun r3 =>
 (bo P .shl 84 (.const (.int .u64 1)) (.tmp 44) (.int .u64 1) r3.1 r3.2).bind fun r4 =>
 (vl r4.1 r4.2).bind fun r5 =>
 (vl (e 8) r5.2).bind fun r6 =>
 (uo P .not r6.1 r6.2).bind fun r7 =>
 (vl r7.1 r7.2).bind fun r8 =>
 (gif r8.1 true (vl (e 9) r8.2) r8.2).bind fun r9 =>
 (gif r8.1 true (vl r5.1 r9.2) r9.2).bind fun r10 =>
 (gif r8.1 true (bo P .geq 84 (.tmp 49) (.tmp 50) r9.1 r10.1 r10.2) r10.2).bind fun r11 =>
 (pickV r8.1 r11.1 (.bool false) r11.2).bind fun r12 =>
 cnd r12.1 (
 (vl r5.1 r12.2).bind fun r13 =>
 (bo P .sub 84 (.tmp 53) (.const (.int .u64 1)) r13.1 (.int .u64 1) r13.2).bind fun r14 =>
 (cv P 84 2 r14.1 r14.2).bind fun r15 =>
 (mi P 93 (.int .i64 1) r15.2).bind fun r16 =>
 (vl r15.1 r16.2).bind fun r17 =>
 (vl r16.1 r17.2).bind fun r18 =>
 some (.tuple #[r17.1, r18.1], r18.2)) (
 (vl (e 8) r12.2).bind fun r19 =>
 (vl r19.1 r19.2).bind fun r20 =>
 (gif r20.1 true (vl (e 9) r20.2) r20.2).bind fun r21 =>
 (gif r20.1 true (vl r5.1 r21.2) r21.2).bind fun r22 =>
 (gif r20.1 true (bo P .gtr 84 (.tmp 59) (.tmp 60) r21.1 r22.1 r22.2) r22.2).bind fun r23 =>
 (pickV r20.1 r23.1 (.bool false) r23.2).bind fun r24 =>
 cnd r24.1 (
 (vl r5.1 r24.2).bind fun r25 =>
 (cv P 84 2 r25.1 r25.2).bind fun r26 =>
 (uo P .neg r26.1 r26.2).bind fun r27 =>
 (mi P 93 (.int .i64 1) r27.2).bind fun r28 =>
 (vl r27.1 r28.2).bind fun r29 =>
 (vl r28.1 r29.2).bind fun r30 =>
 some (.tuple #[r29.1, r30.1], r30.2)) (
 (vl (e 9) r24.2).bind fun r31 =>
 (cv P 84 2 r31.1 r31.2).bind fun r32 =>
 (vl r32.1 r32.2).bind fun r33 =>
 (vl (e 8) r33.2).bind fun r34 =>
 cnd r34.1 (
 (vl r33.1 r34.2).bind fun r35 =>
 (uo P .neg r35.1 r35.2).bind fun r36 =>
 (vl r36.1 r36.2).bind fun r37 =>
 internal_strconv_ParseInt_j3 (ups e [(42, r1.1), (43, r2.1), (44, r3.1), (45, r4.1), (10, r5.1), (46, r6.1), (47, r7.1), (48, r8.1), (49, r9.1), (50, r10.1), (51, r11.1), (52, r12.1), (57, r19.1), (58, r20.1), (59, r21.1), (60, r22.1), (61, r23.1), (62, r24.1), (67, r31.1), (68, r32.1), (11, r33.1), (69, r34.1), (70, r35.1), (71, r36.1), (11, r37.1)]) r37.2) (
 internal_strconv_ParseInt_j3 (ups e [(42, r1.1), (43, r2.1), (44, r3.1), (45, r4.1), (10, r5.1), (46, r6.1), (47, r7.1), (48, r8.1), (49, r9.1), (50, r10.1), (51, r11.1), (52, r12.1), (57, r19.1), (58, r20.1), (59, r21.1), (60, r22.1), (61, r23.1), (62, r24.1), (67, r31.1), (68, r32.1), (11, r33.1), (69, r34.1)]) r34.2))) := by kernel_rfl
theorem internal_strconv_ParseInt_j3_eq (e : Env) (w : World) : internal_strconv_ParseInt_j3 e w =
 (vl (e 11) w).bind fun r1 =>
 (vl r1.1 r1.2).bind fun r2 =>
 (vl Go.Value.nilIface r2.2).bind fun r3 =>
 some (.tuple #[r2.1, r3.1], r3.2) := by kernel_rfl
theorem internal_strconv_ParseInt_fn (x0 x1 x2 : Value) (w : World) : fnC P (EV P) 69 #[x0, x1, x2] w =
 (vl (.int .i64 0) w).bind fun r1 =>
 (vl Go.Value.nilIface r1.2).bind fun r2 =>
 (vl x0 r2.2).bind fun r3 =>
 (bo P .eql 9 (.tmp 12) (.const (Go.Value.string { data := #[] })) r3.1 (Go.Value.string { data := #[] }) r3.2).bind fun r4 =>
 cnd r4.1 (
 (mi P 93 (.int .i64 2) r4.2).bind fun r5 =>
 (vl (.int .i64 0) r5.2).bind fun r6 =>
 (vl r5.1 r6.2).bind fun r7 =>
 some (.tuple #[r6.1, r7.1], r7.2)) (
 (vl (.bool false) r4.2).bind fun r8 =>
 (vl x0 r8.2).bind fun r9 =>
 (ix P 9 r9.1 (.int .i64 0) r9.2).bind fun r10 =>
 (bo P .eql 5 (.tmp 16) (.const (.int .u8 43)) r10.1 (.int .u8 43) r10.2).bind fun r11 =>
 (vl r11.1 r11.2).bind fun r12 =>
 cnd r12.1 (
 (vl x0 r12.2).bind fun r13 =>
 (sl P 9 r13.1 (some (.int .i64 1)) none none r13.2).bind fun r14 =>
 (vl r14.1 r14.2).bind fun r15 =>
 internal_strconv_ParseInt_j1 (ups (env0 #[x0, x1, x2]) [(6, r1.1), (7, r2.1), (12, r3.1), (13, r4.1), (8, r8.1), (15, r9.1), (16, r10.1), (18, r11.1), (17, r12.1), (19, r13.1), (20, r14.1), (0, r15.1)]) r15.2) (
 (bo P .eql 5 (.tmp 16) (.const (.int .u8 45)) r10.1 (.int .u8 45) r12.2).bind fun r16 =>
 (vl r16.1 r16.2).bind fun r17 =>
 cnd r17.1 (
 (vl x0 r17.2).bind fun r18 =>
 (sl P 9 r18.1 (some (.int .i64 1)) none none r18.2).bind fun r19 =>
 (vl r19.1 r19.2).bind fun r20 =>
 (vl (.bool true) r20.2).bind fun r21 =>
 internal_strconv_ParseInt_j1 (ups (env0 #[x0, x1, x2]) [(6, r1.1), (7, r2.1), (12, r3.1), (13, r4.1), (8, r8.1), (15, r9.1), (16, r10.1), (18, r11.1), (17, r12.1), (22, r16.1), (21, r17.1), (23, r18.1), (24, r19.1), (0, r20.1), (8, r21.1)]) r21.2) (
 internal_strconv_ParseInt_j1 (ups (env0 #[x0, x1, x2]) [(6, r1.1), (7, r2.1), (12, r3.1), (13, r4.1), (8, r8.1), (15, r9.1), (16, r10.1), (18, r11.1), (17, r12.1), (22, r16.1), (21, r17.1)]) r17.2))) := by kernel_rfl
theorem strconv_syntaxError_fn (x0 x1 : Value) (w : World) : fnC P (EV P) 70 #[x0, x1] w =
 (vl (Go.Value.pointer none) w).bind fun r1 =>
 (vl x0 (dw r1.2)).bind fun r3 =>
 ifP (r3.2 = (dw r1.2)) <|
 (vl x1 (dw r1.2)).bind fun r4 =>
 ifP (r4.2 = (dw r1.2)) <|
 (ld P 48 (.pointer (some ⟨2, 0, none⟩)) (dw r1.2)).bind fun r5 =>
 ifP (r5.2 = (dw r1.2)) <|
 (EV P 85 #[r4.1] (dw r1.2)).bind fun r6 =>
 ifP (ld P 48 (.pointer (some ⟨2, 0, none⟩)) r6.2 = some (r5.1, r6.2) ∧ True) <|
 (bd P 112 #[(0, r3.1), (1, r6.1), (2, r5.1)] r6.2).bind fun r7 =>
 ifP (r7.2 = r6.2) <|
 (bx P 112 r7.1 r6.2).bind fun r8 =>
 ifP (True ∧ True ∧ True) <|
 (vl r8.1 r8.2).bind fun r9 =>
 ifP (r9.2 = r8.2) <|
 some (r9.1, r8.2) := by kernel_rfl
theorem strconv_rangeError_fn (x0 x1 : Value) (w : World) : fnC P (EV P) 71 #[x0, x1] w =
 (vl (Go.Value.pointer none) w).bind fun r1 =>
 (vl x0 (dw r1.2)).bind fun r3 =>
 ifP (r3.2 = (dw r1.2)) <|
 (vl x1 (dw r1.2)).bind fun r4 =>
 ifP (r4.2 = (dw r1.2)) <|
 (ld P 48 (.pointer (some ⟨3, 0, none⟩)) (dw r1.2)).bind fun r5 =>
 ifP (r5.2 = (dw r1.2)) <|
 (EV P 85 #[r4.1] (dw r1.2)).bind fun r6 =>
 ifP (ld P 48 (.pointer (some ⟨3, 0, none⟩)) r6.2 = some (r5.1, r6.2) ∧ True) <|
 (bd P 112 #[(0, r3.1), (1, r6.1), (2, r5.1)] r6.2).bind fun r7 =>
 ifP (r7.2 = r6.2) <|
 (bx P 112 r7.1 r6.2).bind fun r8 =>
 ifP (True ∧ True ∧ True) <|
 (vl r8.1 r8.2).bind fun r9 =>
 ifP (r9.2 = r8.2) <|
 some (r9.1, r8.2) := by kernel_rfl
theorem internal_strconv_log10Pow2_fn (x0 : Value) (w : World) : fnC P (EV P) 74 #[x0] w =
 (vl (.int .i64 0) w).bind fun r1 =>
 (vl x0 r1.2).bind fun r2 =>
 (bo P .mul 3 (.tmp 3) (.const (.int .i64 78913)) r2.1 (.int .i64 78913) r2.2).bind fun r3 =>
 (bo P .shr 3 (.tmp 4) (.const (.int .u64 18)) r3.1 (.int .u64 18) r3.2).bind fun r4 =>
 (vl r4.1 r4.2).bind fun r5 =>
 some (r5.1, r5.2) := by kernel_rfl
noncomputable def math_bits_Len64_j1 (e : Env) (w : World) : Option (Value × World) := exC P (EV P) 75 25 (cB (cB (bodyOf P 75))) e w (kFn P (fnOf P 75))
noncomputable def math_bits_Len64_j2 (e : Env) (w : World) : Option (Value × World) := exC P (EV P) 75 25 (cB (cB (cB (bodyOf P 75)))) e w (kFn P (fnOf P 75))
noncomputable def math_bits_Len64_j3 (e : Env) (w : World) : Option (Value × World) := exC P (EV P) 75 25 (cB (cB (cB (cB (bodyOf P 75))))) e w (kFn P (fnOf P 75))
theorem math_bits_Len64_j1_eq (e : Env) (w : World) : math_bits_Len64_j1 e w =
 (vl (e 0) w).bind fun r1 =>
 (bo P .geq 84 (.tmp 7) (.const (.int .u64 65536)) r1.1 (.int .u64 65536) r1.2).bind fun r2 =>
 cnd r2.1 (
 (vl (e 0) r2.2).bind fun r3 =>
 (bo P .shr 84 (.tmp 9) (.const (.int .u64 16)) r3.1 (.int .u64 16) r3.2).bind fun r4 =>
 (vl r4.1 r4.2).bind fun r5 =>
 (vl (e 2) r5.2).bind fun r6 =>
 (bo P .add 3 (.tmp 11) (.const (.int .i64 16)) r6.1 (.int .i64 16) r6.2).bind fun r7 =>
 (vl r7.1 r7.2).bind fun r8 =>
 math_bits_Len64_j2 (ups e [(7, r1.1), (8, r2.1), (9, r3.1), (10, r4.1), (0, r5.1), (11, r6.1), (12, r7.1), (2, r8.1)]) r8.2) (
 math_bits_Len64_j2 (ups e [(7, r1.1), (8, r2.1)]) r2.2) := by kernel_rfl
theorem math_bits_Len64_j2_eq (e : Env) (w : World) : math_bits_Len64_j2 e w =
 (vl (e 0) w).bind fun r1 =>
 (bo P .geq 84 (.tmp 13) (.const (.int .u64 256)) r1.1 (.int .u64 256) r1.2).bind fun r2 =>
 cnd r2.1 (
 (vl (e 0) r2.2).bind fun r3 =>
 (bo P .shr 84 (.tmp 15) (.const (.int .u64 8)) r3.1 (.int .u64 8) r3.2).bind fun r4 =>
 (vl r4.1 r4.2).bind fun r5 =>
 (vl (e 2) r5.2).bind fun r6 =>
 (bo P .add 3 (.tmp 17) (.const (.int .i64 8)) r6.1 (.int .i64 8) r6.2).bind fun r7 =>
 (vl r7.1 r7.2).bind fun r8 =>
 math_bits_Len64_j3 (ups e [(13, r1.1), (14, r2.1), (15, r3.1), (16, r4.1), (0, r5.1), (17, r6.1), (18, r7.1), (2, r8.1)]) r8.2) (
 math_bits_Len64_j3 (ups e [(13, r1.1), (14, r2.1)]) r2.2) := by kernel_rfl
theorem math_bits_Len64_j3_eq (e : Env) (w : World) : math_bits_Len64_j3 e w =
 (vl (e 2) w).bind fun r1 =>
 (vl (e 0) r1.2).bind fun r2 =>
 (cv P 84 5 r2.1 r2.2).bind fun r3 =>
 (ix P 9 (Go.Value.string { data := #[0, 1, 2, 2, 3, 3, 3, 3, 4, 4, 4, 4, 4, 4, 4, 4, 5, 5, 5, 5, 5, 5, 5, 5, 5, 5, 5, 5, 5, 5, 5, 5, 6, 6, 6, 6, 6, 6, 6, 6, 6, 6, 6, 6, 6, 6, 6, 6, 6, 6, 6, 6, 6, 6, 6, 6, 6, 6, 6, 6, 6, 6, 6, 6, 7, 7, 7, 7, 7, 7, 7, 7, 7, 7, 7, 7, 7, 7, 7, 7, 7, 7, 7, 7, 7, 7, 7, 7, 7, 7, 7, 7, 7, 7, 7, 7, 7, 7, 7, 7, 7, 7, 7, 7, 7, 7, 7, 7, 7, 7, 7, 7, 7, 7, 7, 7, 7, 7, 7, 7, 7, 7, 7, 7, 7, 7, 7, 7, 8, 8, 8, 8, 8, 8, 8, 8, 8, 8, 8, 8, 8, 8, 8, 8, 8, 8, 8, 8, 8, 8, 8, 8, 8, 8, 8, 8, 8, 8, 8, 8, 8, 8, 8, 8, 8, 8, 8, 8, 8, 8, 8, 8, 8, 8, 8, 8, 8, 8, 8, 8, 8, 8, 8, 8, 8, 8, 8, 8, 8, 8, 8, 8, 8, 8, 8, 8, 8, 8, 8, 8, 8, 8, 8, 8, 8, 8, 8, 8, 8, 8, 8, 8, 8, 8, 8, 8, 8, 8, 8, 8, 8, 8, 8, 8, 8, 8, 8, 8, 8, 8, 8, 8, 8, 8, 8, 8, 8, 8, 8, 8, 8, 8, 8, 8, 8, 8, 8, 8, 8, 8, 8, 8, 8, 8, 8, 8] }) r3.1 r3.2).bind fun r4 =>
 (cv P 5 3 r4.1 r4.2).bind fun r5 =>
 (bo P .add 3 (.tmp 19) (.tmp 23) r1.1 r5.1 r5.2).bind fun r6 =>
 (vl r6.1 r6.2).bind fun r7 =>
 some (r7.1, r7.2) := by kernel_rfl
theorem math_bits_Len64_fn (x0 : Value) (w : World) : fnC P (EV P) 75 #[x0] w =
 (vl (.int .i64 0) w).bind fun r1 =>
 (vl x0 r1.2).bind fun r2 =>
 (bo P .geq 84 (.tmp 3) (.const (.int .u64 4294967296)) r2.1 (.int .u64 4294967296) r2.2).bind fun r3 =>
 cnd r3.1 (
 (vl x0 r3.2).bind fun r4 =>
 (bo P .shr 84 (.tmp 5) (.const (.int .u64 32)) r4.1 (.int .u64 32) r4.2).bind fun r5 =>
 (vl r5.1 r5.2).bind fun r6 =>
 (vl (.int .i64 32) r6.2).bind fun r7 =>
 math_bits_Len64_j1 (ups (env0 #[x0]) [(2, r1.1), (3, r2.1), (4, r3.1), (5, r4.1), (6, r5.1), (0, r6.1), (2, r7.1)]) r7.2) (
 math_bits_Len64_j1 (ups (env0 #[x0]) [(2, r1.1), (3, r2.1), (4, r3.1)]) r3.2) := by kernel_rfl
theorem internal_strconv_bool2_int_fn (x0 : Value) (w : World) : fnC P (EV P) 76 #[x0] w =
 (vl (.int .i64 0) w).bind fun r1 =>
 (vl x0 r1.2).bind fun r2 =>
 cnd r2.1 (
 (vl (.int .i64 1) r2.2).bind fun r3 =>
 some (r3.1, r3.2)) (
 (vl (.int .i64 0) r2.2).bind fun r4 =>
 some (r4.1, r4.2)) := by kernel_rfl
noncomputable def internal_strconv_ParseUint_j1 (e : Env) (w : World) : Option (Value × World) := exC P (EV P) 84 172 (cB (cB (cB (cB (cB (bodyOf P 84)))))) e w (kFn P (fnOf P 84))
noncomputable def internal_strconv_ParseUint_j2 (e : Env) (w : World) : Option (Value × World) := exC P (EV P) 84 172 (cB (cB (cB (cB (cB (cB (bodyOf P 84))))))) e w (kFn P (fnOf P 84))
noncomputable def internal_strconv_ParseUint_j3 (e : Env) (w : World) : Option (Value × World) := exC P (EV P) 84 172 (cB (cB (cB (cB (cB (cB (cB (cB (bodyOf P 84))))))))) e w (kFn P (fnOf P 84))
noncomputable def internal_strconv_ParseUint_l1 (e : Env) (w : World) : Option (Value × World) := exC P (EV P) 84 172 (.loop (cA (cA (cB (cA (cB (cB (cB (cB (cB (cB (cB (cB (cB (cB (cB (bodyOf P 84))))))))))))))))) e w (kBlock 3 (kSeq P (EV P) 84 172 (cB (cB (cB (cB (cB (cB (cB (cB (cB (cB (cB (cB (bodyOf P 84))))))))))))) (kFn P (fnOf P 84))))
noncomputable def internal_strconv_ParseUint_j4 (e : Env) (w : World) : Option (Value × World) := exC P (EV P) 84 172 (cB (cB (cB (cA (cA (cB (cA (cB (cB (cB (cB (cB (cB (cB (cB (cB (cB (cB (bodyOf P 84))))))))))))))))))) e w (kLoop P (EV P) 84 172 (cA (cA (cB (cA (cB (cB (cB (cB (cB (cB (cB (cB (cB (cB (cB (bodyOf P 84)))))))))))))))) (kBlock 3 (kSeq P (EV P) 84 172 (cB (cB (cB (cB (cB (cB (cB (cB (cB (cB (cB (cB (bodyOf P 84))))))))))))) (kFn P (fnOf P 84)))))
noncomputable def internal_strconv_ParseUint_j5 (e : Env) (w : World) : Option (Value × World) := exC P (EV P) 84 172 (cB (cB (cB (cA (cA (cB (cB (cA (cA (cB (cA (cB (cB (cB (cB (cB (cB (cB (cB (cB (cB (cB (bodyOf P 84))))))))))))))))))))))) e w (kBlock 4 (kSeq P (EV P) 84 172 (cB (cB (cB (cA (cA (cB (cA (cB (cB (cB (cB (cB (cB (cB (cB (cB (cB (cB (bodyOf P 84))))))))))))))))))) (kLoop P (EV P) 84 172 (cA (cA (cB (cA (cB (cB (cB (cB (cB (cB (cB (cB (cB (cB (cB (bodyOf P 84)))))))))))))))) (kBlock 3 (kSeq P (EV P) 84 172 (cB (cB (cB (cB (cB (cB (cB (cB (cB (cB (cB (cB (bodyOf P 84))))))))))))) (kFn P (fnOf P 84)))))))
theorem internal_strconv_ParseUint_j1_eq (e : Env) (w : World) : internal_strconv_ParseUint_j1 e w =
 (vl (e 2) w).bind fun r1 =>
 (bo P .eql 3 (.tmp 76) (.const (.int .i64 0)) r1.1 (.int .i64 0) r1.2).bind fun r2 =>
 cnd r2.1 (
 (vl (.int .i64 64) r2.2).bind fun r3 =>
 internal_strconv_ParseUint_j2 (ups e [(76, r1.1), (77, r2.1), (2, r3.1)]) r3.2) (
 (vl (e 2) r2.2).bind fun r4 =>
 (bo P .lss 3 (.tmp 78) (.const (.int .i64 0)) r4.1 (.int .i64 0) r4.2).bind fun r5 =>
 (vl r5.1 r5.2).bind fun r6 =>
 (gif r6.1 false (vl (e 2) r6.2) r6.2).bind fun r7 =>
 (gif r6.1 false (bo P .gtr 3 (.tmp 81) (.const (.int .i64 64)) r7.1 (.int .i64 64) r7.2) r7.2).bind fun r8 =>
 (pickV r6.1 (.bool true) r8.1 r8.2).bind fun r9 =>
 cnd r9.1 (
 (mi P 93 (.int .i64 4) r9.2).bind fun r10 =>
 (vl (.int .u64 0) r10.2).bind fun r11 =>
 (vl r10.1 r11.2).bind fun r12 =>
 some (.tuple #[r11.1, r12.1], r12.2)) (
 internal_strconv_ParseUint_j2 (ups e [(76, r1.1), (77, r2.1), (78, r4.1), (79, r5.1), (80, r6.1), (81, r7.1), (82, r8.1), (83, r9.1)]) r9.2)) := by kernel_rfl
theorem internal_strconv_ParseUint_j2_eq (e : Env) (w : World) : internal_strconv_ParseUint_j2 e w =
 (vl (.int .u64 0) w).bind fun r1 =>
 (vl (e 1) r1.2).bind fun r2 =>
 (bo P .eql 3 (.tmp 85) (.const (.int .i64 10)) r2.1 (.int .i64 10) r2.2).bind fun r3 =>
 (vl r3.1 r3.2).bind fun r4 =>
 cnd r4.1 (
 (vl (.int .u64 1844674407370955162) r4.2).bind fun r5 =>
 internal_strconv_ParseUint_j3 (ups e [(10, r1.1), (85, r2.1), (91, r3.1), (90, r4.1), (10, r5.1)]) r5.2) (
 (bo P .eql 3 (.tmp 85) (.const (.int .i64 16)) r2.1 (.int .i64 16) r4.2).bind fun r6 =>
 (vl r6.1 r6.2).bind fun r7 =>
 cnd r7.1 (
 (vl (.int .u64 1152921504606846976) r7.2).bind fun r8 =>
 internal_strconv_ParseUint_j3 (ups e [(10, r1.1), (85, r2.1), (91, r3.1), (90, r4.1), (93, r6.1), (92, r7.1), (10, r8.1)]) r8.2) (
 (vl (e 1) r7.2).bind fun r9 =>
 (cv P 3 84 r9.1 r9.2).bind fun r10 =>
 (bo P .quo 84 (.const (.int .u64 18446744073709551615)) (.tmp 87) (.int .u64 18446744073709551615) r10.1 r10.2).bind fun r11 =>
 (bo P .add 84 (.tmp 88) (.const (.int .u64 1)) r11.1 (.int .u64 1) r11.2).bind fun r12 =>
 (vl r12.1 r12.2).bind fun r13 =>
 internal_strconv_ParseUint_j3 (ups e [(10, r1.1), (85, r2.1), (91, r3.1), (90, r4.1), (93, r6.1), (92, r7.1), (86, r9.1), (87, r10.1), (88, r11.1), (89, r12.1), (10, r13.1)]) r13.2)) := by kernel_rfl
theorem internal_strconv_ParseUint_j3_eq (e : Env) (w : World) : internal_strconv_ParseUint_j3 e w =
 (vl (e 2) w).bind fun r1 =>
 (cv P 3 91 r1.1 r1.2).bind fun r2 =>
 (bo P .shl 84 (.const (.int .u64 1)) (.tmp 95) (.int .u64 1) r2.1 r2.2).bind fun r3 =>
 (bo P .sub 84 (.tmp 96) (.const (.int .u64 1)) r3.1 (.int .u64 1) r3.2).bind fun r4 =>
 (vl r4.1 r4.2).bind fun r5 =>
 (vl (.bool false) r5.2).bind fun r6 =>
 (vl (.int .u64 0) r6.2).bind fun r7 =>
 (vl (e 0) r7.2).bind fun r8 =>
 (cv P 9 44 r8.1 r8.2).bind fun r9 =>
 (b_len P #[44] 3 #[r9.1] r9.2).bind fun r10 =>
 (vl (.int .i64 0) r10.2).bind fun r11 =>
 internal_strconv_ParseUint_l1 (ups e [(94, r1.1), (95, r2.1), (96, r3.1), (97, r4.1), (11, r5.1), (12, r6.1), (13, r7.1), (98, r8.1), (99, r9.1), (100, r10.1), (101, r11.1)]) r11.2 := by kernel_rfl
theorem internal_strconv_ParseUint_l1_eq (e : Env) (w : World) : internal_strconv_ParseUint_l1 e w =
 (bo P .lss 3 (.tmp 101) (.tmp 100) (e 101) (e 100) w).bind fun r1 =>
 cnd r1.1 (
 (ia P 44 (e 99) (e 101) r1.2).bind fun r2 =>
 (ld P 5 r2.1 r2.2).bind fun r3 =>
 (vl r3.1 r3.2).bind fun r4 =>
 (vl (.int .u8 0) r4.2).bind fun r5 =>
 (vl r4.1 r5.2).bind fun r6 =>
 (bo P .eql 5 (.tmp 107) (.const (.int .u8 95)) r6.1 (.int .u8 95) r6.2).bind fun r7 =>
 (vl r7.1 r7.2).bind fun r8 =>
 (gif r8.1 true (vl (e 8) r8.2) r8.2).bind fun r9 =>
 (pickV r8.1 r9.1 (.bool false) r9.2).bind fun r10 =>
 (vl r10.1 r10.2).bind fun r11 =>
 cnd r11.1 (
 (vl (.bool true) r11.2).bind fun r12 =>
 internal_strconv_ParseUint_j4 (ups e [(102, r1.1), (103, r2.1), (104, r3.1), (15, r4.1), (16, r5.1), (107, r6.1), (108, r7.1), (109, r8.1), (110, r9.1), (111, r10.1), (106, r11.1), (12, r12.1)]) r12.2) (
 (vl r4.1 r11.2).bind fun r13 =>
 (bo P .leq 5 (.const (.int .u8 48)) (.tmp 113) (.int .u8 48) r13.1 r13.2).bind fun r14 =>
 (vl r14.1 r14.2).bind fun r15 =>
 (gif r15.1 true (vl r4.1 r15.2) r15.2).bind fun r16 =>
 (gif r15.1 true (bo P .leq 5 (.tmp 116) (.const (.int .u8 57)) r16.1 (.int .u8 57) r16.2) r16.2).bind fun r17 =>
 (pickV r15.1 r17.1 (.bool false) r17.2).bind fun r18 =>
 (vl r18.1 r18.2).bind fun r19 =>
 cnd r19.1 (
 (vl r4.1 r19.2).bind fun r20 =>
 (bo P .sub 5 (.tmp 119) (.const (.int .u8 48)) r20.1 (.int .u8 48) r20.2).bind fun r21 =>
 (vl r21.1 r21.2).bind fun r22 =>
 internal_strconv_ParseUint_j5 (ups e [(102, r1.1), (103, r2.1), (104, r3.1), (15, r4.1), (16, r5.1), (107, r6.1), (108, r7.1), (109, r8.1), (110, r9.1), (111, r10.1), (106, r11.1), (113, r13.1), (114, r14.1), (115, r15.1), (116, r16.1), (117, r17.1), (118, r18.1), (112, r19.1), (119, r20.1), (120, r21.1), (16, r22.1)]) r22.2) (
 (vl r4.1 r19.2).bind fun r23 =>
 (EV P 90 #[r23.1] r23.2).bind fun r24 =>
 (bo P .leq 5 (.const (.int .u8 97)) (.tmp 123) (.int .u8 97) r24.1 r24.2).bind fun r25 =>
 (vl r25.1 r25.2).bind fun r26 =>
 (gif r26.1 true (vl r4.1 r26.2) r26.2).bind fun r27 =>
 (gif r26.1 true (EV P 90 #[r27.1] r27.2) r27.2).bind fun r28 =>
 (gif r26.1 true (bo P .leq 5 (.tmp 127) (.const (.int .u8 122)) r28.1 (.int .u8 122) r28.2) r28.2).bind fun r29 =>
 (pickV r26.1 r29.1 (.bool false) r29.2).bind fun r30 =>
 (vl r30.1 r30.2).bind fun r31 =>
 cnd r31.1 (
 (vl r4.1 r31.2).bind fun r32 =>
 (EV P 90 #[r32.1] r32.2).bind fun r33 =>
 (bo P .sub 5 (.tmp 131) (.const (.int .u8 97)) r33.1 (.int .u8 97) r33.2).bind fun r34 =>
 (bo P .add 5 (.tmp 132) (.const (.int .u8 10)) r34.1 (.int .u8 10) r34.2).bind fun r35 =>
 (vl r35.1 r35.2).bind fun r36 =>
 internal_strconv_ParseUint_j5 (ups e [(102, r1.1), (103, r2.1), (104, r3.1), (15, r4.1), (16, r5.1), (107, r6.1), (108, r7.1), (109, r8.1), (110, r9.1), (111, r10.1), (106, r11.1), (113, r13.1), (114, r14.1), (115, r15.1), (116, r16.1), (117, r17.1), (118, r18.1), (112, r19.1), (122, r23.1), (123, r24.1), (124, r25.1), (125, r26.1), (126, r27.1), (127, r28.1), (128, r29.1), (129, r30.1), (121, r31.1), (130, r32.1), (131, r33.1), (132, r34.1), (133, r35.1), (16, r36.1)]) r36.2) (
 (mi P 93 (.int .i64 2) r31.2).bind fun r37 =>
 (vl (.int .u64 0) r37.2).bind fun r38 =>
 (vl r37.1 r38.2).bind fun r39 =>
 some (.tuple #[r38.1, r39.1], r39.2))))) (
 (vl (e 12) r1.2).bind fun r40 =>
 (vl r40.1 r40.2).bind fun r41 =>
 (gif r41.1 true (vl (e 9) r41.2) r41.2).bind fun r42 =>
 (gif r41.1 true (EV P 91 #[r42.1] r42.2) r42.2).bind fun r43 =>
 (gif r41.1 true (uo P .not r43.1 r43.2) r43.2).bind fun r44 =>
 (pickV r41.1 r44.1 (.bool false) r44.2).bind fun r45 =>
 cnd r45.1 (
 (mi P 93 (.int .i64 2) r45.2).bind fun r46 =>
 (vl (.int .u64 0) r46.2).bind fun r47 =>
 (vl r46.1 r47.2).bind fun r48 =>
 some (.tuple #[r47.1, r48.1], r48.2)) (
 (vl (e 13) r45.2).bind fun r49 =>
 (vl r49.1 r49.2).bind fun r50 =>
 (vl Go.Value.nilIface r50.2).bind fun r51 =>
 some (.tuple #[r50.1, r51.1], r51.2))) := (exC_loop P (EV P) 84 172 (cA (cA (cB (cA (cB (cB (cB (cB (cB (cB (cB (cB (cB (cB (cB (bodyOf P 84)))))))))))))))) e w (kBlock 3 (kSeq P (EV P) 84 172 (cB (cB (cB (cB (cB (cB (cB (cB (cB (cB (cB (cB (bodyOf P 84))))))))))))) (kFn P (fnOf P 84))))).trans (by kernel_rfl)
theorem internal_strconv_ParseUint_j4_eq (e : Env) (w : World) : internal_strconv_ParseUint_j4 e w =
 (bo P .add 3 (.tmp 101) (.const (.int .i64 1)) (e 101) (.int .i64 1) w).bind fun r1 =>
 (vl r1.1 r1.2).bind fun r2 =>
 internal_strconv_ParseUint_l1 (ups e [(163, r1.1), (101, r2.1)]) r2.2 := by kernel_rfl
theorem internal_strconv_ParseUint_j5_eq (e : Env) (w : World) : internal_strconv_ParseUint_j5 e w =
 (vl (e 16) w).bind fun r1 =>
 (vl (e 1) r1.2).bind fun r2 =>
 (cv P 3 5 r2.1 r2.2).bind fun r3 =>
 (bo P .geq 5 (.tmp 134) (.tmp 136) r1.1 r3.1 r3.2).bind fun r4 =>
 cnd r4.1 (
 (mi P 93 (.int .i64 2) r4.2).bind fun r5 =>
 (vl (.int .u64 0) r5.2).bind fun r6 =>
 (vl r5.1 r6.2).bind fun r7 =>
 some (.tuple #[r6.1, r7.1], r7.2)) (
 (vl (e 13) r4.2).bind fun r8 =>
 (vl (e 10) r8.2).bind fun r9 =>
 (bo P .geq 84 (.tmp 139) (.tmp 140) r8.1 r9.1 r9.2).bind fun r10 =>
 cnd r10.1 (
 (vl (e 11) r10.2).bind fun r11 =>
 (mi P 93 (.int .i64 1) r11.2).bind fun r12 =>
 (vl r11.1 r12.2).bind fun r13 =>
 (vl r12.1 r13.2).bind fun r14 =>
 some (.tuple #[r13.1, r14.1], r14.2)) (
 (vl (e 13) r10.2).bind fun r15 =>
 (vl (e 1) r15.2).bind fun r16 =>
 (cv P 3 84 r16.1 r16.2).bind fun r17 =>
 (bo P .mul 84 (.tmp 144) (.tmp 146) r15.1 r17.1 r17.2).bind fun r18 =>
 (vl r18.1 r18.2).bind fun r19 =>
 (vl r19.1 r19.2).bind fun r20 =>
 (vl (e 16) r20.2).bind fun r21 =>
 (cv P 5 84 r21.1 r21.2).bind fun r22 =>
 (bo P .add 84 (.tmp 148) (.tmp 150) r20.1 r22.1 r22.2).bind fun r23 =>
 (vl r23.1 r23.2).bind fun r24 =>
 (vl r24.1 r24.2).bind fun r25 =>
 (vl r19.1 r25.2).bind fun r26 =>
 (bo P .lss 84 (.tmp 152) (.tmp 153) r25.1 r26.1 r26.2).bind fun r27 =>
 (vl r27.1 r27.2).bind fun r28 =>
 (gif r28.1 false (vl r24.1 r28.2) r28.2).bind fun r29 =>
 (gif r28.1 false (vl (e 11) r29.2) r29.2).bind fun r30 =>
 (gif r28.1 false (bo P .gtr 84 (.tmp 156) (.tmp 157) r29.1 r30.1 r30.2) r30.2).bind fun r31 =>
 (pickV r28.1 (.bool true) r31.1 r31.2).bind fun r32 =>
 cnd r32.1 (
 (vl (e 11) r32.2).bind fun r33 =>
 (mi P 93 (.int .i64 1) r33.2).bind fun r34 =>
 (vl r33.1 r34.2).bind fun r35 =>
 (vl r34.1 r35.2).bind fun r36 =>
 some (.tuple #[r35.1, r36.1], r36.2)) (
 (vl r24.1 r32.2).bind fun r37 =>
 (vl r37.1 r37.2).bind fun r38 =>
 internal_strconv_ParseUint_j4 (ups e [(134, r1.1), (135, r2.1), (136, r3.1), (137, r4.1), (139, r8.1), (140, r9.1), (141, r10.1), (144, r15.1), (145, r16.1), (146, r17.1), (147, r18.1), (13, r19.1), (148, r20.1), (149, r21.1), (150, r22.1), (151, r23.1), (17, r24.1), (152, r25.1), (153, r26.1), (154, r27.1), (155, r28.1), (156, r29.1), (157, r30.1), (158, r31.1), (159, r32.1), (162, r37.1), (13, r38.1)]) r38.2))) := by kernel_rfl
theorem internal_strconv_ParseUint_fn (x0 x1 x2 : Value) (w : World) : fnC P (EV P) 84 #[x0, x1, x2] w =
 (vl (.int .u64 0) w).bind fun r1 =>
 (vl Go.Value.nilIface r1.2).bind fun r2 =>
 (vl x0 r2.2).bind fun r3 =>
 (bo P .eql 9 (.tmp 18) (.const (Go.Value.string { data := #[] })) r3.1 (Go.Value.string { data := #[] }) r3.2).bind fun r4 =>
 cnd r4.1 (
 (mi P 93 (.int .i64 2) r4.2).bind fun r5 =>
 (vl (.int .u64 0) r5.2).bind fun r6 =>
 (vl r5.1 r6.2).bind fun r7 =>
 some (.tuple #[r6.1, r7.1], r7.2)) (
 (vl x1 r4.2).bind fun r8 =>
 (bo P .eql 3 (.tmp 21) (.const (.int .i64 0)) r8.1 (.int .i64 0) r8.2).bind fun r9 =>
 (vl r9.1 r9.2).bind fun r10 =>
 (vl x0 r10.2).bind fun r11 =>
 (vl r11.1 r11.2).bind fun r12 =>
 (vl x1 r12.2).bind fun r13 =>
 (bo P .leq 3 (.const (.int .i64 2)) (.tmp 26) (.int .i64 2) r13.1 r13.2).bind fun r14 =>
 (vl r14.1 r14.2).bind fun r15 =>
 (gif r15.1 true (vl x1 r15.2) r15.2).bind fun r16 =>
 (gif r15.1 true (bo P .leq 3 (.tmp 29) (.const (.int .i64 36)) r16.1 (.int .i64 36) r16.2) r16.2).bind fun r17 =>
 (pickV r15.1 r17.1 (.bool false) r17.2).bind fun r18 =>
 (vl r18.1 r18.2).bind fun r19 =>
 cnd r19.1 (
 internal_strconv_ParseUint_j1 (ups (env0 #[x0, x1, x2]) [(6, r1.1), (7, r2.1), (18, r3.1), (19, r4.1), (21, r8.1), (22, r9.1), (8, r10.1), (23, r11.1), (9, r12.1), (26, r13.1), (27, r14.1), (28, r15.1), (29, r16.1), (30, r17.1), (31, r18.1), (25, r19.1)]) r19.2) (
 (vl x1 r19.2).bind fun r20 =>
 (bo P .eql 3 (.tmp 33) (.const (.int .i64 0)) r20.1 (.int .i64 0) r20.2).bind fun r21 =>
 (vl r21.1 r21.2).bind fun r22 =>
 cnd r22.1 (
 (vl (.int .i64 10) r22.2).bind fun r23 =>
 (vl x0 r23.2).bind fun r24 =>
 (ix P 9 r24.1 (.int .i64 0) r24.2).bind fun r25 =>
 (bo P .eql 5 (.tmp 36) (.const (.int .u8 48)) r25.1 (.int .u8 48) r25.2).bind fun r26 =>
 cnd r26.1 (
 (vl x0 r26.2).bind fun r27 =>
 (b_len P #[9] 3 #[r27.1] r27.2).bind fun r28 =>
 (bo P .geq 3 (.tmp 42) (.const (.int .i64 3)) r28.1 (.int .i64 3) r28.2).bind fun r29 =>
 (vl r29.1 r29.2).bind fun r30 =>
 (gif r30.1 true (vl x0 r30.2) r30.2).bind fun r31 =>
 (gif r30.1 true (ix P 9 r31.1 (.int .i64 1) r31.2) r31.2).bind fun r32 =>
 (gif r30.1 true (EV P 90 #[r32.1] r32.2) r32.2).bind fun r33 =>
 (gif r30.1 true (bo P .eql 5 (.tmp 47) (.const (.int .u8 98)) r33.1 (.int .u8 98) r33.2) r33.2).bind fun r34 =>
 (pickV r30.1 r34.1 (.bool false) r34.2).bind fun r35 =>
 (vl r35.1 r35.2).bind fun r36 =>
 cnd r36.1 (
 (vl (.int .i64 2) r36.2).bind fun r37 =>
 (vl x0 r37.2).bind fun r38 =>
 (sl P 9 r38.1 (some (.int .i64 2)) none none r38.2).bind fun r39 =>
 (vl r39.1 r39.2).bind fun r40 =>
 internal_strconv_ParseUint_j1 (ups (env0 #[x0, x1, x2]) [(6, r1.1), (7, r2.1), (18, r3.1), (19, r4.1), (21, r8.1), (22, r9.1), (8, r10.1), (23, r11.1), (9, r12.1), (26, r13.1), (27, r14.1), (28, r15.1), (29, r16.1), (30, r17.1), (31, r18.1), (25, r19.1), (33, r20.1), (34, r21.1), (32, r22.1), (1, r23.1), (35, r24.1), (36, r25.1), (37, r26.1), (41, r27.1), (42, r28.1), (43, r29.1), (44, r30.1), (45, r31.1), (46, r32.1), (47, r33.1), (48, r34.1), (49, r35.1), (40, r36.1), (1, r37.1), (50, r38.1), (51, r39.1), (0, r40.1)]) r40.2) (
 (vl x0 r36.2).bind fun r41 =>
 (b_len P #[9] 3 #[r41.1] r41.2).bind fun r42 =>
 (bo P .geq 3 (.tmp 54) (.const (.int .i64 3)) r42.1 (.int .i64 3) r42.2).bind fun r43 =>
 (vl r43.1 r43.2).bind fun r44 =>
 (gif r44.1 true (vl x0 r44.2) r44.2).bind fun r45 =>
 (gif r44.1 true (ix P 9 r45.1 (.int .i64 1) r45.2) r45.2).bind fun r46 =>
 (gif r44.1 true (EV P 90 #[r46.1] r46.2) r46.2).bind fun r47 =>
 (gif r44.1 true (bo P .eql 5 (.tmp 59) (.const (.int .u8 111)) r47.1 (.int .u8 111) r47.2) r47.2).bind fun r48 =>
 (pickV r44.1 r48.1 (.bool false) r48.2).bind fun r49 =>
 (vl r49.1 r49.2).bind fun r50 =>
 cnd r50.1 (
 (vl (.int .i64 8) r50.2).bind fun r51 =>
 (vl x0 r51.2).bind fun r52 =>
 (sl P 9 r52.1 (some (.int .i64 2)) none none r52.2).bind fun r53 =>
 (vl r53.1 r53.2).bind fun r54 =>
 internal_strconv_ParseUint_j1 (ups (env0 #[x0, x1, x2]) [(6, r1.1), (7, r2.1), (18, r3.1), (19, r4.1), (21, r8.1), (22, r9.1), (8, r10.1), (23, r11.1), (9, r12.1), (26, r13.1), (27, r14.1), (28, r15.1), (29, r16.1), (30, r17.1), (31, r18.1), (25, r19.1), (33, r20.1), (34, r21.1), (32, r22.1), (1, r23.1), (35, r24.1), (36, r25.1), (37, r26.1), (41, r27.1), (42, r28.1), (43, r29.1), (44, r30.1), (45, r31.1), (46, r32.1), (47, r33.1), (48, r34.1), (49, r35.1), (40, r36.1), (53, r41.1), (54, r42.1), (55, r43.1), (56, r44.1), (57, r45.1), (58, r46.1), (59, r47.1), (60, r48.1), (61, r49.1), (52, r50.1), (1, r51.1), (62, r52.1), (63, r53.1), (0, r54.1)]) r54.2) (
 (vl x0 r50.2).bind fun r55 =>
 (b_len P #[9] 3 #[r55.1] r55.2).bind fun r56 =>
 (bo P .geq 3 (.tmp 66) (.const (.int .i64 3)) r56.1 (.int .i64 3) r56.2).bind fun r57 =>
 (vl r57.1 r57.2).bind fun r58 =>
 (gif r58.1 true (vl x0 r58.2) r58.2).bind fun r59 =>
 (gif r58.1 true (ix P 9 r59.1 (.int .i64 1) r59.2) r59.2).bind fun r60 =>
 (gif r58.1 true (EV P 90 #[r60.1] r60.2) r60.2).bind fun r61 =>
 (gif r58.1 true (bo P .eql 5 (.tmp 71) (.const (.int .u8 120)) r61.1 (.int .u8 120) r61.2) r61.2).bind fun r62 =>
 (pickV r58.1 r62.1 (.bool false) r62.2).bind fun r63 =>
 (vl r63.1 r63.2).bind fun r64 =>
 cnd r64.1 (
 (vl (.int .i64 16) r64.2).bind fun r65 =>
 (vl x0 r65.2).bind fun r66 =>
 (sl P 9 r66.1 (some (.int .i64 2)) none none r66.2).bind fun r67 =>
 (vl r67.1 r67.2).bind fun r68 =>
 internal_strconv_ParseUint_j1 (ups (env0 #[x0, x1, x2]) [(6, r1.1), (7, r2.1), (18, r3.1), (19, r4.1), (21, r8.1), (22, r9.1), (8, r10.1), (23, r11.1), (9, r12.1), (26, r13.1), (27, r14.1), (28, r15.1), (29, r16.1), (30, r17.1), (31, r18.1), (25, r19.1), (33, r20.1), (34, r21.1), (32, r22.1), (1, r23.1), (35, r24.1), (36, r25.1), (37, r26.1), (41, r27.1), (42, r28.1), (43, r29.1), (44, r30.1), (45, r31.1), (46, r32.1), (47, r33.1), (48, r34.1), (49, r35.1), (40, r36.1), (53, r41.1), (54, r42.1), (55, r43.1), (56, r44.1), (57, r45.1), (58, r46.1), (59, r47.1), (60, r48.1), (61, r49.1), (52, r50.1), (65, r55.1), (66, r56.1), (67, r57.1), (68, r58.1), (69, r59.1), (70, r60.1), (71, r61.1), (72, r62.1), (73, r63.1), (64, r64.1), (1, r65.1), (74, r66.1), (75, r67.1), (0, r68.1)]) r68.2) (
 (vl (.int .i64 8) r64.2).bind fun r69 =>
 (vl x0 r69.2).bind fun r70 =>
 (sl P 9 r70.1 (some (.int .i64 1)) none none r70.2).bind fun r71 =>
 (vl r71.1 r71.2).bind fun r72 =>
 internal_strconv_ParseUint_j1 (ups (env0 #[x0, x1, x2]) [(6, r1.1), (7, r2.1), (18, r3.1), (19, r4.1), (21, r8.1), (22, r9.1), (8, r10.1), (23, r11.1), (9, r12.1), (26, r13.1), (27, r14.1), (28, r15.1), (29, r16.1), (30, r17.1), (31, r18.1), (25, r19.1), (33, r20.1), (34, r21.1), (32, r22.1), (1, r23.1), (35, r24.1), (36, r25.1), (37, r26.1), (41, r27.1), (42, r28.1), (43, r29.1), (44, r30.1), (45, r31.1), (46, r32.1), (47, r33.1), (48, r34.1), (49, r35.1), (40, r36.1), (53, r41.1), (54, r42.1), (55, r43.1), (56, r44.1), (57, r45.1), (58, r46.1), (59, r47.1), (60, r48.1), (61, r49.1), (52, r50.1), (65, r55.1), (66, r56.1), (67, r57.1), (68, r58.1), (69, r59.1), (70, r60.1), (71, r61.1), (72, r62.1), (73, r63.1), (64, r64.1), (1, r69.1), (38, r70.1), (39, r71.1), (0, r72.1)]) r72.2)))) (
 internal_strconv_ParseUint_j1 (ups (env0 #[x0, x1, x2]) [(6, r1.1), (7, r2.1), (18, r3.1), (19, r4.1), (21, r8.1), (22, r9.1), (8, r10.1), (23, r11.1), (9, r12.1), (26, r13.1), (27, r14.1), (28, r15.1), (29, r16.1), (30, r17.1), (31, r18.1), (25, r19.1), (33, r20.1), (34, r21.1), (32, r22.1), (1, r23.1), (35, r24.1), (36, r25.1), (37, r26.1)]) r26.2)) (
 (mi P 93 (.int .i64 3) r22.2).bind fun r73 =>
 (vl (.int .u64 0) r73.2).bind fun r74 =>
 (vl r73.1 r74.2).bind fun r75 =>
 some (.tuple #[r74.1, r75.1], r75.2)))) := by kernel_rfl
theorem internal_stringslite_Clone_fn (x0 : Value) (w : World) : fnC P (EV P) 85 #[x0] w =
 (vl (Go.Value.string { data := #[] }) w).bind fun r1 =>
 (vl x0 r1.2).bind fun r2 =>
 (b_len P #[9] 3 #[r2.1] r2.2).bind fun r3 =>
 (bo P .eql 3 (.tmp 5) (.const (.int .i64 0)) r3.1 (.int .i64 0) r3.2).bind fun r4 =>
 cnd r4.1 (
 (vl (Go.Value.string { data := #[] }) r4.2).bind fun r5 =>
 some (r5.1, r5.2)) (
 (vl x0 r4.2).bind fun r6 =>
 (b_len P #[9] 3 #[r6.1] r6.2).bind fun r7 =>
 (ms P 44 r7.1 r7.1 r7.2).bind fun r8 =>
 (vl r8.1 r8.2).bind fun r9 =>
 (vl r9.1 r9.2).bind fun r10 =>
 (vl x0 r10.2).bind fun r11 =>
 (b_copy P #[44, 9] 3 #[r10.1, r11.1] r11.2).bind fun r12 =>
 (vl r9.1 r12.2).bind fun r13 =>
 (ia P 44 r13.1 (.int .i64 0) r13.2).bind fun r14 =>
 (vl r9.1 r14.2).bind fun r15 =>
 (b_len P #[44] 3 #[r15.1] r15.2).bind fun r16 =>
 (gn P { dst := (some 17), op := (Go.Op.call { callee := (Go.Callee.builtin Go.Builtin.unsafeString), args := #[(Go.Operand.tmp 14), (Go.Operand.tmp 16)], argTypes := #[72, 3] }), type := 9, pos := "strings.go:121", after := #[{ on := 1, ground := Go.Ground.data }, { on := 3, ground := Go.Ground.data }], guard := none } (ups (env0 #[x0]) [(2, r1.1), (4, r2.1), (5, r3.1), (6, r4.1), (7, r6.1), (8, r7.1), (9, r8.1), (3, r9.1), (10, r10.1), (11, r11.1), (12, r12.1), (13, r13.1), (14, r14.1), (15, r15.1), (16, r16.1)]) r16.2).bind fun r17 =>
 (vl r17.1 r17.2).bind fun r18 =>
 some (r18.1, r18.2)) := by kernel_rfl
theorem internal_strconv_lower_fn (x0 : Value) (w : World) : fnC P (EV P) 90 #[x0] w =
 (vl (.int .u8 0) w).bind fun r1 =>
 (vl x0 r1.2).bind fun r2 =>
 (bo P .or 5 (.tmp 3) (.const (.int .u8 32)) r2.1 (.int .u8 32) r2.2).bind fun r3 =>
 (vl r3.1 r3.2).bind fun r4 =>
 some (r4.1, r4.2) := by kernel_rfl
end Go.Proofs.YtkhbpmhagpljiaaDoor.X
