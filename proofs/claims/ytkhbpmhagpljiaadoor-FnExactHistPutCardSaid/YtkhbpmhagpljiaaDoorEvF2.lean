/- A part of the proof: an evaluator of the model, its laws, and contracts of functions; no condition. -/
import Derived.Test.YtkhbpmhagpljiaaDoorEvT
set_option linter.unusedVariables false
set_option maxRecDepth 100000
namespace Go.Proofs.YtkhbpmhagpljiaaDoor.X
open Go Go.Ev
theorem internal_strconv_log10Pow2_fn (x0 : Value) (w : World) : fnC P (EV P) 74 #[x0] w =
 (vl (.int .i64 0) w).bind fun r1 =>
 (vl x0 r1.2).bind fun r2 =>
 (bo P .mul 3 (.tmp 3) (.const (.int .i64 78913)) r2.1 (.int .i64 78913) r2.2).bind fun r3 =>
 (bo P .shr 3 (.tmp 4) (.const (.int .u64 18)) r3.1 (.int .u64 18) r3.2).bind fun r4 =>
 (vl r4.1 r4.2).bind fun r5 =>
 some (r5.1, r5.2) := by kernel_rfl
noncomputable def math_bits_Len64_j1 (e : Env) (w : World) : Option (Value × World) := exC P (EV P) 75 25 (cB (cB (bodyOf P 75))) e w (kFn P (fnOf P 75))
noncomputable def math_bits_Len64_j2 (e : Env) (w : World) : Option (Value × World) := exC P (EV P) 75 25 (cB (cB (cB (bodyOf P 75)))) e w (kFn P (fnOf P 75))
noncomputable def math_bits_Len64_j3 (e : Env) (w : World) : Option (Value × World) := exC P (EV P) 75 25 (cB (cB (cB (cB (bodyOf P 75))))) e w (kFn P (fnOf P 75))
theorem math_bits_Len64_j1_eq (e : Env) (w : World) : math_bits_Len64_j1 e w =
 (vl (e 0) w).bind fun r1 =>
 (bo P .geq 84 (.tmp 7) (.const (.int .u64 65536)) r1.1 (.int .u64 65536) r1.2).bind fun r2 =>
 cnd r2.1 (
 (vl (e 0) r2.2).bind fun r3 =>
 (bo P .shr 84 (.tmp 9) (.const (.int .u64 16)) r3.1 (.int .u64 16) r3.2).bind fun r4 =>
 (vl r4.1 r4.2).bind fun r5 =>
 (vl (e 2) r5.2).bind fun r6 =>
 (bo P .add 3 (.tmp 11) (.const (.int .i64 16)) r6.1 (.int .i64 16) r6.2).bind fun r7 =>
 (vl r7.1 r7.2).bind fun r8 =>
 math_bits_Len64_j2 (ups e [(7, r1.1), (8, r2.1), (9, r3.1), (10, r4.1), (0, r5.1), (11, r6.1), (12, r7.1), (2, r8.1)]) r8.2) (
 math_bits_Len64_j2 (ups e [(7, r1.1), (8, r2.1)]) r2.2) := by kernel_rfl
theorem math_bits_Len64_j2_eq (e : Env) (w : World) : math_bits_Len64_j2 e w =
 (vl (e 0) w).bind fun r1 =>
 (bo P .geq 84 (.tmp 13) (.const (.int .u64 256)) r1.1 (.int .u64 256) r1.2).bind fun r2 =>
 cnd r2.1 (
 (vl (e 0) r2.2).bind fun r3 =>
 (bo P .shr 84 (.tmp 15) (.const (.int .u64 8)) r3.1 (.int .u64 8) r3.2).bind fun r4 =>
 (vl r4.1 r4.2).bind fun r5 =>
 (vl (e 2) r5.2).bind fun r6 =>
 (bo P .add 3 (.tmp 17) (.const (.int .i64 8)) r6.1 (.int .i64 8) r6.2).bind fun r7 =>
 (vl r7.1 r7.2).bind fun r8 =>
 math_bits_Len64_j3 (ups e [(13, r1.1), (14, r2.1), (15, r3.1), (16, r4.1), (0, r5.1), (17, r6.1), (18, r7.1), (2, r8.1)]) r8.2) (
 math_bits_Len64_j3 (ups e [(13, r1.1), (14, r2.1)]) r2.2) := by kernel_rfl
theorem math_bits_Len64_j3_eq (e : Env) (w : World) : math_bits_Len64_j3 e w =
 (vl (e 2) w).bind fun r1 =>
 (vl (e 0) r1.2).bind fun r2 =>
 (cv P 84 5 r2.1 r2.2).bind fun r3 =>
 (ix P 9 (Go.Value.string { data := #[0, 1, 2, 2, 3, 3, 3, 3, 4, 4, 4, 4, 4, 4, 4, 4, 5, 5, 5, 5, 5, 5, 5, 5, 5, 5, 5, 5, 5, 5, 5, 5, 6, 6, 6, 6, 6, 6, 6, 6, 6, 6, 6, 6, 6, 6, 6, 6, 6, 6, 6, 6, 6, 6, 6, 6, 6, 6, 6, 6, 6, 6, 6, 6, 7, 7, 7, 7, 7, 7, 7, 7, 7, 7, 7, 7, 7, 7, 7, 7, 7, 7, 7, 7, 7, 7, 7, 7, 7, 7, 7, 7, 7, 7, 7, 7, 7, 7, 7, 7, 7, 7, 7, 7, 7, 7, 7, 7, 7, 7, 7, 7, 7, 7, 7, 7, 7, 7, 7, 7, 7, 7, 7, 7, 7, 7, 7, 7, 8, 8, 8, 8, 8, 8, 8, 8, 8, 8, 8, 8, 8, 8, 8, 8, 8, 8, 8, 8, 8, 8, 8, 8, 8, 8, 8, 8, 8, 8, 8, 8, 8, 8, 8, 8, 8, 8, 8, 8, 8, 8, 8, 8, 8, 8, 8, 8, 8, 8, 8, 8, 8, 8, 8, 8, 8, 8, 8, 8, 8, 8, 8, 8, 8, 8, 8, 8, 8, 8, 8, 8, 8, 8, 8, 8, 8, 8, 8, 8, 8, 8, 8, 8, 8, 8, 8, 8, 8, 8, 8, 8, 8, 8, 8, 8, 8, 8, 8, 8, 8, 8, 8, 8, 8, 8, 8, 8, 8, 8, 8, 8, 8, 8, 8, 8, 8, 8, 8, 8, 8, 8, 8, 8, 8, 8, 8, 8] }) r3.1 r3.2).bind fun r4 =>
 (cv P 5 3 r4.1 r4.2).bind fun r5 =>
 (bo P .add 3 (.tmp 19) (.tmp 23) r1.1 r5.1 r5.2).bind fun r6 =>
 (vl r6.1 r6.2).bind fun r7 =>
 some (r7.1, r7.2) := by kernel_rfl
theorem math_bits_Len64_fn (x0 : Value) (w : World) : fnC P (EV P) 75 #[x0] w =
 (vl (.int .i64 0) w).bind fun r1 =>
 (vl x0 r1.2).bind fun r2 =>
 (bo P .geq 84 (.tmp 3) (.const (.int .u64 4294967296)) r2.1 (.int .u64 4294967296) r2.2).bind fun r3 =>
 cnd r3.1 (
 (vl x0 r3.2).bind fun r4 =>
 (bo P .shr 84 (.tmp 5) (.const (.int .u64 32)) r4.1 (.int .u64 32) r4.2).bind fun r5 =>
 (vl r5.1 r5.2).bind fun r6 =>
 (vl (.int .i64 32) r6.2).bind fun r7 =>
 math_bits_Len64_j1 (ups (env0 #[x0]) [(2, r1.1), (3, r2.1), (4, r3.1), (5, r4.1), (6, r5.1), (0, r6.1), (2, r7.1)]) r7.2) (
 math_bits_Len64_j1 (ups (env0 #[x0]) [(2, r1.1), (3, r2.1), (4, r3.1)]) r3.2) := by kernel_rfl
theorem internal_strconv_bool2_int_fn (x0 : Value) (w : World) : fnC P (EV P) 76 #[x0] w =
 (vl (.int .i64 0) w).bind fun r1 =>
 (vl x0 r1.2).bind fun r2 =>
 cnd r2.1 (
 (vl (.int .i64 1) r2.2).bind fun r3 =>
 some (r3.1, r3.2)) (
 (vl (.int .i64 0) r2.2).bind fun r4 =>
 some (r4.1, r4.2)) := by kernel_rfl
end Go.Proofs.YtkhbpmhagpljiaaDoor.X
