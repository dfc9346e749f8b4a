/- A part of the proof: an evaluator of the model, its laws, and contracts of functions; no condition. -/
import Derived.Test.YtcafhepclddcaaaEvT
set_option linter.unusedVariables false
set_option maxRecDepth 100000
namespace Go.Proofs.Ytcafhepclddcaaa.X
open Go Go.Ev
theorem cmp_isNaN_int_fn (x0 : Value) (w : World) : fnC P (EV P) 127 #[x0] w =
 (vl (.bool false) w).bind fun r1 =>
 (vl x0 r1.2).bind fun r2 =>
 (vl x0 r2.2).bind fun r3 =>
 (bo P .neq 3 (.tmp 3) (.tmp 4) r2.1 r3.1 r3.2).bind fun r4 =>
 (vl r4.1 r4.2).bind fun r5 =>
 some (r5.1, r5.2) := by kernel_rfl
theorem impl_TagMax_fn (x0 x1 : Value) (w : World) : fnC P (EV P) 130 #[x0, x1] w =
 (bx P 42 x0 w).bind fun r1 =>
 (bx P 42 x1 r1.2).bind fun r2 =>
 (al P 42 r2.2).bind fun r3 =>
 (ld P 42 r1.1 r3.2).bind fun r4 =>
 (ld P 42 r2.1 r4.2).bind fun r5 =>
 (EV P 114 #[r4.1, r5.1] r5.2).bind fun r6 =>
 cnd r6.1 (
 (ld P 42 r2.1 r6.2).bind fun r7 =>
 (st P 42 r3.1 r7.1 r7.2).bind fun r8 =>
 ((ld P 42 r3.1 r8.2).bind fun r9 => ifP (r9.2 = r8.2) (some r9.1)).bind fun v10 =>
 some (v10, r8.2)) (
 (ld P 42 r1.1 r6.2).bind fun r11 =>
 (st P 42 r3.1 r11.1 r11.2).bind fun r12 =>
 ((ld P 42 r3.1 r12.2).bind fun r13 => ifP (r13.2 = r12.2) (some r13.1)).bind fun v14 =>
 some (v14, r12.2)) := by kernel_rfl
end Go.Proofs.Ytcafhepclddcaaa.X
