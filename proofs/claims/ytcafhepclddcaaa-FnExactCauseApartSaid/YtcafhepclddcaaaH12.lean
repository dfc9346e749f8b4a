/- A part of the proof: an evaluator of the model, its laws, and contracts of functions; no condition. -/
import Derived.Test.YtcafhepclddcaaaH11
import Derived.Test.YtcafhepclddcaaaEvL
import Derived.Test.YtcafhepclddcaaaEvR
import Derived.Test.YtcafhepclddcaaaEvT
import Derived.Test.YtcafhepclddcaaaG3
set_option linter.unusedVariables false
set_option linter.unusedSimpArgs false
set_option maxRecDepth 100000
set_option maxHeartbeats 1000000
namespace Go.Proofs.Ytcafhepclddcaaa.X
open Go Go.Ev Go.RowKit
theorem rdTag : Rd P 39 fun _ cs x => cs = tagC x :=
  rd_map (rd_struct Try.underlying39 (by kernel_rfl) rfl (rd_cons (n := 1) rfl (by kernel_rfl) (rd_int (k := .i64) Try.underlying3) (rd_one (n := 1) rfl (by kernel_rfl) (rd_int (k := .i64) Try.underlying3))))
    fun W cs p ⟨c, d, h1, h2, h3⟩ => ⟨⟨p.1, p.2⟩, by rw [h1, h2.1, h3.1]; rfl⟩
theorem rlTagD : Rl P 39 LTag := rd_map rdTag fun W cs x h => ⟨x, D.tag.2 h⟩
theorem rlDone : Rl P 69 LDone := rl_map (fun p => ⟨p.1, p.2.1, p.2.2.1, p.2.2.2⟩) (fun _ => rfl) (rd_struct Try.underlying69 (by kernel_rfl) rfl (rl_cons (n := 1) rfl (by kernel_rfl) (rl_int Try.underlying3) (rl_cons (n := 1) rfl (by kernel_rfl) (rl_int Try.underlying3) (rl_cons (n := 1) rfl (by kernel_rfl) (rl_int Try.underlying3) (rd_one (n := 2) rfl (by kernel_rfl) rlTagD)))))
theorem rlDoneS : Rl P 22 tDones := rl_list (bytes := 40) Try.underlying22 (by kernel_rfl) (by decide) (by kernel_rfl) (by decide) (by decide) rlDone
end Go.Proofs.Ytcafhepclddcaaa.X
