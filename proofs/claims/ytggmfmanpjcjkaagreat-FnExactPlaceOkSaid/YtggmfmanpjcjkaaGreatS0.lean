/- A part of the proof: an evaluator of the model, its laws, and contracts of functions; no condition. -/
import Derived.Test.YtggmfmanpjcjkaaGreatEvL
import Derived.Test.YtggmfmanpjcjkaaGreatC0r
import Derived.Test.YtggmfmanpjcjkaaGreatS3
set_option linter.unusedVariables false
set_option linter.unusedSimpArgs false
set_option maxRecDepth 100000
set_option maxHeartbeats 1000000
namespace Go.Proofs.YtggmfmanpjcjkaaGreat.X
open Go Go.Ev Go.RowKit
theorem rlVerS : Rl P 38 tVers := rd_map rdVerS fun W cs xs ⟨s, h1, h2⟩ => ⟨xs, by rw [h1]; exact (vers_d h2)⟩
theorem rlStore : Rl P 146 tVers := rd_map rdStore fun W cs xs ⟨s, h1, h2⟩ => ⟨xs, by rw [h1]; exact (vers_d h2)⟩
theorem rlNode : Rl P 148 tNode := rl_map (fun p => ⟨p.1, p.2⟩) (fun _ => rfl) (rd_struct Tryz.underlying148 (by kernel_rfl) rfl (rl_cons (n := 1) rfl (by kernel_rfl) rlStore (rd_one (n := 1) rfl (by kernel_rfl) rlVerS)))
theorem rlNodeS : Rl P 35 tNodes := rl_list (bytes := 48) Tryz.underlying35 (by kernel_rfl) (by decide) (by kernel_rfl) (by decide) (by decide) rlNode
theorem rlChain : Rl P 37 tNodes := rd_struct Tryz.underlying37 (by kernel_rfl) rfl (rd_one (n := 1) rfl (by kernel_rfl) rlNodeS)
end Go.Proofs.YtggmfmanpjcjkaaGreat.X
