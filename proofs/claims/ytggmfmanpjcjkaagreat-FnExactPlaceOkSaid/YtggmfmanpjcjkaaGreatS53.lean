/- A part of the proof: an evaluator of the model, its laws, and contracts of functions; no condition. -/
import Derived.Test.YtggmfmanpjcjkaaGreatS0
import Derived.Test.YtggmfmanpjcjkaaGreatS41
set_option linter.unusedVariables false
set_option linter.unusedSimpArgs false
set_option maxRecDepth 100000
set_option maxHeartbeats 1000000
namespace Go.Proofs.YtggmfmanpjcjkaaGreat.X
open Go Go.Ev Go.RowKit
theorem rlVerSS : Rl P 39 tVerSS := rl_list (bytes := 24) Tryz.underlying39 (by kernel_rfl) (by decide) (by kernel_rfl) (by decide) (by decide) rlVerS
theorem rlPlace : Rl P 41 tPlace := rl_map (fun p => ⟨p.1, p.2.1, p.2.2.1, p.2.2.2.1, p.2.2.2.2.1, p.2.2.2.2.2⟩) (fun _ => rfl) (rd_struct Tryz.underlying41 (by kernel_rfl) rfl (rl_cons (n := 1) rfl (by kernel_rfl) (rl_int Tryz.underlying3) (rl_cons (n := 1) rfl (by kernel_rfl) (rl_int Tryz.underlying3) (rl_cons (n := 1) rfl (by kernel_rfl) rlChain (rl_cons (n := 1) rfl (by kernel_rfl) rlVerS (rl_cons (n := 1) rfl (by kernel_rfl) rlVerSS (rd_one (n := 1) rfl (by kernel_rfl) (rl_bool Tryz.underlying4))))))))
end Go.Proofs.YtggmfmanpjcjkaaGreat.X
