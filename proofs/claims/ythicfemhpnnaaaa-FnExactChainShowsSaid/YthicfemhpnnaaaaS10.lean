/- A part of the proof: an evaluator of the model, its laws, and contracts of functions; no condition. -/
import Derived.Test.YthicfemhpnnaaaaS9
set_option linter.unusedVariables false
set_option linter.unusedSimpArgs false
set_option maxRecDepth 100000
set_option maxHeartbeats 1000000
namespace Go.Proofs.Ythicfemhpnnaaaa.X
open Go Go.Ev Go.RowKit
theorem chainOk_last {ns : List CNode} (h : chainOk ns = true) : ∃ n, ns[ns.length - 1]? = some n ∧ nodeOk n = true ∧ 0 < ns.length ∧ ns.length ≤ 4 := by
  simp only [chainOk, lenOk, Bool.and_eq_true, decide_eq_true_eq, List.all_eq_true] at h
  obtain ⟨n, hn, _⟩ := drop_at (l := ns) (k := ns.length - 1) (by omega)
  exact ⟨n, hn, h.1.2 n (List.mem_of_getElem? hn), by omega, by omega⟩
end Go.Proofs.Ythicfemhpnnaaaa.X
