/- A part of the proof: an evaluator of the model, its laws, and contracts of functions; no condition. -/
import Derived.Test.YtcafhepclddcaaaEvJ
import Derived.Test.YtcafhepclddcaaaC17
set_option linter.unusedVariables false
set_option linter.unusedSimpArgs false
set_option maxRecDepth 100000
set_option maxHeartbeats 1000000
namespace Go.Proofs.Ytcafhepclddcaaa.X
open Go Go.Ev Go.RowKit
abbrev tTags : Lay (List Tag) := LTags 42
end Go.Proofs.Ytcafhepclddcaaa.X
set_option linter.unusedVariables false
set_option linter.unusedSimpArgs false
set_option maxRecDepth 100000
set_option maxHeartbeats 1000000
namespace Go.Proofs.Ytcafhepclddcaaa.X
open Go Go.Ev Go.RowKit
theorem impl_Past_copied_n {a : Option Addr} {n c : Nat} {S : Nat → Prop} {xs : List Tag} {w : World} (ha : D tTags S w [.slice a n c] xs) :
    Ret (EV P 57 #[.agg #[.slice a n c]] w) fun r => ∃ a' c', r.1 = .agg #[.slice a' xs.length c'] ∧ O tTags (In w.heap.size r.2.heap.size) r.2 [.slice a' xs.length c'] xs ∧ Ext w r.2 := by
  refine Ret.mono (impl_Past_copied_c ha.rTags) ?_
  rintro ⟨_, w1⟩ ⟨s, rfl, h1, h2⟩
  obtain ⟨a', c', rfl, h3⟩ := tags_os h1
  exact ⟨a', c', rfl, h3, h2⟩
end Go.Proofs.Ytcafhepclddcaaa.X
