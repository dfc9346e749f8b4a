/- A part of the proof: an evaluator of the model, its laws, and contracts of functions; no condition. -/
import Derived.Test.YtjagkbamkohnoaaEvJ
import Derived.Test.YtjagkbamkohnoaaC17
set_option linter.unusedVariables false
set_option linter.unusedSimpArgs false
set_option maxRecDepth 100000
set_option maxHeartbeats 1000000
namespace Go.Proofs.Ytjagkbamkohnoaa.X
open Go Go.Ev Go.RowKit
abbrev tTags : Lay (List Tag) := LTags 27
end Go.Proofs.Ytjagkbamkohnoaa.X
set_option linter.unusedVariables false
set_option linter.unusedSimpArgs false
set_option maxRecDepth 100000
set_option maxHeartbeats 1000000
namespace Go.Proofs.Ytjagkbamkohnoaa.X
open Go Go.Ev Go.RowKit
theorem At.new {w : World} {cs : List Value} {E : TypeId} : At (w.alloc (.cells cs.toArray E)) w.heap.size 0 cs := by
  intro j v hv
  rw [hp_alloc_eq rfl, cellO_some, ← nth_eq, Nat.zero_add]
  simpa using hv
end Go.Proofs.Ytjagkbamkohnoaa.X
set_option linter.unusedVariables false
set_option linter.unusedSimpArgs false
set_option maxRecDepth 100000
set_option maxHeartbeats 1000000
namespace Go.Proofs.Ytjagkbamkohnoaa.X
open Go Go.Ev Go.RowKit
theorem impl_PastJoin_n {a b : Option Addr} {n m c d : Nat} {S S' : Nat → Prop} {xs ys : List Tag} {w : World} (ha : D tTags S w [.slice a n c] xs) (hb : D tTags S' w [.slice b m d] ys) :
    Ret (EV P 30 #[.agg #[.slice a n c], .agg #[.slice b m d]] w) fun r => ∃ a' c', r.1 = .agg #[.slice a' (pastJoin xs ys).length c'] ∧ O tTags (In w.heap.size r.2.heap.size) r.2 [.slice a' (pastJoin xs ys).length c'] (pastJoin xs ys) ∧ Ext w r.2 := by
  refine Ret.mono (impl_PastJoin_c ha.rTags hb.rTags) ?_
  rintro ⟨_, w1⟩ ⟨s, rfl, h1, h2⟩
  obtain ⟨a', c', rfl, h3⟩ := tags_os h1
  exact ⟨a', c', rfl, h3, h2⟩
theorem spec_PastJoin_n {a b : Option Addr} {n m c d : Nat} {S S' : Nat → Prop} {xs ys : List Tag} {w : World} (ha : D tTags S w [.slice a n c] xs) (hb : D tTags S' w [.slice b m d] ys) :
    Ret (EV P 33 #[.agg #[.slice a n c], .agg #[.slice b m d]] w) fun r => ∃ a' c', r.1 = .agg #[.slice a' (pastJoin xs ys).length c'] ∧ O tTags (In w.heap.size r.2.heap.size) r.2 [.slice a' (pastJoin xs ys).length c'] (pastJoin xs ys) ∧ Ext w r.2 := by
  refine Ret.mono (spec_PastJoin_c ha.rTags hb.rTags) ?_
  rintro ⟨_, w1⟩ ⟨s, rfl, h1, h2⟩
  obtain ⟨a', c', rfl, h3⟩ := tags_os h1
  exact ⟨a', c', rfl, h3, h2⟩
end Go.Proofs.Ytjagkbamkohnoaa.X
