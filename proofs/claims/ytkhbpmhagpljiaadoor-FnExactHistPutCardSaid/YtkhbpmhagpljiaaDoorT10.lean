/- A part of the proof: an evaluator of the model, its laws, and contracts of functions; no condition. -/
import Derived.Test.YtkhbpmhagpljiaaDoorEvLu
import Derived.Test.YtkhbpmhagpljiaaDoorT4
set_option linter.unusedVariables false
set_option linter.unusedSimpArgs false
set_option maxRecDepth 100000
set_option maxHeartbeats 1000000
namespace Go.Proofs.YtkhbpmhagpljiaaDoor.X
open Go Go.Ev Go.RowKit
/-- The tables, and what the two errors are. -/
structure GlobE (W : World) : Prop where
  g : Glob W
  r : ∃ v, cellO (hp W 3) 0 = some v ∧ ∃ t x, v = .iface t x
  s : ∃ v, cellO (hp W 2) 0 = some v ∧ ∃ t x, v = .iface t x
theorem cellO_ext {w w' : World} (k : Ext w w') {b i : Nat} {v : Value} (h : cellO (hp w b) i = some v) : cellO (hp w' b) i = some v := by
  have : b < w.heap.size := by
    cases hh : hp w b with
    | none => rw [hh] at h; cases h
    | some o => exact hp_lt hh
  rw [k.blk this]
  exact h
theorem GlobE.ext {w w' : World} (h : GlobE w) (k : Ext w w') : GlobE w' := ⟨h.g.ext k, h.r.imp fun v hv => ⟨cellO_ext k hv.1, hv.2⟩, h.s.imp fun v hv => ⟨cellO_ext k hv.1, hv.2⟩⟩
end Go.Proofs.YtkhbpmhagpljiaaDoor.X
