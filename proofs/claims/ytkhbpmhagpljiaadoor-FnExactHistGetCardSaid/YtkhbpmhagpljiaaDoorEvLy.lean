/- A part of the proof: an evaluator of the model, its laws, and contracts of functions; no condition. -/
import Derived.Test.YtkhbpmhagpljiaaDoorEvLx
set_option linter.unusedVariables false
set_option linter.unusedSimpArgs false
namespace Go.Ev
open Go Go.RowKit
/-! ### Builders of texts -/
section
variable {P : Program}
theorem bc_str (l : List UInt8) : Lib.strCells (bts l) = Lib.byteCells l := by rw [Lib.strCells_eq]; rfl
/-- A builder at b: its text. -/
def Bld (T E B : Nat) (w : World) (b : Nat) (l : List UInt8) : Prop :=
  ∃ p s, hp w b = some (.cells #[p, s] T (0, 0)) ∧ (p = .pointer none ∨ p = pt b 0) ∧ w.ownsRow B E 1 s l.length (Lib.byteCells l) ∧ s.ownBlock ≠ some b
theorem owns_keep {w w' : World} {B e n size : Nat} {v : Value} {xs : List Value} (h : w.ownsRow B e size v n xs) (k : ∀ g, v.ownBlock = some g → hp w' g = hp w g) : w'.ownsRow B e size v n xs := by
  obtain ⟨h1, h⟩ := h
  refine ⟨h1, h.imp id ?_⟩
  rintro ⟨g, cap, cur, rfl, h2, h3, rest⟩
  exact ⟨g, cap, cur, rfl, h2, (k g rfl).trans h3, rest⟩
theorem Bld.nil {T E B b : Nat} {w : World} (h : hp w b = some (.cells #[.pointer none, .slice none 0 0] T (0, 0))) : Bld T E B w b [] :=
  ⟨_, _, h, .inl rfl, ⟨rfl, .inl ⟨rfl, rfl⟩⟩, by simp [Value.ownBlock]⟩
theorem Bld.keep {T E B b : Nat} {w w' : World} {l : List UInt8} (h : Bld T E B w b l) (hb : hp w' b = hp w b) (k : ∀ g, B ≤ g → g < w.heap.size → hp w' g = hp w g) : Bld T E B w' b l := by
  obtain ⟨p, s, h1, h2, h3, h4⟩ := h
  refine ⟨p, s, hb.trans h1, h2, owns_keep h3 fun g hg => ?_, h4⟩
  obtain ⟨_, h3⟩ := h3
  rcases h3 with ⟨rfl, _⟩ | ⟨g', cap, cur, rfl, h5, h6, _⟩
  · cases hg
  · cases hg
    exact k _ h5 (hp_lt h6)
/-- A text appended to a row of bytes of one's own. -/
theorem app_str {t u ty e : TypeId} (ht : P.underlying t = some (.slice e)) (hu : P.underlying u = some .string) (hj : (P.info? e).map (fun j => (j.zero, j.size, j.bytes)) = some (some (.int .u8 0), 1, 1))
    {w : World} {B : Nat} {v : Value} {l m : List UInt8} (ho : w.ownsRow B e 1 v l.length (Lib.byteCells l)) (hl : l.length + m.length ≤ 140737488355328) (hB : B ≤ w.heap.size) :
    ∃ v' w', b_append P #[t, u] ty #[v, .string (bts m)] w = some (v', w') ∧ w'.ownsRow B e 1 v' (l ++ m).length (Lib.byteCells (l ++ m)) ∧ Mod (fun x => v.ownBlock = some x) w w' ∧ ∃ a n c, v' = .slice a n c := by
  obtain ⟨j, hi, hj⟩ := Option.map_eq_some_iff.1 hj
  simp only [Prod.mk.injEq] at hj
  obtain ⟨hz, hs, hby⟩ := hj
  obtain ⟨v', w', h1, h2, h3, _⟩ := Lib.run_append_own_string (P := P) w B t u ty e j ht hu hi hz hs hby v l.length (Lib.byteCells l) ho (bts m) (by rw [bts_size]; simp only [maxLen]; omega) (by rw [bts_size]; omega) hB
  rw [bts_size, bc_str, ← Lib.byteCells_append] at h2
  refine ⟨v', w', by simp only [b_append, h1, ro], by rw [List.length_append]; exact h2, ⟨h3.os, h3.tape, h3.output, h3.size, fun b hb hn => h3.block b hb fun h => hn h.symm⟩, ?_⟩
  obtain ⟨_, h2⟩ := h2
  rcases h2 with ⟨rfl, _⟩ | ⟨g', cap, cur, rfl, _⟩
  · exact ⟨_, _, _, rfl⟩
  · exact ⟨_, _, _, rfl⟩
theorem us_none (p it ty : TypeId) (a : Option Addr) (w : World) : ro ((Builtin.unsafeString_ #[p, it] ty #[.pointer a, i64 0]).run P w) = some (.string (bts []), w) := by
  rw [Lib.run_unsafeString_none (P := P) w p it ty a]
  rfl
theorem usd_nil (ts : Array TypeId) (ty : TypeId) (n c : Nat) (w : World) : ro ((Builtin.unsafeSliceData_ ts ty #[.slice none n c]).run P w) = some (.pointer none, w) := by
  rw [Lib.run_unsafeSliceData_nil (P := P) w ts ty n c]
  rfl
end
end Go.Ev
