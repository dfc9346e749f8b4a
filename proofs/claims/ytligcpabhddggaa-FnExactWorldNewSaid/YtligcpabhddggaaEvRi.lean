/- A part of the proof: an evaluator of the model, its laws, and contracts of functions; no condition. -/
import Derived.Lib.Overlaps
import Derived.Lib.AppendZerosOnto
import Derived.Laws.Externs
import Derived.Test.YtligcpabhddggaaEvHj
import Derived.Test.YtligcpabhddggaaEvV
set_option linter.unusedVariables false
set_option linter.unusedSimpArgs false
namespace Go.Ev
open Go Go.RowKit
/-! ### Texts in order; rings -/
section
variable {P : Program}
end
end Go.Ev
namespace Go.Ev
open Go Go.RowKit
section
variable {P : Program} {S : Nat → Prop} {w w' : World} {E mx : Nat}
/-- A row of texts in a block. -/
def Raw (E : TypeId) (w : World) (g : Nat) (xs : List ByteArray) (c : Nat) : Prop :=
  ∃ cur : List Value, hp w g = some (.cells cur.toArray E (0, 0)) ∧ xs.length ≤ c ∧ c ≤ cur.length ∧ c ≤ 9223372036854775807 ∧ cur.take xs.length = xs.map Value.string ∧ ∀ x ∈ xs, x.size ≤ 140737488351232
theorem strs_els : ∀ {xs : List ByteArray}, (∀ x ∈ xs, x.size ≤ 140737488351232) → Els LStr (fun _ => False) w (xs.map fun x => [.string x]) xs
  | [], _ => Els.nil
  | x :: xs, h => by
    obtain ⟨bss, h1, h2, h3⟩ := strs_els (fun y hy => h y (List.mem_cons_of_mem _ hy))
    exact ⟨[] :: bss, ⟨⟨rfl, h x (List.mem_cons_self ..), rfl⟩, h1⟩, by simpa using h2, by simpa using h3⟩
theorem Raw.o {g c : Nat} {xs : List ByteArray} (h : Raw E w g xs c) (hm : xs.length ≤ mx) : O (LList E mx LStr) (fun b => b = g) w [.slice (some ⟨g, 0, none⟩) xs.length c] xs := by
  obtain ⟨cur, h1, h2, h3, h4, h5, h6⟩ := h
  have hfl : (xs.map fun x => [Value.string x]).flatten = xs.map Value.string := by
    clear h5 h2 hm h6
    induction xs with
    | nil => rfl
    | cons x xs ih => simp only [List.map_cons, List.flatten_cons, ih]; rfl
  have hO : Own w 0 E LStr.n (.slice (some ⟨g, 0, none⟩) xs.length c) xs.length (xs.map fun x => [Value.string x]).flatten := by
    rw [hfl]
    refine ⟨by simp [show LStr.n = 1 from rfl], by omega, .inr ⟨g, c, cur.toArray, rfl, Nat.zero_le _, h1, h2, h4, by simp [show LStr.n = 1 from rfl]; omega, by simp [show LStr.n = 1 from rfl, h5]⟩⟩
  exact (O.mk (mx := mx) (S1 := fun _ => False) hO (strs_els h6) (fun _ _ h => h) hm).wide fun b hb _ => by
    rcases hb with h | h
    · exact h.elim
    · simpa [blkOf] using h
theorem Raw.keep {g c : Nat} {xs : List ByteArray} (h : Raw E w g xs c) (k : hp w' g = hp w g) : Raw E w' g xs c := by
  obtain ⟨cur, h1, h⟩ := h
  exact ⟨cur, k.trans h1, h⟩
theorem Raw.at {g k m : Nat} {xs : List ByteArray} {cur : List Value} (h1 : hp w g = some (.cells cur.toArray E (0, 0))) (h5 : cur.take xs.length = xs.map Value.string) (hk : k + m = xs.length) : At w g k ((xs.drop k).map Value.string) := by
  intro j v hj
  rw [h1]
  have hj' : k + j < xs.length := by
    have := (List.getElem?_eq_some_iff.1 hj).1
    simp only [List.length_map, List.length_drop] at this
    omega
  have : (cur.take xs.length)[k + j]? = some v := by
    rw [h5, List.getElem?_map, ← List.getElem?_drop, ← List.getElem?_map]
    exact hj
  rw [List.getElem?_take_of_lt hj'] at this
  simpa [cellO] using this
end
end Go.Ev
