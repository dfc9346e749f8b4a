/- A part of the proof, without conditions. -/
import Derived.Lib.Overlaps
import Derived.Lib.AppendZerosOnto
import Derived.Laws.Externs
import Derived.Test.YtligcpabhddggaaGreatEvHj
import Derived.Test.YtligcpabhddggaaGreatEvX
import Derived.Test.YtligcpabhddggaaGreatEvI
set_option linter.unusedVariables false
set_option linter.unusedSimpArgs false
namespace Go.Ev
open Go Go.RowKit
/-! ### Texts in order; rings -/
section
variable {P : Program}
end
end Go.Ev
namespace Go.Ev
open Go Go.RowKit
section
variable {P : Program} {S : Nat → Prop} {w w' : World} {E mx : Nat}
/-- A row of texts in a block. -/
def Raw (E : TypeId) (w : World) (g : Nat) (xs : List ByteArray) (c : Nat) : Prop :=
  ∃ cur : List Value, hp w g = some (.cells cur.toArray E (0, 0)) ∧ xs.length ≤ c ∧ c ≤ cur.length ∧ c ≤ 9223372036854775807 ∧ cur.take xs.length = xs.map Value.string ∧ ∀ x ∈ xs, x.size ≤ 140737488351232
theorem strs_els : ∀ {xs : List ByteArray}, (∀ x ∈ xs, x.size ≤ 140737488351232) → Els LStr (fun _ => False) w (xs.map fun x => [.string x]) xs
  | [], _ => Els.nil
  | x :: xs, h => by
    obtain ⟨bss, h1, h2, h3⟩ := strs_els (fun y hy => h y (List.mem_cons_of_mem _ hy))
    exact ⟨[] :: bss, ⟨⟨rfl, h x (List.mem_cons_self ..), rfl⟩, h1⟩, by simpa using h2, by simpa using h3⟩
theorem Raw.o {g c : Nat} {xs : List ByteArray} (h : Raw E w g xs c) (hm : xs.length ≤ mx) : O (LList E mx LStr) (fun b => b = g) w [.slice (some ⟨g, 0, none⟩) xs.length c] xs := by
  obtain ⟨cur, h1, h2, h3, h4, h5, h6⟩ := h
  have hfl : (xs.map fun x => [Value.string x]).flatten = xs.map Value.string := by
    clear h5 h2 hm h6
    induction xs with
    | nil => rfl
    | cons x xs ih => simp only [List.map_cons, List.flatten_cons, ih]; rfl
  have hO : Own w 0 E LStr.n (.slice (some ⟨g, 0, none⟩) xs.length c) xs.length (xs.map fun x => [Value.string x]).flatten := by
    rw [hfl]
    refine ⟨by simp [show LStr.n = 1 from rfl], by omega, .inr ⟨g, c, cur.toArray, rfl, Nat.zero_le _, h1, h2, h4, by simp [show LStr.n = 1 from rfl]; omega, by simp [show LStr.n = 1 from rfl, h5]⟩⟩
  exact (O.mk (mx := mx) (S1 := fun _ => False) hO (strs_els h6) (fun _ _ h => h) hm).wide fun b hb _ => by
    rcases hb with h | h
    · exact h.elim
    · simpa [blkOf] using h
theorem Raw.keep {g c : Nat} {xs : List ByteArray} (h : Raw E w g xs c) (k : hp w' g = hp w g) : Raw E w' g xs c := by
  obtain ⟨cur, h1, h⟩ := h
  exact ⟨cur, k.trans h1, h⟩
theorem Raw.at {g k m : Nat} {xs : List ByteArray} {cur : List Value} (h1 : hp w g = some (.cells cur.toArray E (0, 0))) (h5 : cur.take xs.length = xs.map Value.string) (hk : k + m = xs.length) : At w g k ((xs.drop k).map Value.string) := by
  intro j v hj
  rw [h1]
  have hj' : k + j < xs.length := by
    have := (List.getElem?_eq_some_iff.1 hj).1
    simp only [List.length_map, List.length_drop] at this
    omega
  have : (cur.take xs.length)[k + j]? = some v := by
    rw [h5, List.getElem?_map, ← List.getElem?_drop, ← List.getElem?_map]
    exact hj
  rw [List.getElem?_take_of_lt hj'] at this
  simpa [cellO] using this
end
/-! ### A text cut at the first few of a byte -/
theorem At.new {w : World} {cs : List Value} {E : TypeId} : At (w.alloc (.cells cs.toArray E)) w.heap.size 0 cs := by
  intro j v hv
  rw [hp_alloc_eq rfl, cellO_some, ← nth_eq, Nat.zero_add]
  simpa using hv
theorem At.nw {w : World} {cs : List Value} {E : TypeId} {n : Nat} (h : n = w.heap.size) : At (w.alloc (.cells cs.toArray E)) n 0 cs := by
  subst h
  exact At.new
theorem at_rowv {w : World} {cur cs : List Value} {o g : Nat} {E : TypeId} (h : hp w g = some (.cells (rowv cur o cs).toArray E (0, 0))) (hl : o + cs.length ≤ cur.length) : At w g o cs := by
  intro j v hj
  have hlt : j < cs.length := (List.getElem?_eq_some_iff.1 hj).1
  rw [h, cellO_some]
  show nth (rowv cur o cs) (o + j) = _
  rw [nth_rowv hlt hl, ← nth_eq, hj]
section
variable {α : Type} {L : Lay α} {S : Nat → Prop} {w : World} {cs : List Value} {E mx : Nat} {P : Program}
end
/-! ### A world's elements taken out and put back -/
section
variable {E F N G A B C H : TypeId} {S : Nat → Prop} {w : World} {cs : List Value} {x : WorldD}
theorem Parts.keep {s t u v : Value} {S1 S2 S3 S4 : Nat → Prop} {w' : World} (P : Parts E F N G A B C H w x s t u v S1 S2 S3 S4) (hl : ∀ b, (S1 b ∨ S2 b ∨ S3 b ∨ S4 b) → b < w.heap.size) (k : ∀ b, (S1 b ∨ S2 b ∨ S3 b ∨ S4 b) → hp w' b = hp w b) : Parts E F N G A B C H w' x s t u v S1 S2 S3 S4 :=
  ⟨P.o1.keep fun b hb _ => k b (.inl hb), P.o2.keep fun b hb _ => k b (.inr (.inl hb)), P.o3.keep fun b hb _ => k b (.inr (.inr (.inl hb))), P.o4.keep fun b hb _ => k b (.inr (.inr (.inr hb))),
    fun b _ q q' => P.d12 b (hl b (.inl q)) q q', fun b _ q q' => P.d13 b (hl b (.inl q)) q q', fun b _ q q' => P.d14 b (hl b (.inl q)) q q', fun b _ q q' => P.d23 b (hl b (.inr (.inl q))) q q', fun b _ q q' => P.d24 b (hl b (.inr (.inl q))) q q', fun b _ q q' => P.d34 b (hl b (.inr (.inr (.inl q)))) q q'⟩
end
/-! ### Events -/
structure EventD where
  kind : Int
  at' : Int
  num : Int
  key : Int
  text : ByteArray
  gone : Bool
section
variable {S : Nat → Prop} {w : World} {cs : List Value} {x : EventD}
end
end Go.Ev
