/- A part of the proof: an evaluator of the model, its laws, and contracts of functions; no condition. -/
import Derived.Test.YtjagkbamkohnoaaEvU
set_option linter.unusedVariables false
set_option linter.unusedSimpArgs false
namespace Go.Ev
open Go Go.RowKit
/-! ### Plain laws of tags, causes and stores -/
theorem less_iff {a b : Tag} : tagLess a b = true ↔ a.t < b.t ∨ (a.t = b.t ∧ a.p < b.p) := by simp [tagLess]
theorem less_no {a b : Tag} : tagLess a b = false ↔ ¬ (a.t < b.t ∨ (a.t = b.t ∧ a.p < b.p)) := by rw [← less_iff]; simp
theorem less_self (a : Tag) : tagLess a a = false := by rw [less_no]; omega
theorem tagOk_zero_no {a : Tag} (h : tagOk a = true) : tagLess a ⟨0, 0⟩ = false := by
  rw [less_no]
  simp only [tagOk, Bool.or_eq_true, Bool.and_eq_true, beq_iff_eq, decide_eq_true_eq] at h
  dsimp only
  omega
theorem pastOk_iff {xs : List Tag} : pastOk xs = true ↔ xs.all tagOk = true ∧ xs.length = 4 := by simp [pastOk]
theorem pastJoin_t {xs ys : List Tag} (h : pastOk xs = true) (k : pastOk ys = true) : pastJoin xs ys = joinT xs ys := by simp [pastJoin, h, k]
def verZ' : Ver := ⟨0, ⟨0, 0⟩, [], ⟨#[]⟩, false⟩
theorem storeOk_z : storeOk (List.replicate 4 verZ') = true := by decide +kernel
theorem storeOk_iff {xs : List Ver} : storeOk xs = true ↔ slots 0 xs = true ∧ xs.length = 4 := by simp [storeOk]
theorem slots_get : ∀ {xs : List Ver} {i k : Nat} {x : Ver}, slots i xs = true → xs[k]? = some x → slotOk (i + k) x = true
  | a :: xs, i, 0, x, h, hx => by
    simp only [slots, Bool.and_eq_true] at h
    obtain rfl : a = x := by simpa using hx
    exact h.1
  | a :: xs, i, k + 1, x, h, hx => by
    simp only [slots, Bool.and_eq_true] at h
    have := slots_get (i := i + 1) (k := k) h.2 (by simpa using hx)
    rwa [show i + 1 + k = i + (k + 1) by omega] at this
  | [], _, _, _, _, hx => by simp at hx
theorem slots_of : ∀ {xs : List Ver} {i : Nat}, (∀ k x, xs[k]? = some x → slotOk (i + k) x = true) → slots i xs = true
  | [], _, _ => rfl
  | a :: xs, i, h => by
    simp only [slots, Bool.and_eq_true]
    refine ⟨h 0 a rfl, slots_of fun k x hx => ?_⟩
    have := h (k + 1) x (by simpa using hx)
    rwa [show i + (k + 1) = i + 1 + k by omega] at this
theorem slot_ok {i : Nat} {x : Ver} (h : slotOk i x = true) : tagOk x.tag = true := by
  simp only [slotOk, Bool.or_eq_true, Bool.and_eq_true] at h
  rcases h with h | h
  · simp only [verNone, Bool.and_eq_true, beq_iff_eq] at h
    rw [h.2.1]; rfl
  · simp only [verOk, Bool.and_eq_true] at h
    exact h.1.2.1
theorem tags_ok {xs : List Ver} (h : storeOk xs = true) : pastOk (tagsOf xs) = true := by
  rw [storeOk_iff] at h
  rw [pastOk_iff]
  refine ⟨?_, by simpa [tagsOf] using h.2⟩
  rw [List.all_eq_true]
  intro t ht
  obtain ⟨v, hv, rfl⟩ := List.mem_map.1 ht
  obtain ⟨k, hk⟩ := List.getElem?_of_mem hv
  exact slot_ok (slots_get h.1 hk)
theorem joinV_ok {xs ys : List Ver} (h : storeOk xs = true) (k : storeOk ys = true) : storeOk (joinV xs ys) = true := by
  rw [storeOk_iff] at *
  have hl : xs.length = ys.length := by omega
  refine ⟨slots_of fun j x hx => ?_, by rw [joinV_length hl]; exact h.2⟩
  have hj : j < (joinV xs ys).length := (List.getElem?_eq_some_iff.1 hx).1
  rw [joinV_length hl] at hj
  obtain ⟨a, ha, _⟩ := drop_at (l := xs) (k := j) hj
  obtain ⟨b, hb, _⟩ := drop_at (l := ys) (k := j) (by omega)
  rw [joinV_get ha hb] at hx
  simp only [Option.some.injEq] at hx
  subst hx
  split
  · exact slots_get k.1 hb
  · exact slots_get h.1 ha
theorem joinV_tags : ∀ xs ys : List Ver, tagsOf (joinV xs ys) = joinT (tagsOf xs) (tagsOf ys)
  | x :: xs, y :: ys => by
    have := joinV_tags xs ys
    simp only [tagsOf, joinV, joinT, List.map_cons] at *
    rw [this]
    congr 1
    unfold tagMax
    split <;> rfl
  | [], _ => rfl
  | _ :: _, [] => rfl
theorem joinV_self : ∀ xs : List Ver, joinV xs xs = xs
  | x :: xs => by rw [joinV, less_self, joinV_self xs]; rfl
  | [] => rfl
theorem joinV_zero : ∀ xs : List Ver, (∀ x ∈ xs, tagOk x.tag = true) → joinV xs (List.replicate xs.length verZ') = xs
  | x :: xs, h => by
    rw [List.length_cons, List.replicate_succ, joinV, show tagLess x.tag verZ'.tag = false from tagOk_zero_no (h x List.mem_cons_self), joinV_zero xs fun y hy => h y (List.mem_cons_of_mem _ hy)]; rfl
  | [], _ => rfl
theorem store_tags {xs : List Ver} (h : storeOk xs = true) : ∀ x ∈ xs, tagOk x.tag = true := by
  intro x hx
  obtain ⟨k, hk⟩ := List.getElem?_of_mem hx
  exact slot_ok (slots_get (storeOk_iff.1 h).1 hk)
end Go.Ev
