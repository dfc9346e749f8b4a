/- A part of the proof: an evaluator of the model, its laws, and contracts of functions; no condition. -/
import Derived.Test.YtggmfmanpjcjkaaGreatEvU
set_option linter.unusedVariables false
set_option linter.unusedSimpArgs false
namespace Go.Ev
open Go Go.RowKit
/-! ### Plain laws of tags, causes and stores -/
theorem tag_ext {a b : Tag} (h1 : a.t = b.t) (h2 : a.p = b.p) : a = b := by cases a; cases b; simp_all
theorem less_iff {a b : Tag} : tagLess a b = true ↔ a.t < b.t ∨ (a.t = b.t ∧ a.p < b.p) := by simp [tagLess]
theorem less_no {a b : Tag} : tagLess a b = false ↔ ¬ (a.t < b.t ∨ (a.t = b.t ∧ a.p < b.p)) := by rw [← less_iff]; simp
theorem less_self (a : Tag) : tagLess a a = false := by rw [less_no]; omega
theorem less_tr {a b c : Tag} (h : tagLess a b = true) (k : tagLess b c = true) : tagLess a c = true := by
  rw [less_iff] at *
  omega
theorem pastOk_iff {xs : List Tag} : pastOk xs = true ↔ xs.all tagOk = true ∧ xs.length = 4 := by simp [pastOk]
def verZ' : Ver := ⟨0, ⟨0, 0⟩, [], ⟨#[]⟩, false⟩
theorem storeOk_z : storeOk (List.replicate 4 verZ') = true := by decide +kernel
theorem storeOk_iff {xs : List Ver} : storeOk xs = true ↔ slots 0 xs = true ∧ xs.length = 4 := by simp [storeOk]
theorem slots_get : ∀ {xs : List Ver} {i k : Nat} {x : Ver}, slots i xs = true → xs[k]? = some x → slotOk (i + k) x = true
  | a :: xs, i, 0, x, h, hx => by
    simp only [slots, Bool.and_eq_true] at h
    obtain rfl : a = x := by simpa using hx
    exact h.1
  | a :: xs, i, k + 1, x, h, hx => by
    simp only [slots, Bool.and_eq_true] at h
    have := slots_get (i := i + 1) (k := k) h.2 (by simpa using hx)
    rwa [show i + 1 + k = i + (k + 1) by omega] at this
  | [], _, _, _, _, hx => by simp at hx
theorem slots_of : ∀ {xs : List Ver} {i : Nat}, (∀ k x, xs[k]? = some x → slotOk (i + k) x = true) → slots i xs = true
  | [], _, _ => rfl
  | a :: xs, i, h => by
    simp only [slots, Bool.and_eq_true]
    refine ⟨h 0 a rfl, slots_of fun k x hx => ?_⟩
    have := h (k + 1) x (by simpa using hx)
    rwa [show i + (k + 1) = i + 1 + k by omega] at this
theorem slot_ok {i : Nat} {x : Ver} (h : slotOk i x = true) : tagOk x.tag = true := by
  simp only [slotOk, Bool.or_eq_true, Bool.and_eq_true] at h
  rcases h with h | h
  · simp only [verNone, Bool.and_eq_true, beq_iff_eq] at h
    rw [h.2.1]; rfl
  · simp only [verOk, Bool.and_eq_true] at h
    exact h.1.2.1
theorem store_tags {xs : List Ver} (h : storeOk xs = true) : ∀ x ∈ xs, tagOk x.tag = true := by
  intro x hx
  obtain ⟨k, hk⟩ := List.getElem?_of_mem hx
  exact slot_ok (slots_get (storeOk_iff.1 h).1 hk)
theorem ver_key {v : Ver} (h : verOk v = true) : 0 ≤ v.key ∧ v.key ≤ 3 := by
  simp only [verOk, verWr, keyOk, Bool.and_eq_true, decide_eq_true_eq] at h
  exact ⟨h.1.1.1, h.1.1.2⟩
theorem storeAdd_get {xs : List Ver} {v u : Ver} (h : xs[v.key.toNat]? = some u) : (storeAdd xs v)[v.key.toNat]? = some (if tagLess u.tag v.tag then v else u) := by
  have hl := (List.getElem?_eq_some_iff.1 h).1
  cases hl2 : tagLess u.tag v.tag
  · rw [storeAdd_f h hl2]; simpa using h
  · rw [storeAdd_t h hl2]; simp [hl]
theorem storeAdd_other {xs : List Ver} {v : Ver} {k : Nat} (hk : k ≠ v.key.toNat) : (storeAdd xs v)[k]? = xs[k]? := by
  unfold storeAdd
  split
  · split
    · rw [List.getElem?_set_ne (by omega)]
    · rfl
  · rfl
theorem storeAdd_ok {xs : List Ver} {v : Ver} (h : storeOk xs = true) (hv : verOk v = true) : storeOk (storeAdd xs v) = true := by
  rw [storeOk_iff] at *
  obtain ⟨k0, k3⟩ := ver_key hv
  refine ⟨slots_of fun j x hx => ?_, by rw [storeAdd_length]; exact h.2⟩
  by_cases hj : j = v.key.toNat
  · subst hj
    obtain ⟨u, hu, _⟩ := drop_at (l := xs) (k := v.key.toNat) (by omega)
    rw [storeAdd_get hu] at hx
    simp only [Option.some.injEq] at hx
    subst hx
    split
    · simp only [slotOk, hv, Bool.true_and, Nat.zero_add, Bool.or_eq_true, beq_iff_eq]
      right
      omega
    · exact slots_get h.1 hu
  · rw [storeAdd_other hj] at hx
    exact slots_get h.1 hx
end Go.Ev
