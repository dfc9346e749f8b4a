/- A part of the proof: an evaluator of the model, its laws, and contracts of functions; no condition. -/
import Derived.Test.YtjagkbamkohnoaaEvU
set_option linter.unusedVariables false
set_option linter.unusedSimpArgs false
namespace Go.Ev
open Go Go.RowKit
/-! ### Plain laws of tags, causes and stores -/
theorem tag_ext {a b : Tag} (h1 : a.t = b.t) (h2 : a.p = b.p) : a = b := by cases a; cases b; simp_all
theorem less_iff {a b : Tag} : tagLess a b = true ↔ a.t < b.t ∨ (a.t = b.t ∧ a.p < b.p) := by simp [tagLess]
theorem less_no {a b : Tag} : tagLess a b = false ↔ ¬ (a.t < b.t ∨ (a.t = b.t ∧ a.p < b.p)) := by rw [← less_iff]; simp
theorem less_self (a : Tag) : tagLess a a = false := by rw [less_no]; omega
theorem less_anti {a b : Tag} (h : tagLess a b = false) (k : tagLess b a = false) : a = b := by
  rw [less_no] at h k
  exact tag_ext (by omega) (by omega)
theorem less_asym {a b : Tag} (h : tagLess a b = true) : tagLess b a = false := by
  rw [less_iff] at h
  rw [less_no]
  omega
theorem less_tr {a b c : Tag} (h : tagLess a b = true) (k : tagLess b c = true) : tagLess a c = true := by
  rw [less_iff] at *
  omega
theorem less_ne {a b : Tag} (h : a ≠ b) (k : tagLess a b = false) : tagLess b a = true := by
  cases h2 : tagLess b a
  · exact absurd (less_anti k h2) h
  · rfl
theorem storeOk_iff {xs : List Ver} : storeOk xs = true ↔ slots 0 xs = true ∧ xs.length = 4 := by simp [storeOk]
theorem slots_get : ∀ {xs : List Ver} {i k : Nat} {x : Ver}, slots i xs = true → xs[k]? = some x → slotOk (i + k) x = true
  | a :: xs, i, 0, x, h, hx => by
    simp only [slots, Bool.and_eq_true] at h
    obtain rfl : a = x := by simpa using hx
    exact h.1
  | a :: xs, i, k + 1, x, h, hx => by
    simp only [slots, Bool.and_eq_true] at h
    have := slots_get (i := i + 1) (k := k) h.2 (by simpa using hx)
    rwa [show i + 1 + k = i + (k + 1) by omega] at this
  | [], _, _, _, _, hx => by simp at hx
theorem slots_of : ∀ {xs : List Ver} {i : Nat}, (∀ k x, xs[k]? = some x → slotOk (i + k) x = true) → slots i xs = true
  | [], _, _ => rfl
  | a :: xs, i, h => by
    simp only [slots, Bool.and_eq_true]
    refine ⟨h 0 a rfl, slots_of fun k x hx => ?_⟩
    have := h (k + 1) x (by simpa using hx)
    rwa [show i + (k + 1) = i + 1 + k by omega] at this
theorem ver_key {v : Ver} (h : verOk v = true) : 0 ≤ v.key ∧ v.key ≤ 3 := by
  simp only [verOk, verWr, keyOk, Bool.and_eq_true, decide_eq_true_eq] at h
  exact ⟨h.1.1.1, h.1.1.2⟩
theorem storeAdd_get {xs : List Ver} {v u : Ver} (h : xs[v.key.toNat]? = some u) : (storeAdd xs v)[v.key.toNat]? = some (if tagLess u.tag v.tag then v else u) := by
  have hl := (List.getElem?_eq_some_iff.1 h).1
  cases hl2 : tagLess u.tag v.tag
  · rw [storeAdd_f h hl2]; simpa using h
  · rw [storeAdd_t h hl2]; simp [hl]
theorem storeAdd_other {xs : List Ver} {v : Ver} {k : Nat} (hk : k ≠ v.key.toNat) : (storeAdd xs v)[k]? = xs[k]? := by
  unfold storeAdd
  split
  · split
    · rw [List.getElem?_set_ne (by omega)]
    · rfl
  · rfl
theorem storeAdd_ok {xs : List Ver} {v : Ver} (h : storeOk xs = true) (hv : verOk v = true) : storeOk (storeAdd xs v) = true := by
  rw [storeOk_iff] at *
  obtain ⟨k0, k3⟩ := ver_key hv
  refine ⟨slots_of fun j x hx => ?_, by rw [storeAdd_length]; exact h.2⟩
  by_cases hj : j = v.key.toNat
  · subst hj
    obtain ⟨u, hu, _⟩ := drop_at (l := xs) (k := v.key.toNat) (by omega)
    rw [storeAdd_get hu] at hx
    simp only [Option.some.injEq] at hx
    subst hx
    split
    · simp only [slotOk, hv, Bool.true_and, Nat.zero_add, Bool.or_eq_true, beq_iff_eq]
      right
      omega
    · exact slots_get h.1 hu
  · rw [storeAdd_other hj] at hx
    exact slots_get h.1 hx
theorem storeAdd_tag {xs : List Ver} {v u : Ver} (h : xs[v.key.toNat]? = some u) : (tagsOf (storeAdd xs v))[v.key.toNat]? = some (tagMax u.tag v.tag) := by
  rw [tagsOf, List.getElem?_map, storeAdd_get h]
  unfold tagMax
  simp only [Option.map_some]
  split <;> rfl
theorem storeAdd_twice {xs : List Ver} {v u : Ver} (h : xs[v.key.toNat]? = some u) : storeAdd (storeAdd xs v) v = storeAdd xs v := by
  have h2 := storeAdd_get h
  refine storeAdd_f h2 ?_
  cases hl : tagLess u.tag v.tag
  · simpa using hl
  · simpa using less_self v.tag
theorem storeAdd_swap {xs : List Ver} {v u x y : Ver} (hv : xs[v.key.toNat]? = some x) (hu : xs[u.key.toNat]? = some y) (h1 : v.tag ≠ u.tag) : storeAdd (storeAdd xs v) u = storeAdd (storeAdd xs u) v := by
  apply List.ext_getElem?
  intro k
  by_cases e : v.key.toNat = u.key.toNat
  · by_cases hk : k = v.key.toNat
    · subst hk
      obtain rfl : x = y := by rw [e] at hv; exact Option.some.inj (hv.symm.trans hu)
      have a1 := storeAdd_get hv
      have a2 := storeAdd_get hu
      have a3 := storeAdd_get (xs := storeAdd xs v) (v := u) (by rw [← e]; exact a1)
      have a4 := storeAdd_get (xs := storeAdd xs u) (v := v) (by rw [e]; exact a2)
      rw [← e] at a3
      rw [a3, a4]
      congr 1
      cases p1 : tagLess x.tag v.tag <;> cases p2 : tagLess x.tag u.tag
      · simp [p1, p2]
      · have : tagLess u.tag v.tag = false := by
          cases q : tagLess u.tag v.tag
          · rfl
          · rw [less_tr p2 q] at p1; contradiction
        simp [p1, p2, this]
      · have : tagLess v.tag u.tag = false := by
          cases q : tagLess v.tag u.tag
          · rfl
          · rw [less_tr p1 q] at p2; contradiction
        simp [p1, p2, this]
      · cases q : tagLess v.tag u.tag
        · have := less_ne h1 q
          simp [q, this]
        · have := less_asym q
          simp [q, this]
    · rw [storeAdd_other (by omega), storeAdd_other hk, storeAdd_other hk, storeAdd_other (by omega)]
  · by_cases hk : k = v.key.toNat
    · subst hk
      rw [storeAdd_other e, storeAdd_get hv, storeAdd_get (by rw [storeAdd_other e]; exact hv)]
    · by_cases hk2 : k = u.key.toNat
      · subst hk2
        rw [storeAdd_get (u := y) (by rw [storeAdd_other (by omega)]; exact hu), storeAdd_other (by omega), storeAdd_get hu]
      · rw [storeAdd_other hk2, storeAdd_other hk, storeAdd_other hk, storeAdd_other hk2]
end Go.Ev
