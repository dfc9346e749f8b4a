/- A part of the proof: an evaluator of the model, its laws, and contracts of functions; no condition. -/
import Derived.Test.YtjagkbamkohnoaaEvO
set_option linter.unusedVariables false
set_option linter.unusedSimpArgs false
namespace Go.Ev
open Go Go.RowKit
/-! ### Plain laws of tags, causes and stores -/
theorem tag_ext {a b : Tag} (h1 : a.t = b.t) (h2 : a.p = b.p) : a = b := by cases a; cases b; simp_all
theorem less_iff {a b : Tag} : tagLess a b = true ↔ a.t < b.t ∨ (a.t = b.t ∧ a.p < b.p) := by simp [tagLess]
theorem less_no {a b : Tag} : tagLess a b = false ↔ ¬ (a.t < b.t ∨ (a.t = b.t ∧ a.p < b.p)) := by rw [← less_iff]; simp
theorem less_self (a : Tag) : tagLess a a = false := by rw [less_no]; omega
theorem less_anti {a b : Tag} (h : tagLess a b = false) (k : tagLess b a = false) : a = b := by
  rw [less_no] at h k
  exact tag_ext (by omega) (by omega)
theorem less_asym {a b : Tag} (h : tagLess a b = true) : tagLess b a = false := by
  rw [less_iff] at h
  rw [less_no]
  omega
theorem tagMax_comm (a b : Tag) : tagMax a b = tagMax b a := by
  unfold tagMax
  cases h : tagLess a b <;> cases k : tagLess b a
  · exact less_anti h k
  · rfl
  · rfl
  · rw [less_asym h] at k; contradiction
theorem tagMax_self (a : Tag) : tagMax a a = a := by simp [tagMax, less_self]
theorem tagOk_zero_no {a : Tag} (h : tagOk a = true) : tagLess a ⟨0, 0⟩ = false := by
  rw [less_no]
  simp only [tagOk, Bool.or_eq_true, Bool.and_eq_true, beq_iff_eq, decide_eq_true_eq] at h
  dsimp only
  omega
theorem tagMax_zero {a : Tag} (h : tagOk a = true) : tagMax a ⟨0, 0⟩ = a := by simp [tagMax, tagOk_zero_no h]
theorem tagMax_or (a b : Tag) : tagMax a b = a ∨ tagMax a b = b := by unfold tagMax; split <;> simp
theorem tagMax_no_l (a b : Tag) : tagLess (tagMax a b) a = false := by
  unfold tagMax
  split
  · rename_i h; exact less_asym h
  · exact less_self a
theorem joinT_comm : ∀ xs ys : List Tag, joinT xs ys = joinT ys xs
  | x :: xs, y :: ys => by rw [joinT, joinT, tagMax_comm, joinT_comm xs ys]
  | [], [] => rfl
  | [], _ :: _ => rfl
  | _ :: _, [] => rfl
theorem joinT_self : ∀ xs : List Tag, joinT xs xs = xs
  | x :: xs => by rw [joinT, tagMax_self, joinT_self xs]
  | [] => rfl
theorem joinT_zero : ∀ xs : List Tag, xs.all tagOk = true → joinT xs (List.replicate xs.length ⟨0, 0⟩) = xs
  | x :: xs, h => by
    simp only [List.all_cons, Bool.and_eq_true] at h
    rw [List.length_cons, List.replicate_succ, joinT, tagMax_zero h.1, joinT_zero xs h.2]
  | [], _ => rfl
theorem joinT_ok : ∀ xs ys : List Tag, xs.all tagOk = true → ys.all tagOk = true → (joinT xs ys).all tagOk = true
  | x :: xs, y :: ys, h, k => by
    simp only [List.all_cons, Bool.and_eq_true, joinT] at *
    refine ⟨?_, joinT_ok xs ys h.2 k.2⟩
    rcases tagMax_or x y with e | e <;> rw [e]
    · exact h.1
    · exact k.1
  | [], _, _, _ => rfl
  | _ :: _, [], _, _ => rfl
theorem pastOk_iff {xs : List Tag} : pastOk xs = true ↔ xs.all tagOk = true ∧ xs.length = 4 := by simp [pastOk]
theorem pastJoin_t {xs ys : List Tag} (h : pastOk xs = true) (k : pastOk ys = true) : pastJoin xs ys = joinT xs ys := by simp [pastJoin, h, k]
theorem pastOk_join {xs ys : List Tag} (h : pastOk xs = true) (k : pastOk ys = true) : pastOk (joinT xs ys) = true := by
  rw [pastOk_iff] at *
  exact ⟨joinT_ok _ _ h.1 k.1, by rw [joinT_length (by omega)]; exact h.2⟩
theorem under_join : ∀ xs ys : List Tag, under xs (joinT xs ys) = true
  | x :: xs, y :: ys => by
    rw [joinT, under, tagMax_no_l]
    exact under_join xs ys
  | [], _ => by simp [under]
  | _ :: _, [] => by simp [under, joinT]
theorem under_join2 (xs ys : List Tag) : under ys (joinT xs ys) = true := by rw [joinT_comm]; exact under_join ys xs
theorem pastOk_zero : pastOk (List.replicate 4 ⟨0, 0⟩) = true := by decide
end Go.Ev
