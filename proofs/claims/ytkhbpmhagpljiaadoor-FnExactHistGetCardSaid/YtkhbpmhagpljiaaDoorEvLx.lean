/- A part of the proof: an evaluator of the model, its laws, and contracts of functions; no condition. -/
import Derived.Test.YtkhbpmhagpljiaaDoorEvLw
set_option linter.unusedVariables false
set_option linter.unusedSimpArgs false
namespace Go.Ev
open Go Go.RowKit
/-! ### Texts cut at every place -/
theorem cut_count {c : UInt8} {l : List UInt8} {p} (h : cutL c l = some p) : l.count c = p.2.count c + 1 := by
  obtain ⟨h1, h2⟩ := cutL_eq h
  conv => lhs; rw [h1]
  rw [List.count_append, List.count_eq_zero_of_not_mem h2, List.count_cons_self]
  omega
theorem cutN_length (c : UInt8) : ∀ (n : Nat) (l : List UInt8), (cutN c n l).length = min n (l.count c) + 1
  | 0, l => by simp [cutN]
  | n + 1, l => by
    unfold cutN
    cases h : cutL c l with
    | none => rw [List.count_eq_zero_of_not_mem (cutL_none h)]; simp
    | some p =>
      have := cutN_length c n p.2
      have := cut_count h
      simp only [List.length_cons]
      omega
theorem cutN_all (c : UInt8) : ∀ (n m : Nat) (l : List UInt8), l.count c ≤ n → l.count c ≤ m → cutN c n l = cutN c m l
  | 0, 0, l, _, _ => rfl
  | 0, m + 1, l, h, _ => by rw [cutN_not (List.count_eq_zero.1 (by omega)), cutN_not (List.count_eq_zero.1 (by omega))]
  | n + 1, 0, l, _, h => by rw [cutN_not (List.count_eq_zero.1 (by omega)), cutN_not (List.count_eq_zero.1 (by omega))]
  | n + 1, m + 1, l, h, k => by
    cases hc : cutL c l with
    | none => simp only [cutN, hc]
    | some p =>
      have := cut_count hc
      simp only [cutN, hc]
      rw [cutN_all c n m p.2 (by omega) (by omega)]
/-- All pieces of a text. -/
def splitL (c : UInt8) (l : List UInt8) : List (List UInt8) := cutN c (l.count c) l
theorem splitL_length (c : UInt8) (l : List UInt8) : (splitL c l).length = l.count c + 1 := by rw [splitL, cutN_length]; omega
theorem splitL_cons {c : UInt8} {l : List UInt8} {p} (h : cutL c l = some p) : splitL c l = p.1 :: splitL c p.2 := by
  unfold splitL
  rw [cut_count h]
  show (match cutL c l with | none => _ | some p => _) = _
  rw [h]
theorem splitL_not {c : UInt8} {l : List UInt8} (h : c ∉ l) : splitL c l = [l] := cutN_not h _
theorem splitL_cut (c : UInt8) {n : Nat} {l : List UInt8} (h : (cutN c n l).length ≤ n) : cutN c n l = splitL c l := by
  rw [cutN_length] at h
  exact cutN_all c _ _ _ (by omega) (Nat.le_refl _)
theorem splitL_sz (c : UInt8) (l : List UInt8) : ∀ x ∈ splitL c l, x.length ≤ l.length := cutN_sz c _ l
end Go.Ev
