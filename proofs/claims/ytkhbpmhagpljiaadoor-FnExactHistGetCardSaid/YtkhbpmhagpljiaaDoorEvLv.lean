/- A part of the proof: an evaluator of the model, its laws, and contracts of functions; no condition. -/
import Derived.Test.YtkhbpmhagpljiaaDoorEvLu
import Derived.Test.YtkhbpmhagpljiaaDoorEvRi
set_option linter.unusedVariables false
set_option linter.unusedSimpArgs false
namespace Go.Ev
open Go Go.RowKit
/-! ### A text cut at the first few of a byte -/
def cutN (c : UInt8) : Nat → List UInt8 → List (List UInt8)
  | 0, l => [l]
  | n + 1, l => match cutL c l with
    | none => [l]
    | some p => p.1 :: cutN c n p.2
theorem cutL_of_not {c : UInt8} : ∀ {l : List UInt8}, c ∉ l → cutL c l = none
  | [], _ => rfl
  | b :: l, h => by
    have hb : ¬ b = c := fun e => h (by rw [e]; exact List.mem_cons_self)
    unfold cutL
    rw [if_neg hb, cutL_of_not fun hm => h (List.mem_cons_of_mem _ hm)]
    rfl
theorem cutN_not {c : UInt8} {l : List UInt8} (h : c ∉ l) : ∀ n, cutN c n l = [l]
  | 0 => rfl
  | n + 1 => by unfold cutN; rw [cutL_of_not h]
theorem cutN_app {c : UInt8} {a b : List UInt8} (h : c ∉ a) (n : Nat) : cutN c (n + 1) (a ++ c :: b) = a :: cutN c n b := by
  show (match cutL c (a ++ c :: b) with | none => _ | some p => _) = _
  rw [cutL_app h]
theorem cutN_sz (c : UInt8) : ∀ (n : Nat) (l : List UInt8), ∀ x ∈ cutN c n l, x.length ≤ l.length
  | 0, l, x, h => by simp [cutN] at h; rw [h]; exact Nat.le_refl _
  | n + 1, l, x, h => by
    unfold cutN at h
    cases hc : cutL c l with
    | none => rw [hc] at h; simp at h; rw [h]; exact Nat.le_refl _
    | some p =>
      rw [hc] at h
      have h1 := (cutL_eq hc).1
      have hlen : l.length = p.1.length + (p.2.length + 1) := by conv => lhs; rw [h1]; simp
      rcases List.mem_cons.1 h with rfl | h
      · omega
      · have := cutN_sz c n p.2 x h; omega
theorem dec_noc {c : UInt8} (h : c.toNat < 48 ∨ 57 < c.toNat) (v : Nat) : c ∉ decL v := fun hm => by
  have := decL_mem c hm
  omega
/-- Digits, and no nought ahead of another. -/
theorem decL_nz : ∀ (v : Nat), 10 ≤ v → (decL v).head? ≠ some 48 := by
  intro v
  induction v using Nat.strongRecOn with
  | _ v ih =>
    intro h10
    rw [decL_ge (by omega)]
    by_cases h : v / 10 < 10
    · rw [decL_lt h]
      intro hh
      have : dg (v / 10) = 48 := by simpa using hh
      have h2 := congrArg UInt8.toNat this
      rw [dg_toNat' h] at h2
      have h3 : (48 : UInt8).toNat = 48 := rfl
      omega
    · obtain ⟨c, l, h1, _, _⟩ := decL_head (v / 10)
      have := ih (v / 10) (by omega) (by omega)
      rw [h1] at this ⊢
      simpa using this
theorem one_raw {P : Program} {E : TypeId} {w : World} {g : Nat} {s : ByteArray} (hs : s.size ≤ 140737488351232) (h : hp w g = some (.cells #[.string s] E (0, 0))) : D (LList E 8796093021952 LStr) (fun b => b = g) w [.slice (some ⟨g, 0, none⟩) 1 1] [s] := by
  have hvr : Raw E w g [s] 1 := ⟨[.string s], h, by simp, by simp, by omega, rfl, by simpa using hs⟩
  exact (hvr.o (mx := 8796093021952) (by simp)).d
theorem At.new {w : World} {cs : List Value} {E : TypeId} : At (w.alloc (.cells cs.toArray E)) w.heap.size 0 cs := by
  intro j v hv
  rw [hp_alloc_eq rfl, cellO_some, ← nth_eq, Nat.zero_add]
  simpa using hv
end Go.Ev
