/- A part of the proof: an evaluator of the model, its laws, and contracts of functions; no condition. -/
import Derived.Test.YtligcpabhddggaaEvH
set_option linter.unusedVariables false
set_option linter.unusedSimpArgs false
namespace Go.Ev
open Go Go.RowKit
section
variable {α : Type} {L : Lay α} {S S1 : Nat → Prop} {w : World} {E mx E' mx' : Nat}
/-- A row made new, of length nought. -/
theorem O.make0 {P : Program} {t y : Nat} (hE : elB P t = some (E, L.n, y)) {z : List Value} (hz : zeroB P E = some z) (hzs : z.length = L.n) (h0 : 0 < L.n) {n : Nat} (hn : n ≤ mx) (hy : mx * y ≤ 140737488355328) (hm2 : mx ≤ 140737488355328) :
    Ret (ms P t (i64 0) (i64 n) w) fun r => r.1 = .slice (some ⟨w.heap.size, 0, none⟩) 0 n ∧ O (LList E mx L) (fun b => b = w.heap.size) r.2 [r.1] ([] : List α) ∧ r.2.heap.size = w.heap.size + 1 ∧ Ext w r.2 := by
  have hb1 : n * y ≤ mx * y := Nat.mul_le_mul_right _ hn
  have hb2 : y * (n : Int) ≤ 281474976710656 := by
    have : (y * n : Nat) ≤ 140737488355328 := by rw [Nat.mul_comm]; omega
    have h2 : ((y * n : Nat) : Int) = (y : Int) * (n : Int) := by simp
    rw [← h2]; omega
  rw [ms_eq (P := P) hE hz hzs h0 (Int.le_refl 0) (by omega) hb2 (by omega) w]
  refine ⟨_, rfl, by simp, ?_, by simp, Ext.alloc w _⟩
  have hO : Own (w.alloc (.cells (zrep z (n : Int).toNat).toArray E)) 0 E L.n (.slice (some ⟨w.heap.size, 0, none⟩) 0 n) ([] : List α).length ([] : List (List Value)).flatten := by
    refine ⟨by simp, by simp, .inr ⟨w.heap.size, n, _, rfl, Nat.zero_le _, hp_alloc_eq rfl, by simp, by omega, ?_, by simp⟩⟩
    rw [List.size_toArray, zrep_len, hzs]; simp
  have := O.mk (mx := mx) (S1 := fun _ => False) hO Els.nil (fun _ _ h => h) (by simp)
  simp only [Int.toNat_natCast, Int.toNat_zero] at *
  exact this.wide fun b h _ => h.elim (fun h => h.elim) fun h => by simpa [blkOf] using h
theorem O.empty {g : Nat} (h : hp w g = some (.cells #[] E (0, 0))) : O (LList E mx L) (fun b => b = g) w [.slice (some ⟨g, 0, none⟩) 0 0] ([] : List α) := by
  have hO : Own w 0 E L.n (.slice (some ⟨g, 0, none⟩) 0 0) ([] : List α).length ([] : List (List Value)).flatten :=
    ⟨by simp, by simp, .inr ⟨g, 0, #[], rfl, Nat.zero_le _, h, by simp, by omega, by simp, by simp⟩⟩
  have := O.mk (mx := mx) (S1 := fun _ => False) hO Els.nil (fun _ _ h => h) (by simp)
  exact this.wide fun b h _ => h.elim (fun h => h.elim) fun h => by simpa [blkOf] using h
end
section
variable {α : Type} {L : Lay α} {S S1 : Nat → Prop} {w : World} {E mx : Nat}
theorem els_rep {z : List Value} {x0 : α} (h : O L (fun _ => False) w z x0) : ∀ n : Nat, Els L (fun _ => False) w (List.replicate n z) (List.replicate n x0)
  | 0 => Els.nil
  | n + 1 => by
    have := (Els.one h).app (els_rep h n) (fun _ _ h => h.elim)
    rw [List.replicate_succ, List.replicate_succ]
    exact this.wide fun b h _ => h.elim id id
theorem zrep_rep (z : List Value) : ∀ n : Nat, zrep z n = (List.replicate n z).flatten
  | 0 => rfl
  | n + 1 => by rw [zrep, zrep_rep z n, List.replicate_succ, List.flatten_cons]
/-- A row made new, of noughts. -/
theorem O.make {P : Program} {t y : Nat} (hE : elB P t = some (E, L.n, y)) {z : List Value} (hz : zeroB P E = some z) (hzs : z.length = L.n) (h0 : 0 < L.n) {n : Nat} {x0 : α} (hx : ∀ w, O L (fun _ => False) w z x0) (hn : n ≤ mx) (hy : mx * y ≤ 140737488355328) (hm2 : mx ≤ 140737488355328) :
    Ret (ms P t (i64 n) (i64 n) w) fun r => r.1 = .slice (some ⟨w.heap.size, 0, none⟩) n n ∧ O (LList E mx L) (fun b => b = w.heap.size) r.2 [r.1] (List.replicate n x0) ∧ r.2.heap.size = w.heap.size + 1 ∧ Ext w r.2 := by
  have hb1 : n * y ≤ mx * y := Nat.mul_le_mul_right _ hn
  have hb2 : y * (n : Int) ≤ 281474976710656 := by
    have : (y * n : Nat) ≤ 140737488355328 := by rw [Nat.mul_comm]; omega
    have h2 : ((y * n : Nat) : Int) = (y : Int) * (n : Int) := by simp
    rw [← h2]; omega
  rw [ms_eq (P := P) hE hz hzs h0 (by omega) (Int.le_refl _) hb2 (by omega) w]
  refine ⟨_, rfl, by simp, ?_, by simp, Ext.alloc w _⟩
  have hO : Own (w.alloc (.cells (zrep z (n : Int).toNat).toArray E)) 0 E L.n (.slice (some ⟨w.heap.size, 0, none⟩) n n) (List.replicate n x0).length (List.replicate n z).flatten := by
    refine ⟨?_, by simp; omega, .inr ⟨w.heap.size, n, _, by simp, Nat.zero_le _, hp_alloc_eq rfl, by simp, by omega, ?_, ?_⟩⟩
    · rw [← zrep_rep, zrep_len, hzs, List.length_replicate]
    · rw [List.size_toArray, zrep_len, hzs]; simp
    · rw [List.length_replicate, List.toList_toArray, Int.toNat_natCast, zrep_rep, List.take_of_length_le]
      rw [← zrep_rep, zrep_len, hzs]; omega
  have := O.mk (mx := mx) hO (els_rep (hx _) n) (fun _ _ h => h) (by simpa using hn)
  simp only [Int.toNat_natCast] at *
  exact this.wide fun b h _ => h.elim (fun h => h.elim) fun h => by simpa [blkOf] using h
end
theorem len2 {l : List Value} (h : l.length = 2) : ∃ a b, l = [a, b] := by
  match l, h with
  | [a, b], _ => exact ⟨a, b, rfl⟩
section
variable {w : World} {E F B : Nat}
end
end Go.Ev
