-- Words of the kit's print, turned by mkwords.py (in wip/), remarks taken out; checked by Lean alone.
import Derived.Test.YtjpacbedcocohaaVMore
namespace Go.Proofs.YtjpacbedcocohaaV.PrintWords
open Go.RowKit
section
variable {P : Program}
theorem clip_run (t e : TypeId) (kh km : IntKind) {i : TypeInfo} (ht : P.underlying t = some (.slice e)) (hi : P.info? e = some i) (A : Option Addr) (n c : Nat) (hc : n ≤ c) :
    ∀ W : World, (Instr.slice t (.slice A n c) none (some (.int kh (n : Int))) (some (.int km (n : Int)))).run P W = .ok (.slice A n n) W := by
  intro W
  have hel : P.elem t = e := by simp [Program.elem, ht]
  have hu : P.underlying t = some (.slice (P.elem t)) := by rw [hel]; exact ht
  have ha : (A.map fun x => x.add 0) = A := by cases A <;> simp [Addr.add]
  rw [run_slice_hm W t A n c hu kh km n n (by omega) (by omega) (by omega), hel]
  simp [sizeOf, typeInfo, hi, sliced, Result.andThen, ha]
theorem none_run (t e : TypeId) (kh km : IntKind) {i : TypeInfo} (ht : P.underlying t = some (.slice e)) (hi : P.info? e = some i) (A : Option Addr) (n c : Nat) :
    ∀ W : World, (Instr.slice t (.slice A n c) none (some (.int kh 0)) (some (.int km 0))).run P W = .ok (.slice A 0 0) W := by
  intro W
  have hel : P.elem t = e := by simp [Program.elem, ht]
  have hu : P.underlying t = some (.slice (P.elem t)) := by rw [hel]; exact ht
  rw [run_slice_hm W t A n c hu kh km 0 0 (by omega) (by omega) (by omega), hel]
  simp [sizeOf, typeInfo, hi, sliced, Result.andThen]
end
namespace Kd
variable {α : Type} {d : Kd α} {e n c : Nat} {w : World} {base : Nat} {ok : Nat → Prop} {A : Option Addr} {xs : List α}
theorem clip_blk {k c' : Nat} (hk : (Value.slice A n c').ownBlk = some k) (hc : c' ≤ c) : (Value.slice A n c).ownBlk = some k := by
  cases A with
  | none => simp [Value.ownBlk] at hk
  | some a =>
    obtain ⟨h1, h2⟩ := Value.ownBlk_some hk
    rw [Value.ownBlk_pos (by omega), h1]
theorem R_clip (h : d.R e w base ok (.slice A n c) xs) : d.R e w base ok (.slice A n n) xs := by
  have hr := R_reads' h
  obtain ⟨h0, inner, ho, hreps⟩ := h
  refine ⟨fun k hk => h0 k (clip_blk hk hr.2.1), inner, ?_, hreps.imp_ (fun p q hp => d.M_mono (fun k hk => ⟨hk.1, fun he => hk.2 (clip_blk he.symm hr.2.1).symm⟩) hp)⟩
  have hn := hr.1
  subst hn
  exact ownsL_clip ho (Nat.le_refl _) hr.2.1
theorem R_empty (d : Kd α) (e : Nat) (w : World) (base : Nat) (ok : Nat → Prop) (A : Option Addr) : d.R e w base ok (.slice A 0 0) [] :=
  ⟨fun k hk => absurd (Value.ownBlk_zero.symm.trans hk) (by simp), [], ownsL_empty w base e d.sz A, Reps.none _ _⟩
end Kd
end Go.Proofs.YtjpacbedcocohaaV.PrintWords
