-- Written by pp.py (in wip/): a program of this session over the kit's print; checked by Lean alone.
import Derived.Test.YtfkoecaejfkjpaaProg
import Derived.Below
import Derived.Deep.Draws
import Derived.Deep.AppendLies
import Derived.Maps.AppendAt
import Derived.OwnWalk
import Derived.Laws.BytesArg
import Derived.Laws.MakeOwn
import Derived.Laws.OwnMore
import Derived.Deep.OwnRows
import Derived.Tactics
import Derived.Lib.ConvBytes
import Derived.Laws.Slices
import Derived.WalkKit
import Derived.KernelRfl
import Derived.RowKit3
import Derived.Deep.LoopGhost
import Derived.Deep.QuietTactic
import Derived.BigQuiet
import Derived.WideLaws
import Derived.Deep.DeepCutAuto
import Derived.Deep.CutBlock
import Derived.Deep.RegionHeld3
import Derived.Laws.Rows
import Derived.Lib.AppendStr
import Derived.ArgAppend
import Derived.Laws.IdiomCopy
import Derived.OrdersHeld
import Derived.Laws.BitsLemmas
import Derived.RowKit
import Derived.Test.YtfkoecaejfkjpaaVRd
import Derived.Test.YtfkoecaejfkjpaaVWords
import Derived.Test.YtfkoecaejfkjpaaVLast
import Derived.Test.YtfkoecaejfkjpaaVTab
import Derived.Test.YtfkoecaejfkjpaaVFour
import Derived.Test.YtfkoecaejfkjpaaVQPut
import Derived.Test.YtfkoecaejfkjpaaVApart
import Derived.Test.YtfkoecaejfkjpaaVArr
import Derived.Test.YtfkoecaejfkjpaaVZeros
import Derived.Test.YtfkoecaejfkjpaaVFoot
import Derived.Test.YtfkoecaejfkjpaaVKept
import Derived.Test.YtfkoecaejfkjpaaVShare
import Derived.Test.YtfkoecaejfkjpaaVN
import Derived.Test.YtfkoecaejfkjpaaVFootNe
import Derived.Test.YtfkoecaejfkjpaaVAt
import Derived.Test.YtfkoecaejfkjpaaVEqStruct
import Derived.Test.YtfkoecaejfkjpaaVRepsOne
import Derived.Test.YtfkoecaejfkjpaaVInv
import Derived.Test.YtfkoecaejfkjpaaVInvWords
import Derived.Test.YtfkoecaejfkjpaaVGuard
import Derived.Test.YtfkoecaejfkjpaaVNEv
import Derived.Test.YtfkoecaejfkjpaaVMore
import Derived.Test.YtfkoecaejfkjpaaVClip
namespace Go.Proofs.Ytfkoecaejfkjpaa.PFnExactRingOk
open Go.RowKit Go.Proofs.YtfkoecaejfkjpaaV.PrintWords Go.Proofs.YtfkoecaejfkjpaaV.PrintLast Go.Proofs.YtfkoecaejfkjpaaV.PrintMore
attribute [local go_sem] max2_int min2_int max_two min_two max_three min_three max_four min_four   -- for this text's walks alone
set_option linter.unusedVariables false
set_option linter.unusedSimpArgs false



def errW : Option Int → Value
  | none => .nilIface
  | some c => .iface 0 (.int .i64 c)
theorem errW_none : errW none = .nilIface := rfl
theorem errW_some (c : Int) : errW (some c) = .iface 0 (.int .i64 c) := rfl

theorem info9 : (Try.prog.info? 9).map (fun i => (i.zero, i.size, i.bytes)) = some (some (.string ⟨#[]⟩), 1, 16) := by kernel_rfl
-- the values' own types
def rd_L1 (xs : List (List ByteArray)) (i : Int) : (List ByteArray) := xs.getD i.toNat ([] : List ByteArray)
theorem at_L1 {w : World} {A : Option Addr} {n : Nat} {xs : List (List ByteArray)} (h : Kd.C (Kd.slice 9 Kd.string) w A n xs) (i : Int) (h0 : 0 ≤ i) (h1 : i < n) : ∃ ad A0 c0, A = some ad ∧ w.cell? (ad.add i.toNat) = some (.slice A0 (rd_L1 xs i).length c0) ∧ (rd_L1 xs i).length ≤ c0 ∧ Kd.string.C w A0 (rd_L1 xs i).length (rd_L1 xs i) := by
  obtain ⟨ad, c, e, _, hK, hc0⟩ := Kd.C_get h ([] : List ByteArray) i h0 h1
  have hc : ∀ j u, c[j]? = some u → w.cell? (ad.add (i.toNat * 1 + j)) = some u := hc0
  obtain ⟨A0, c0, rfl, l0, g0⟩ := hK
  exact ⟨ad, A0, c0, e, by have hq := hc 0 _ rfl; rwa [Nat.mul_one, Nat.add_zero] at hq, l0, g0⟩

/-! #### struct type 44 -/
structure S44 where
  f0 : (List ByteArray)
def z44 : S44 := ⟨([] : List ByteArray)⟩
def k44 : Kd S44 := Kd.iso (Kd.slice 9 Kd.string) (fun x : S44 => x.f0)
theorem k44_open {w : World} {x : S44} {cs : List Value} (h : k44.K w x cs) : ∃ A0 c0, cs = [.slice A0 x.f0.length c0] ∧ x.f0.length ≤ c0 ∧ Kd.string.C w A0 x.f0.length x.f0 := by
  obtain ⟨A0, c0, rfl, l0, g0⟩ := h
  exact ⟨A0, c0, rfl, l0, g0⟩
theorem k44_openM {w : World} {base : Nat} {ok : Nat → Prop} {x : S44} {cs : List Value} (h : k44.M w base ok x cs) : ∃ v0, cs = [v0] ∧ Kd.string.R 9 w base ok v0 x.f0 := by
  obtain ⟨v0, rfl, g0⟩ := h
  exact ⟨v0, rfl, g0⟩
theorem k44_mk (w : World) (x : S44) {A0 : Option Addr} {c0 : Nat} (l0 : x.f0.length ≤ c0) (g0 : Kd.string.C w A0 x.f0.length x.f0) : k44.K w x [.slice A0 x.f0.length c0] := ⟨A0, c0, rfl, l0, g0⟩
theorem k44_mkM (w : World) (base : Nat) (ok : Nat → Prop) (x : S44) {v0 : Value} (g0 : Kd.string.R 9 w base ok v0 x.f0) : k44.M w base ok x [v0] := ⟨v0, rfl, g0⟩
def rd_T44 (xs : List S44) (i : Int) : S44 := xs.getD i.toNat z44
theorem at_T44 {w : World} {A : Option Addr} {n : Nat} {xs : List S44} (h : Kd.C k44 w A n xs) (i : Int) (h0 : 0 ≤ i) (h1 : i < n) : ∃ ad A0 c0, A = some ad ∧ w.cell? (ad.add i.toNat) = some (.slice A0 (rd_T44 xs i).f0.length c0) ∧ (rd_T44 xs i).f0.length ≤ c0 ∧ Kd.string.C w A0 (rd_T44 xs i).f0.length (rd_T44 xs i).f0 := by
  obtain ⟨ad, c, e, _, hK, hc0⟩ := Kd.C_get h z44 i h0 h1
  have hc : ∀ j u, c[j]? = some u → w.cell? (ad.add (i.toNat * 1 + j)) = some u := hc0
  obtain ⟨A0, c0, rfl, l0, g0⟩ := k44_open hK
  exact ⟨ad, A0, c0, e, by have hq := hc 0 _ rfl; rwa [Nat.mul_one, Nat.add_zero] at hq, l0, g0⟩

open Go.Proofs.Ytfkoecaejfkjpaa.Rd
def B44 (x : S44) : Prop := (x.f0.length * 16 ≤ 140737488351232 ∧ ∀ y ∈ x.f0, y.size ≤ 140737488351232)
theorem rd_S44 : Rd Try.prog 44 k44 B44 := rd_iso (fun p => (⟨p⟩ : S44)) (fun _ => rfl) (rd_struct Try.underlying44 (by kernel_rfl) rfl (rd_one rfl (by kernel_rfl) (rd_slice (bytes := 16) Try.underlying42 (by kernel_rfl) (by kernel_rfl) (rd_string Try.underlying9))))
end Go.Proofs.Ytfkoecaejfkjpaa.PFnExactRingOk
