/- A part of the proof, without conditions. -/
import Derived.Laws.DeepStrings4
import Derived.Laws.Slices
import Derived.Test.YtkhbpmhagpljiaaGreatDoorEvJ
set_option linter.unusedVariables false
set_option linter.unusedSimpArgs false
set_option linter.deprecated false
namespace Go.Ev
open Go Go.RowKit
section
variable {P : Program}
theorem QY {t : TypeId} (h : P.underlying t = some .string) (s : ByteArray) {i j : Int} (h0 : 0 ≤ i) (h1 : i ≤ j) (h2 : j ≤ s.size) (w : World) : sl P t (.string s) (some (i64 i)) (some (i64 j)) none w = some (.string (s.extract i.toNat j.toNat), w) := by
 have := run_slice_string_if (P := P) (w := w) t s .i64 .i64 i j h
 rw [if_pos ⟨by omega, h2⟩, if_pos ⟨h0, h1⟩] at this
 exact congrArg ro ((run_sliceAt_string (P := P) (w := w) t (.string s) (some (i64 i)) (some (i64 j)) none h).trans this)
theorem VU {t e n s : Nat} (h : P.underlying t = some (.array n e)) (hs : RI P e = some s) {b o : Nat} {i j : Int} (h0 : 0 ≤ i) (h1 : i ≤ j) (h2 : j ≤ n) (w : World) :
  sl P t (pt b o) (some (i64 i)) (some (i64 j)) none w = some (slicedAt ⟨b, o, none⟩ i.toNat j.toNat n s, w) := by
 have hl : P.arrayLen t = n := by simp [Program.arrayLen, h]
 have he : P.elem t = e := by simp [Program.elem, h]
 have := run_sliceAt_array_lh (P := P) w t ⟨b, o, none⟩ (by rw [hl, he]; exact h) .i64 .i64 i j h0 h1 (by rw [hl]; exact h2)
 rw [hl, he, Bk hs, Result.andThen_ok] at this
 exact congrArg ro this
theorem JP {t : TypeId} (h : P.underlying t = Option.some .string) (s : ByteArray) {k : IntKind} {i : Int} (h0 : 0 ≤ i) {b : UInt8} (hb : s.toList[i.toNat]? = Option.some b) (w : World) : ix P t (.string s) (.int k i) w = Option.some (.int .u8 b.toNat, w) := by
 have hb' : s[i.toNat]? = Option.some b := by
  rw [ByteArray.toList_eq] at hb
  obtain ⟨hn, hv⟩ := List.getElem?_eq_some_iff.1 hb
  have hn' : i.toNat < s.size := by simpa using hn
  rw [ByteArray.getElem?_lt' s _ hn', ← hv]
  rfl
 simp [ix, Instr.index, asIntOf, run_underlying h, h0, hb', ro]
theorem RB (t : TypeId) (x y : Operand) (k : IntKind) (n : Int) {c : Int} (hc : 0 ≤ c) (w : World) : bo P .shr t x y (.int k n) (.int .u64 c) w = some (.int k (n / 2 ^ min c.toNat k.bits), w) := by
 unfold bo
 rw [show eqGuard .shr t x y (.int k n) (.int .u64 c) = pure () from rfl, show binOp .shr t (.int k n) (.int .u64 c) = Op.shift .shr k n .u64 c from rfl]
 have hn : ¬ c < 0 := by omega
 simp [Op.shift, ro, hn]
 exact Int.fdiv_eq_ediv_of_nonneg _ (Int.le_of_lt (Int.pow_pos AD))
end
theorem VV : ∀ n : Nat, n < 10 → (⟨#[48, 49, 50, 51, 52, 53, 54, 55, 56, 57, 97, 98, 99, 100, 101, 102, 103, 104, 105, 106, 107, 108, 109, 110, 111, 112, 113, 114, 115, 116, 117, 118, 119, 120, 121, 122]⟩ : ByteArray).extract n (n + 1) = AZ [dg n] := by decide +kernel
def Gl : ByteArray := { data := #[48, 48, 48, 49, 48, 50, 48, 51, 48, 52, 48, 53, 48, 54, 48, 55, 48, 56, 48, 57, 49, 48, 49, 49, 49, 50, 49, 51, 49, 52, 49, 53, 49, 54, 49, 55, 49, 56, 49, 57, 50, 48, 50, 49, 50, 50, 50, 51, 50, 52, 50, 53, 50, 54, 50, 55, 50, 56, 50, 57, 51, 48, 51, 49, 51, 50, 51, 51, 51, 52, 51, 53, 51, 54, 51, 55, 51, 56, 51, 57, 52, 48, 52, 49, 52, 50, 52, 51, 52, 52, 52, 53, 52, 54, 52, 55, 52, 56, 52, 57, 53, 48, 53, 49, 53, 50, 53, 51, 53, 52, 53, 53, 53, 54, 53, 55, 53, 56, 53, 57, 54, 48, 54, 49, 54, 50, 54, 51, 54, 52, 54, 53, 54, 54, 54, 55, 54, 56, 54, 57, 55, 48, 55, 49, 55, 50, 55, 51, 55, 52, 55, 53, 55, 54, 55, 55, 55, 56, 55, 57, 56, 48, 56, 49, 56, 50, 56, 51, 56, 52, 56, 53, 56, 54, 56, 55, 56, 56, 56, 57, 57, 48, 57, 49, 57, 50, 57, 51, 57, 52, 57, 53, 57, 54, 57, 55, 57, 56, 57, 57] }
def P6 : ByteArray := { data := #[0, 1, 2, 2, 3, 3, 3, 3, 4, 4, 4, 4, 4, 4, 4, 4, 5, 5, 5, 5, 5, 5, 5, 5, 5, 5, 5, 5, 5, 5, 5, 5, 6, 6, 6, 6, 6, 6, 6, 6, 6, 6, 6, 6, 6, 6, 6, 6, 6, 6, 6, 6, 6, 6, 6, 6, 6, 6, 6, 6, 6, 6, 6, 6, 7, 7, 7, 7, 7, 7, 7, 7, 7, 7, 7, 7, 7, 7, 7, 7, 7, 7, 7, 7, 7, 7, 7, 7, 7, 7, 7, 7, 7, 7, 7, 7, 7, 7, 7, 7, 7, 7, 7, 7, 7, 7, 7, 7, 7, 7, 7, 7, 7, 7, 7, 7, 7, 7, 7, 7, 7, 7, 7, 7, 7, 7, 7, 7, 8, 8, 8, 8, 8, 8, 8, 8, 8, 8, 8, 8, 8, 8, 8, 8, 8, 8, 8, 8, 8, 8, 8, 8, 8, 8, 8, 8, 8, 8, 8, 8, 8, 8, 8, 8, 8, 8, 8, 8, 8, 8, 8, 8, 8, 8, 8, 8, 8, 8, 8, 8, 8, 8, 8, 8, 8, 8, 8, 8, 8, 8, 8, 8, 8, 8, 8, 8, 8, 8, 8, 8, 8, 8, 8, 8, 8, 8, 8, 8, 8, 8, 8, 8, 8, 8, 8, 8, 8, 8, 8, 8, 8, 8, 8, 8, 8, 8, 8, 8, 8, 8, 8, 8, 8, 8, 8, 8, 8, 8, 8, 8, 8, 8, 8, 8, 8, 8, 8, 8, 8, 8, 8, 8, 8, 8, 8, 8] }
theorem VW : ∀ n : Nat, n < 100 → 10 ≤ n → Gl.extract (n * 2) (n * 2 + 2) = AZ [dg (n / 10), dg (n % 10)] := by decide +kernel
theorem Sz : ∀ n : Nat, n < 100 → Gl.toList[n * 2]? = some (dg (n / 10)) ∧ Gl.toList[n * 2 + 1]? = some (dg (n % 10)) := by decide +kernel
theorem RC : ∀ n : Nat, n < 256 → P6.toList[n]? = some (UInt8.ofNat (if n = 0 then 0 else n.log2 + 1)) := by decide +kernel
theorem VX : ∀ n : Nat, n < 256 → 100 ≤ n → 7 ≤ (UInt8.ofNat (if n = 0 then 0 else n.log2 + 1)).toNat ∧ (UInt8.ofNat (if n = 0 then 0 else n.log2 + 1)).toNat ≤ 8 := by decide +kernel
theorem VY : ∀ n : Nat, n < 4 → 1 ≤ n → 1 ≤ (UInt8.ofNat (if n = 0 then 0 else n.log2 + 1)).toNat ∧ (UInt8.ofNat (if n = 0 then 0 else n.log2 + 1)).toNat ≤ 2 := by decide +kernel
theorem Xb {x : Int} (h0 : 0 ≤ x) (h1 : x < 256) : IntKind.u8.wrap x = x := by
 have h : x % 256 = x := Int.emod_eq_of_lt h0 h1
 simp [IntKind.wrap, IntKind.bits, IntKind.signed, h]
theorem Tr {x : Int} (h0 : 0 ≤ x) (h1 : x < 4294967296) : IntKind.u32.wrap x = x := by
 have h : x % 4294967296 = x := Int.emod_eq_of_lt h0 h1
 simp [IntKind.wrap, IntKind.bits, IntKind.signed, h]
theorem Xc {x : Int} (h0 : 0 ≤ x) (h1 : x < 18446744073709551616) : IntKind.u64.wrap x = x := by
 have h : x % 18446744073709551616 = x := Int.emod_eq_of_lt h0 h1
 simp [IntKind.wrap, IntKind.bits, IntKind.signed, h]
end Go.Ev
