/- A part of the proof: an evaluator of the model, its laws, and contracts of functions; no condition. -/
import Derived.Test.YtkhbpmhagpljiaaDoorEvI
set_option linter.unusedVariables false
set_option linter.unusedSimpArgs false
namespace Go.Ev
open Go Go.RowKit
/-! ### Texts -/
def dg (k : Nat) : UInt8 := UInt8.ofNat (48 + k)
def decL (n : Nat) : List UInt8 := if h : n < 10 then [dg n] else decL (n / 10) ++ [dg (n % 10)]
 termination_by n
 decreasing_by omega
def bts (l : List UInt8) : ByteArray := ⟨l.toArray⟩
theorem bts_list (l : List UInt8) : (bts l).toList = l := by rw [ByteArray.toList_eq]; simp [bts]
theorem bts_size (l : List UInt8) : (bts l).size = l.length := by simp [bts, ByteArray.size]
theorem bts_of (s : ByteArray) : bts s.toList = s := by
  rw [ByteArray.toList_eq]
  cases s
  simp [bts]
theorem text_ext {a b : ByteArray} (h : a.toList = b.toList) : a = b := by rw [← bts_of a, h, bts_of]
theorem bts_app (a b : List UInt8) : bts a ++ bts b = bts (a ++ b) := by
  apply text_ext
  rw [bts_list, ByteArray.toList_eq, ByteArray.data_append]
  simp [bts]
theorem decL_lt {n : Nat} (h : n < 10) : decL n = [dg n] := by rw [decL, dif_pos h]
theorem decL_ge {n : Nat} (h : ¬ n < 10) : decL n = decL (n / 10) ++ [dg (n % 10)] := by rw [decL, dif_neg h]
theorem decL_len (n : Nat) : 1 ≤ (decL n).length ∧ (decL n).length ≤ n + 1 := by
  induction n using Nat.strongRecOn with
  | _ n ih =>
    by_cases h : n < 10
    · rw [decL_lt h]; simp
    · rw [decL_ge h, List.length_append]
      have := ih (n / 10) (by omega)
      simp only [List.length_singleton]
      omega
def tagL (t : Tag) : List UInt8 := decL t.t.toNat ++ (46 :: decL t.p.toNat)
theorem tmod_nat (a b : Nat) : (a : Int).tmod (b : Int) = ((a % b : Nat) : Int) := by
  rw [Int.tmod_eq_emod_of_nonneg (by omega)]; rfl
theorem tdiv_nat (a b : Nat) : (a : Int).tdiv (b : Int) = ((a / b : Nat) : Int) := by
  rw [Int.tdiv_eq_ediv_of_nonneg (by omega)]; rfl
theorem mk_bts (l : List UInt8) : ByteArray.mk l.toArray = bts l := rfl
theorem bo_add_btx {P : Program} (t : TypeId) (x y : Operand) {a : List UInt8} {s : ByteArray} (h : a.length + s.size ≤ 9223372036854775807) (w : World) : bo P .add t x y (.string (bts a)) (.string s) w = some (.string (bts (a ++ s.toList)), w) := by
  rw [bo_add_str t x y (by rw [bts_size]; exact h) w]
  congr 3
  rw [← bts_of s, bts_app, bts_list]
theorem bytesOf_bts (x : Int) : bytesOf [x] = bts [UInt8.ofNat x.toNat] := by
  apply text_ext
  rw [bts_list, ByteArray.toList_eq]
  rfl
theorem u8_small {x : Int} (h0 : 0 ≤ x) (h1 : x ≤ 255) : IntKind.u8.wrap x = x := by
  simp only [IntKind.wrap, IntKind.bits, IntKind.signed, Bool.false_and]
  simp
  omega
end Go.Ev
