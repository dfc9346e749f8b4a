/- A part of the proof: an evaluator of the model, its laws, and contracts of functions; no condition. -/
import Derived.Laws.CopyRow
import Derived.Test.YtcafhepclddcaaaEvO
set_option linter.unusedVariables false
set_option linter.unusedSimpArgs false
namespace Go.Ev
open Go Go.RowKit
/-! ### Cutting an element out of a row in place -/
section
variable {P : Program}
theorem clr_at {t ty e s y : Nat} (h : elB P t = some (e, s, y)) {z : List Value} (hz : zeroB P e = some z) (hzs : z.length = s) (hz1 : z.all Value.oneCell' = true) {w : World} {g o c : Nat} {cur : Array Value} (hh : hp w g = some (.cells cur e (0, 0))) (hfit : o + s ≤ cur.size) :
    b_clear P #[t] ty #[.slice (some ⟨g, o, none⟩) 1 c] w = some (.tuple #[], w.setRow g (cur.toList.take o ++ z ++ cur.toList.drop (o + s)).toArray) := by
  obtain ⟨hu, i, hi, h4, h5⟩ := elB_spec h
  obtain ⟨i', zv, hi', hv, h6⟩ := zeroB_spec hz
  rw [hi] at hi'
  cases hi'
  have hzc : (Builtin.zeroCells zv.cells 1).toList = z := by
    rw [← h6]
    apply List.ext_getElem
    · simp [Builtin.zeroCells]
    · intro j h1 h2
      simp [Builtin.zeroCells] at h1 ⊢
      simp only [Array.getElem!_eq_getD, Nat.mod_eq_of_lt h1]
      simp [Array.getD, h1]
  have hst := run_storeCells_at (P := P) g o e z 0 cur w hh (by rw [Nat.add_zero, hzs]; exact hfit) (fun v hv => List.all_eq_true.1 hz1 v hv)
  rw [Nat.add_zero, hzs] at hst
  simp [b_clear, Builtin.clear_, run_underlying hu, zeroValue, typeInfo, hi, hv, hzc, hst, ro]
theorem sl_lh {t e : TypeId} {z : Nat × Nat} (h : elB P t = Option.some (e, z)) {b o len cap : Nat} {l n : Int} (h0 : 0 ≤ l) (h1 : l ≤ n) (h2 : n ≤ cap) (h3 : l.toNat ≠ cap) (w : World) :
    sl P t (.slice (Option.some ⟨b, o, none⟩) len cap) (Option.some (i64 l)) (Option.some (i64 n)) none w = Option.some (.slice (Option.some ⟨b, o + l.toNat * z.1, none⟩) (n.toNat - l.toNat) (cap - l.toNat), w) := by
  obtain ⟨hu, hs⟩ := elem_eq h
  simp only [sl, run_sliceAt_slice w t _ _ _ _ hu, run_slice_lh w t _ len cap hu .i64 .i64 l n h0 h1 h2, run_sizeOf' hs, Result.andThen_ok, sliced, ro]
  simp [add_lit, Ne.symm h3]
theorem sl_lhm {t e : TypeId} {z : Nat × Nat} (h : elB P t = Option.some (e, z)) {a : Option Addr} {len cap : Nat} {l n m : Int} (h0 : 0 ≤ l) (h1 : l ≤ n) (h2 : n ≤ m) (h3 : m ≤ cap) (w : World) :
    ∃ v, sl P t (.slice a len cap) (Option.some (i64 l)) (Option.some (i64 n)) (Option.some (i64 m)) w = Option.some (v, w) := by
  obtain ⟨hu, hs⟩ := elem_eq h
  refine ⟨sliced a l.toNat n.toNat m.toNat z.1, ?_⟩
  simp only [sl, run_sliceAt_slice w t _ _ _ _ hu, run_slice_lhm w t a len cap hu .i64 .i64 .i64 l n m h0 h1 h2 h3, run_sizeOf' hs, Result.andThen_ok, ro]
end
section
variable {α : Type} {L : Lay α} {S S' : Nat → Prop} {w : World} {E : TypeId} {mx : Nat}
end
end Go.Ev
