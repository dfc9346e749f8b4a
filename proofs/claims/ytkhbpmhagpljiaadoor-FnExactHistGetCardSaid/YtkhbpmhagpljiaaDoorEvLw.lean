/- A part of the proof: an evaluator of the model, its laws, and contracts of functions; no condition. -/
import Derived.Lib.Builder
import Derived.Lib.AppendStr
import Derived.Lib.MakeNoZero
import Derived.Test.YtkhbpmhagpljiaaDoorEvLv
set_option linter.unusedVariables false
set_option linter.unusedSimpArgs false
namespace Go.Ev
open Go Go.RowKit
/-! ### A text that is built in a row of bytes -/
section
variable {P : Program}
theorem cv_tou {src dst t e : TypeId} {n : Nat} (hs : P.underlying src = some (.pointer t)) (hd : P.underlying dst = some .unsafePointer) (ht : (P.info? t).map (·.size) = some n) (hn : n ≠ 0) {w : World} {b o : Nat} {cs : Array Value} (hg : hp w b = some (.cells cs e (0, 0))) (ho : o < cs.size) :
    cv P src dst (pt b o) w = some (pt b o, w) := by
  obtain ⟨j, hj, hj2⟩ := Option.map_eq_some_iff.1 ht
  have hg' : w.heap[b]? = some (.cells cs e (0, 0)) := hg
  rw [cv, Lib.run_to_unsafe (P := P) w ⟨b, o, none⟩ hs hd hj (by omega) (by unfold World.shape?; rw [hg']) ho]
  rfl
theorem cv_fromu {src dst u e : TypeId} {n m : Nat} (hs : P.underlying src = some .unsafePointer) (hd : P.underlying dst = some (.pointer u)) (hu : (P.info? u).map (·.size) = some n) {w : World} {b o : Nat} {cs : Array Value} (hg : hp w b = some (.cells cs e (0, 0))) (hm : cs.size = m) (hlies : liesAt P P.depth e (m / P.cellsOf e) o u 1 = true) :
    cv P src dst (pt b o) w = some (pt b o, w) := by
  obtain ⟨j, hj, hj2⟩ := Option.map_eq_some_iff.1 hu
  have hg' : w.heap[b]? = some (.cells cs e (0, 0)) := hg
  rw [cv, Lib.run_from_unsafe (P := P) w ⟨b, o, none⟩ hs hd hj (by unfold World.shape?; rw [hg']) (by rw [hm]; exact hlies)]
  rfl
theorem bo_neq_pts {t te : TypeId} {n : Nat} (h : P.underlying t = some (.pointer te)) (ht : (P.info? te).map (·.size) = some n) (x y : Operand) (b o : Nat) (w : World) : bo P .neq t x y (pt b o) (pt b o) w = some (.bool false, w) := by
  obtain ⟨j, hj, hj2⟩ := Option.map_eq_some_iff.1 ht
  have := Lib.run_neq_ptr_same (P := P) w ⟨b, o, none⟩ h hj
  simp [bo, eqGuard, this, ro]
theorem bo_eql_ptn {t te : TypeId} (h : P.underlying t = some (.pointer te)) (x y : Operand) (a : Option Addr) (w : World) : bo P .eql t x y (.pointer a) (.pointer none) w = some (.bool a.isNone, w) := by
  have : (Op.equal t (.pointer a) (.pointer none)).run P w = .ok a.isNone w := by
    unfold Op.equal
    rw [show Op.maxDepth = 9999 + 1 from rfl, Op.equalIn]
    cases a <;> simp [run_underlying h]
  simp [bo, eqGuard, binOp, this, ro]
theorem gn_usd (dst : Option Tmp) (a : Nat) (ats : Array TypeId) (ty : TypeId) (pos : String) (after : Array Edge) (e : Env) (w : World) :
    gn P { dst := dst, op := .call { callee := .builtin .unsafeSliceData, args := #[.tmp a], argTypes := ats }, type := ty, pos := pos, after := after, guard := none } e w = ro ((Builtin.unsafeSliceData_ ats ty #[e a]).run P w) := by
  unfold gn
  rw [BigFrame.execOp_builtin, BigFrame.builtin_unsafeSliceData]
  have h : (#[Operand.tmp a].map (val e)) = #[e a] := by simp [val]
  rw [h, Sem.run_bind]
  cases (Builtin.unsafeSliceData_ ats ty #[e a]).run P w <;> rfl
theorem usd_row (ts : Array TypeId) (ty : TypeId) (g n : Nat) {c : Nat} (hc : 0 < c) (w : World) : ro ((Builtin.unsafeSliceData_ ts ty #[.slice (some ⟨g, 0, none⟩) n c]).run P w) = some (pt g 0, w) := by
  rw [Lib.run_unsafeSliceData_row (P := P) w ts ty ⟨g, 0, none⟩ n c (by omega)]
  rfl
theorem us_head {pt' it ty e : TypeId} (hp' : P.underlying pt' = some (.pointer e)) (hc : P.cellsOf e = 1) {w : World} {g : Nat} {l : List UInt8} {cur : List Value} (h0 : 0 < l.length) (h1 : l.length ≤ 9223372036854775807) (hg : hp w g = some (.cells cur.toArray e (0, 0))) (ht : cur.take l.length = Lib.byteCells l) :
    ro ((Builtin.unsafeString_ #[pt', it] ty #[pt g 0, i64 l.length]).run P w) = some (.string (bts l), w.freeze ⟨g, 0, none⟩ l.length) := by
  have hg' : w.heap[g]? = some (.cells cur.toArray e (0, 0)) := hg
  have hbl : (Lib.byteCells l).length = l.length := Lib.byteCells_length l
  have hcl : l.length ≤ cur.length := by rw [← ht, List.length_take] at hbl; omega
  have := Lib.run_unsafeString_row (P := P) (w := w) pt' it ty e hp' hc g cur.length (by unfold World.shape?; rw [hg']; simp) l (by intro h; rw [h] at h0; simp at h0) hcl h1
    (fun j x hx => Lib.cells_of_row hg' l.length j _ (by rw [List.toList_toArray, ht]; simp [Lib.byteCells, hx]))
  rw [this]
  rfl
end
end Go.Ev
