/- A part of the proof: an evaluator of the model, its laws, and contracts of functions; no condition. -/
import Derived.Test.YtgdacclgooaodaaGreatDoorU4
set_option linter.unusedVariables false
set_option linter.unusedSimpArgs false
set_option maxRecDepth 100000
set_option maxHeartbeats 1000000
namespace Go.Proofs.YtgdacclgooaodaaGreatDoor.X
open Go Go.Ev Go.RowKit
theorem len7 {α : Type} {l : List α} (h : l.length = 7) : ∃ a b c d e f g, l = [a, b, c, d, e, f, g] := by
  match l, h with
  | [a, b, c, d, e, f, g], _ => exact ⟨a, b, c, d, e, f, g, rfl⟩
theorem lit_tagU {t : Tag} {g : Nat} {e : TypeId} {w : World} (h : hp w g = some (.cells #[i64 t.t, i64 t.p] e (0, 0))) : D tTags (fun b => b = g) w [.slice (some ⟨g, 0, none⟩) 1 1] [t] := by
  refine D.ofSl (css := [tagC t]) ⟨_, _, rfl, by simp, .inr ⟨g, 0, rfl, fun j v hj => ?_⟩⟩ ⟨D.tag.2 rfl, trivial⟩ (fun b hb => ?_) (by simp)
  · rw [h]
    simpa [cellO] using hj
  · simp only [blkOf, Option.toList_some, List.mem_singleton] at hb
    subst hb
    exact ⟨rfl, hp_lt h⟩
/-- What is read as a version. -/
def VerGot (l : List UInt8) (v : Ver) (ok : Bool) : Prop := (ok = true → verOk v = true ∧ verL v = l) ∧ (ok = false → v = verZ ∧ ∀ v', verOk v' = true → verL v' ≠ l)
theorem VerGot.eq {l : List UInt8} {t t' : Ver} {ok ok' : Bool} (h : VerGot l t ok) (h' : VerGot l t' ok') : t = t' ∧ ok = ok' := by
  cases ok <;> cases ok'
  · exact ⟨(h.2 rfl).1.trans (h'.2 rfl).1.symm, rfl⟩
  · exact absurd (h'.1 rfl).2 ((h.2 rfl).2 _ (h'.1 rfl).1)
  · exact absurd (h.1 rfl).2 ((h'.2 rfl).2 _ (h.1 rfl).1)
  · exact ⟨verL_inj (h.1 rfl).1 (h'.1 rfl).1 ((h.1 rfl).2.trans (h'.1 rfl).2.symm), rfl⟩
def cutP (c : UInt8) : List UInt8 → List UInt8 × Bool
  | [] => ([], false)
  | b :: r => if b = c then (r, true) else (b :: r, false)
theorem cutP_len (c : UInt8) (l : List UInt8) : (cutP c l).1.length ≤ l.length := by
  cases l with
  | nil => simp [cutP]
  | cons b r => simp only [cutP]; split <;> simp
def restP (l : List UInt8) : List UInt8 × Bool × Bool := if l = [45] then ([], true, true) else ((cutP 61 l).1, false, (cutP 61 l).2)
theorem restP_of {v : Ver} (h : verOk v = true) : restP (restL v) = (v.text.toList, v.gone, true) := by
  obtain ⟨a1, a2, a3, a4, a5, a6, a7⟩ := ver_parts h
  unfold restL
  cases hg : v.gone
  · have : (61 :: v.text.toList : List UInt8) ≠ [45] := by intro e; exact absurd (List.cons.inj e).1 (by decide)
    simp [restP, cutP]
  · simp [restP, a4 hg]
def PastGot (ws : List (List UInt8)) (p : List Tag) (ok : Bool) : Prop := (ok = true → (∀ t ∈ p, tagOk t = true) ∧ p.map tagL = ws) ∧ (ok = false → ∀ ts : List Tag, (∀ t ∈ ts, tagOk t = true) → ts.map tagL ≠ ws)
theorem tags_inj : ∀ {a b : List Tag}, (∀ t ∈ a, tagOk t = true) → (∀ t ∈ b, tagOk t = true) → a.map tagL = b.map tagL → a = b
  | [], [], _, _, _ => rfl
  | [], _ :: _, _, _, h => by simp at h
  | _ :: _, [], _, _, h => by simp at h
  | x :: a, y :: b, ha, hb, h => by
    simp only [List.map_cons, List.cons.injEq] at h
    rw [tagL_inj (ha x List.mem_cons_self) (hb y List.mem_cons_self) h.1, tags_inj (fun t ht => ha t (List.mem_cons_of_mem _ ht)) (fun t ht => hb t (List.mem_cons_of_mem _ ht)) h.2]
theorem hasPrefix_m (l : List UInt8) (c : UInt8) (w : World) : Ret (EV P 103 #[.string (bts l), .string (bts [c])] w) fun r => r = (.bool (cutP c l).2, w) := by
  refine Ret.post fun Q hQ => ?_
  refine Ret.enter plain mixed (internal_stringslite_HasPrefix_fn _ _ _) (by kernel_rfl) (n := 2) (by kernel_rfl) rfl ?_
  cases l with
  | nil =>
    simp (maxSteps := 1000000) (disch := first | assumption | omega | (simp only [World.size_alloc, size_setRow, dw_size]; done) | (simp only [World.size_alloc, size_setRow, dw_size] <;> omega) | (simp only [List.length_set, Array.length_toList, List.length_cons, List.length_nil, List.length_append, bts_size] <;> omega) | (simp only [List.all_cons, List.all_nil, Value.oneCell', Bool.and_self, Bool.and_true]; done)) [-Option.bind_some, hp_alloc_lt, hp_alloc_eq, hp_set_ne, wrap_small, ups_ap_cons, ups_ap_nil, upd_same, upd_other, env0_ap0, env0_aps, xt_a, xt_b, xt_c, nk_ptr, -splice_eq, -stR_cells, stR_box, stR_boxA, stR_row, stR_row0, stR_row1, stR_rowA, stR_rowA0, splice_rowv, splice_rowv0, splice_rowv1, splice_z, splice_n, splice_s, nth_rowv, nth_rowv0, nth_rowv1, rowv_len, bts_size]
    exact hQ _ rfl
  | cons b r =>
    have hlen : ((b :: r).length : Int) = (r.length : Int) + 1 := by rw [List.length_cons]; omega
    have hs1 := fun w => sl_str_to (P := P) (t := 9) (by kernel_rfl) (b :: r) (j := 1) (by omega) (by rw [hlen]; omega) w
    rw [show (b :: r).take (1 : Int).toNat = [b] from rfl] at hs1
    by_cases hb : b = c
    · subst hb
      simp (maxSteps := 1000000) (disch := first | assumption | omega | (simp only [World.size_alloc, size_setRow, dw_size]; done) | (simp only [World.size_alloc, size_setRow, dw_size] <;> omega) | (simp only [List.length_set, Array.length_toList, List.length_cons, List.length_nil, List.length_append, bts_size] <;> omega) | (simp only [List.all_cons, List.all_nil, Value.oneCell', Bool.and_self, Bool.and_true]; done)) [-Option.bind_some, hp_alloc_lt, hp_alloc_eq, hp_set_ne, wrap_small, ups_ap_cons, ups_ap_nil, upd_same, upd_other, env0_ap0, env0_aps, xt_a, xt_b, xt_c, nk_ptr, -splice_eq, -stR_cells, stR_box, stR_boxA, stR_row, stR_row0, stR_row1, stR_rowA, stR_rowA0, splice_rowv, splice_rowv0, splice_rowv1, splice_z, splice_n, splice_s, nth_rowv, nth_rowv0, nth_rowv1, rowv_len, bts_size, hlen, show (1 : Int) ≤ (r.length : Int) + 1 by omega, show 1 ≤ r.length + 1 by omega, hs1, bts_list]
      exact hQ _ (by simp [cutP])
    · have hb' : (([b] : List UInt8) == [c]) = false := by simpa using hb
      simp (maxSteps := 1000000) (disch := first | assumption | omega | (simp only [World.size_alloc, size_setRow, dw_size]; done) | (simp only [World.size_alloc, size_setRow, dw_size] <;> omega) | (simp only [List.length_set, Array.length_toList, List.length_cons, List.length_nil, List.length_append, bts_size] <;> omega) | (simp only [List.all_cons, List.all_nil, Value.oneCell', Bool.and_self, Bool.and_true]; done)) [-Option.bind_some, hp_alloc_lt, hp_alloc_eq, hp_set_ne, wrap_small, ups_ap_cons, ups_ap_nil, upd_same, upd_other, env0_ap0, env0_aps, xt_a, xt_b, xt_c, nk_ptr, -splice_eq, -stR_cells, stR_box, stR_boxA, stR_row, stR_row0, stR_row1, stR_rowA, stR_rowA0, splice_rowv, splice_rowv0, splice_rowv1, splice_z, splice_n, splice_s, nth_rowv, nth_rowv0, nth_rowv1, rowv_len, bts_size, hlen, show (1 : Int) ≤ (r.length : Int) + 1 by omega, show 1 ≤ r.length + 1 by omega, hs1, bts_list, hb']
      exact hQ _ (by simp [cutP, hb])
theorem cutPrefix_m (l : List UInt8) (c : UInt8) (w : World) : Ret (EV P 59 #[.string (bts l), .string (bts [c])] w) fun r => r = (.tuple #[.string (bts (cutP c l).1), .bool (cutP c l).2], w) := by
  refine Ret.post fun Q hQ => ?_
  refine Ret.enter plain mixed (strings_CutPrefix_fn _ _ _) (by kernel_rfl) (n := 2) (by kernel_rfl) rfl ?_
  simp (maxSteps := 1000000) (disch := first | assumption | omega | (simp only [World.size_alloc, size_setRow, dw_size]; done) | (simp only [World.size_alloc, size_setRow, dw_size] <;> omega) | (simp only [List.length_set, Array.length_toList, List.length_cons, List.length_nil, List.length_append, bts_size] <;> omega) | (simp only [List.all_cons, List.all_nil, Value.oneCell', Bool.and_self, Bool.and_true]; done)) [-Option.bind_some, hp_alloc_lt, hp_alloc_eq, hp_set_ne, wrap_small, ups_ap_cons, ups_ap_nil, upd_same, upd_other, env0_ap0, env0_aps, xt_a, xt_b, xt_c, nk_ptr, -splice_eq, -stR_cells, stR_box, stR_boxA, stR_row, stR_row0, stR_row1, stR_rowA, stR_rowA0, splice_rowv, splice_rowv0, splice_rowv1, splice_z, splice_n, splice_s, nth_rowv, nth_rowv0, nth_rowv1, rowv_len]
  refine Ret.bind (Q := fun r => r = (.tuple #[.string (bts (cutP c l).1), .bool (cutP c l).2], w)) ?_ ?_
  · refine Ret.post fun Q hQ => ?_
    refine Ret.enter plain mixed (internal_stringslite_CutPrefix_fn _ _ _) (by kernel_rfl) (n := 2) (by kernel_rfl) rfl ?_
    simp (maxSteps := 1000000) (disch := first | assumption | omega | (simp only [World.size_alloc, size_setRow, dw_size]; done) | (simp only [World.size_alloc, size_setRow, dw_size] <;> omega) | (simp only [List.length_set, Array.length_toList, List.length_cons, List.length_nil, List.length_append, bts_size] <;> omega) | (simp only [List.all_cons, List.all_nil, Value.oneCell', Bool.and_self, Bool.and_true]; done)) [-Option.bind_some, hp_alloc_lt, hp_alloc_eq, hp_set_ne, wrap_small, ups_ap_cons, ups_ap_nil, upd_same, upd_other, env0_ap0, env0_aps, xt_a, xt_b, xt_c, nk_ptr, -splice_eq, -stR_cells, stR_box, stR_boxA, stR_row, stR_row0, stR_row1, stR_rowA, stR_rowA0, splice_rowv, splice_rowv0, splice_rowv1, splice_z, splice_n, splice_s, nth_rowv, nth_rowv0, nth_rowv1, rowv_len]
    refine Ret.bind (hasPrefix_m l c _) ?_
    rintro ⟨_, w1⟩ h
    simp only [Prod.mk.injEq] at h
    obtain ⟨rfl, rfl⟩ := h
    cases l with
    | nil =>
      simp (maxSteps := 1000000) (disch := first | assumption | omega | (simp only [World.size_alloc, size_setRow, dw_size]; done) | (simp only [World.size_alloc, size_setRow, dw_size] <;> omega) | (simp only [List.length_set, Array.length_toList, List.length_cons, List.length_nil, List.length_append, bts_size] <;> omega) | (simp only [List.all_cons, List.all_nil, Value.oneCell', Bool.and_self, Bool.and_true]; done)) [-Option.bind_some, hp_alloc_lt, hp_alloc_eq, hp_set_ne, wrap_small, ups_ap_cons, ups_ap_nil, upd_same, upd_other, env0_ap0, env0_aps, xt_a, xt_b, xt_c, nk_ptr, -splice_eq, -stR_cells, stR_box, stR_boxA, stR_row, stR_row0, stR_row1, stR_rowA, stR_rowA0, splice_rowv, splice_rowv0, splice_rowv1, splice_z, splice_n, splice_s, nth_rowv, nth_rowv0, nth_rowv1, rowv_len, show (cutP c []).2 = false from rfl]
      exact hQ _ rfl
    | cons b r =>
      by_cases hb : b = c
      · subst hb
        have hs1 := fun w => sl_str_from (P := P) (t := 9) (by kernel_rfl) (b :: r) (i := 1) (by omega) (by rw [List.length_cons]; omega) w
        rw [show (b :: r).drop (1 : Int).toNat = r from rfl] at hs1
        have hc : cutP b (b :: r) = (r, true) := by simp [cutP]
        simp (maxSteps := 1000000) (disch := first | assumption | omega | (simp only [World.size_alloc, size_setRow, dw_size]; done) | (simp only [World.size_alloc, size_setRow, dw_size] <;> omega) | (simp only [List.length_set, Array.length_toList, List.length_cons, List.length_nil, List.length_append, bts_size] <;> omega) | (simp only [List.all_cons, List.all_nil, Value.oneCell', Bool.and_self, Bool.and_true]; done)) [-Option.bind_some, hp_alloc_lt, hp_alloc_eq, hp_set_ne, wrap_small, ups_ap_cons, ups_ap_nil, upd_same, upd_other, env0_ap0, env0_aps, xt_a, xt_b, xt_c, nk_ptr, -splice_eq, -stR_cells, stR_box, stR_boxA, stR_row, stR_row0, stR_row1, stR_rowA, stR_rowA0, splice_rowv, splice_rowv0, splice_rowv1, splice_z, splice_n, splice_s, nth_rowv, nth_rowv0, nth_rowv1, rowv_len, hc, bts_size, hs1]
        exact hQ _ (by rw [hc])
      · have hc : cutP c (b :: r) = (b :: r, false) := by simp [cutP, hb]
        simp (maxSteps := 1000000) (disch := first | assumption | omega | (simp only [World.size_alloc, size_setRow, dw_size]; done) | (simp only [World.size_alloc, size_setRow, dw_size] <;> omega) | (simp only [List.length_set, Array.length_toList, List.length_cons, List.length_nil, List.length_append, bts_size] <;> omega) | (simp only [List.all_cons, List.all_nil, Value.oneCell', Bool.and_self, Bool.and_true]; done)) [-Option.bind_some, hp_alloc_lt, hp_alloc_eq, hp_set_ne, wrap_small, ups_ap_cons, ups_ap_nil, upd_same, upd_other, env0_ap0, env0_aps, xt_a, xt_b, xt_c, nk_ptr, -splice_eq, -stR_cells, stR_box, stR_boxA, stR_row, stR_row0, stR_row1, stR_rowA, stR_rowA0, splice_rowv, splice_rowv0, splice_rowv1, splice_z, splice_n, splice_s, nth_rowv, nth_rowv0, nth_rowv1, rowv_len, hc]
        exact hQ _ (by rw [hc])
  · rintro ⟨_, w1⟩ h
    simp only [Prod.mk.injEq] at h
    obtain ⟨rfl, rfl⟩ := h
    simp (maxSteps := 1000000) (disch := first | assumption | omega | (simp only [World.size_alloc, size_setRow, dw_size]; done) | (simp only [World.size_alloc, size_setRow, dw_size] <;> omega) | (simp only [List.length_set, Array.length_toList, List.length_cons, List.length_nil, List.length_append, bts_size] <;> omega) | (simp only [List.all_cons, List.all_nil, Value.oneCell', Bool.and_self, Bool.and_true]; done)) [-Option.bind_some, hp_alloc_lt, hp_alloc_eq, hp_set_ne, wrap_small, ups_ap_cons, ups_ap_nil, upd_same, upd_other, env0_ap0, env0_aps, xt_a, xt_b, xt_c, nk_ptr, -splice_eq, -stR_cells, stR_box, stR_boxA, stR_row, stR_row0, stR_row1, stR_rowA, stR_rowA0, splice_rowv, splice_rowv0, splice_rowv1, splice_z, splice_n, splice_s, nth_rowv, nth_rowv0, nth_rowv1, rowv_len, xt_a, xt_b]
    exact hQ _ rfl
theorem sclone_m {l : List UInt8} (hl : l.length ≤ 281474976710656) (w : World) : Ret (EV P 60 #[.string (bts l)] w) fun r => r.1 = .string (bts l) ∧ Ext w r.2 := by
  refine Ret.post fun Q hQ => ?_
  refine Ret.enter plain mixed (strings_Clone_fn _ _) (by kernel_rfl) (n := 1) (by kernel_rfl) rfl ?_
  simp (maxSteps := 1000000) (disch := first | assumption | omega | (simp only [World.size_alloc, size_setRow, dw_size]; done) | (simp only [World.size_alloc, size_setRow, dw_size] <;> omega) | (simp only [List.length_set, Array.length_toList, List.length_cons, List.length_nil, List.length_append, bts_size] <;> omega) | (simp only [List.all_cons, List.all_nil, Value.oneCell', Bool.and_self, Bool.and_true]; done)) [-Option.bind_some, hp_alloc_lt, hp_alloc_eq, hp_set_ne, wrap_small, ups_ap_cons, ups_ap_nil, upd_same, upd_other, env0_ap0, env0_aps, xt_a, xt_b, xt_c, nk_ptr, -splice_eq, -stR_cells, stR_box, stR_boxA, stR_row, stR_row0, stR_row1, stR_rowA, stR_rowA0, splice_rowv, splice_rowv0, splice_rowv1, splice_z, splice_n, splice_s, nth_rowv, nth_rowv0, nth_rowv1, rowv_len]
  refine Ret.bind (clone_m hl _) ?_
  rintro ⟨_, w1⟩ ⟨rfl, E1⟩
  try dsimp only at E1
  have zE1 := E1.size
  try simp only [World.size_alloc, size_setRow, dw_size] at zE1
  simp (maxSteps := 1000000) (disch := first | assumption | omega | (simp only [World.size_alloc, size_setRow, dw_size]; done) | (simp only [World.size_alloc, size_setRow, dw_size] <;> omega) | (simp only [List.length_set, Array.length_toList, List.length_cons, List.length_nil, List.length_append, bts_size] <;> omega) | (simp only [List.all_cons, List.all_nil, Value.oneCell', Bool.and_self, Bool.and_true]; done)) [-Option.bind_some, hp_alloc_lt, hp_alloc_eq, hp_set_ne, wrap_small, ups_ap_cons, ups_ap_nil, upd_same, upd_other, env0_ap0, env0_aps, xt_a, xt_b, xt_c, nk_ptr, -splice_eq, -stR_cells, stR_box, stR_boxA, stR_row, stR_row0, stR_row1, stR_rowA, stR_rowA0, splice_rowv, splice_rowv0, splice_rowv1, splice_z, splice_n, splice_s, nth_rowv, nth_rowv0, nth_rowv1, rowv_len, E1.blk]
  exact hQ _ ⟨rfl, by (repeat (first | exact Ext.rfl | assumption | (refine Ext.al ?_ _) | (refine Ext.dw ?_) | (refine Ext.set ?_ (by first | omega | (simp only [World.size_alloc, size_setRow, dw_size]; omega)) _) | (refine Ext.tr ?_ (by assumption))))⟩
theorem readRest_m {l : List UInt8} (hl : l.length ≤ 281474976710656) {b n q : Nat} {a : Option Addr} {k t p : Int} {w : World} (h : hp w b = some (.cells #[i64 k, i64 t, i64 p, .slice a n q, .string (bts []), .bool false] 28 (0, 0))) :
    Ret (EV P 27 #[pt b 0, .string (bts l)] w) fun r => r.1 = .bool (restP l).2.2 ∧ hp r.2 b = some (.cells #[i64 k, i64 t, i64 p, .slice a n q, .string (bts (restP l).1), .bool (restP l).2.1] 28 (0, 0)) ∧ Mod (fun x => x = b) w r.2 := by
  have hlt := hp_lt h
  have hcl := cutP_len 61 l
  refine Ret.post fun Q hQ => ?_
  refine Ret.enter plain mixed (impl_Ver_readRest_fn _ _ _) (by kernel_rfl) (n := 2) (by kernel_rfl) rfl ?_
  simp (maxSteps := 1000000) (disch := first | assumption | omega | (simp only [World.size_alloc, size_setRow, dw_size]; done) | (simp only [World.size_alloc, size_setRow, dw_size] <;> omega) | (simp only [List.length_set, Array.length_toList, List.length_cons, List.length_nil, List.length_append, bts_size] <;> omega) | (simp only [List.all_cons, List.all_nil, Value.oneCell', Bool.and_self, Bool.and_true]; done)) [-Option.bind_some, hp_alloc_lt, hp_alloc_eq, hp_set_ne, wrap_small, ups_ap_cons, ups_ap_nil, upd_same, upd_other, env0_ap0, env0_aps, xt_a, xt_b, xt_c, nk_ptr, -splice_eq, -stR_cells, stR_box, stR_boxA, stR_row, stR_row0, stR_row1, stR_rowA, stR_rowA0, splice_rowv, splice_rowv0, splice_rowv1, splice_z, splice_n, splice_s, nth_rowv, nth_rowv0, nth_rowv1, rowv_len, mk_bts, hlt]
  refine Ret.bind (cutPrefix_m l 61 _) ?_
  rintro ⟨_, w1⟩ h'
  simp only [Prod.mk.injEq] at h'
  obtain ⟨rfl, rfl⟩ := h'
  by_cases h45 : l = [45]
  · subst h45
    have hr : restP [45] = ([], true, true) := by simp [restP]
    rw [hr] at hQ
    simp (maxSteps := 1000000) (disch := first | assumption | omega | (simp only [World.size_alloc, size_setRow, dw_size]; done) | (simp only [World.size_alloc, size_setRow, dw_size] <;> omega) | (simp only [List.length_set, Array.length_toList, List.length_cons, List.length_nil, List.length_append, bts_size] <;> omega) | (simp only [List.all_cons, List.all_nil, Value.oneCell', Bool.and_self, Bool.and_true]; done)) [-Option.bind_some, hp_alloc_lt, hp_alloc_eq, hp_set_ne, wrap_small, ups_ap_cons, ups_ap_nil, upd_same, upd_other, env0_ap0, env0_aps, xt_a, xt_b, xt_c, nk_ptr, -splice_eq, -stR_cells, stR_box, stR_boxA, stR_row, stR_row0, stR_row1, stR_rowA, stR_rowA0, splice_rowv, splice_rowv0, splice_rowv1, splice_z, splice_n, splice_s, nth_rowv, nth_rowv0, nth_rowv1, rowv_len, xt_a, xt_b, bts_list, mk_bts, h, hlt]
    exact hQ _ ⟨rfl, by simp (maxSteps := 1000000) (disch := first | assumption | omega | (simp only [World.size_alloc, size_setRow, dw_size]; done) | (simp only [World.size_alloc, size_setRow, dw_size] <;> omega) | (simp only [List.length_set, Array.length_toList, List.length_cons, List.length_nil, List.length_append, bts_size] <;> omega) | (simp only [List.all_cons, List.all_nil, Value.oneCell', Bool.and_self, Bool.and_true]; done)) [-Option.bind_some, hp_alloc_lt, hp_alloc_eq, hp_set_ne, wrap_small, ups_ap_cons, ups_ap_nil, upd_same, upd_other, env0_ap0, env0_aps, xt_a, xt_b, xt_c, nk_ptr, h, hlt], by (repeat (first | exact Mod.rfl | assumption | (refine Mod.al ?_ _) | (refine Mod.dw' ?_) | (refine Mod.set' ?_ (by first | (left; omega) | (left; simp only [World.size_alloc, size_setRow, dw_size]; omega) | (right; assumption) | (right; simp; done)) _) | (refine Mod.ex ?_ (by assumption))))⟩
  · have h45' : (l == [45]) = false := beq_eq_false_iff_ne.2 h45
    have hr : restP l = ((cutP 61 l).1, false, (cutP 61 l).2) := by simp [restP, h45]
    rw [hr] at hQ
    simp (maxSteps := 1000000) (disch := first | assumption | omega | (simp only [World.size_alloc, size_setRow, dw_size]; done) | (simp only [World.size_alloc, size_setRow, dw_size] <;> omega) | (simp only [List.length_set, Array.length_toList, List.length_cons, List.length_nil, List.length_append, bts_size] <;> omega) | (simp only [List.all_cons, List.all_nil, Value.oneCell', Bool.and_self, Bool.and_true]; done)) [-Option.bind_some, hp_alloc_lt, hp_alloc_eq, hp_set_ne, wrap_small, ups_ap_cons, ups_ap_nil, upd_same, upd_other, env0_ap0, env0_aps, xt_a, xt_b, xt_c, nk_ptr, -splice_eq, -stR_cells, stR_box, stR_boxA, stR_row, stR_row0, stR_row1, stR_rowA, stR_rowA0, splice_rowv, splice_rowv0, splice_rowv1, splice_z, splice_n, splice_s, nth_rowv, nth_rowv0, nth_rowv1, rowv_len, xt_a, xt_b, bts_list, mk_bts, h45', hlt]
    refine Ret.bind (sclone_m (by omega) _) ?_
    rintro ⟨_, w2⟩ ⟨rfl, E2⟩
    try dsimp only at E2
    have zE2 := E2.size
    try simp only [World.size_alloc, size_setRow, dw_size] at zE2
    have h2 := (E2.blk hlt).trans h
    simp (maxSteps := 1000000) (disch := first | assumption | omega | (simp only [World.size_alloc, size_setRow, dw_size]; done) | (simp only [World.size_alloc, size_setRow, dw_size] <;> omega) | (simp only [List.length_set, Array.length_toList, List.length_cons, List.length_nil, List.length_append, bts_size] <;> omega) | (simp only [List.all_cons, List.all_nil, Value.oneCell', Bool.and_self, Bool.and_true]; done)) [-Option.bind_some, hp_alloc_lt, hp_alloc_eq, hp_set_ne, wrap_small, ups_ap_cons, ups_ap_nil, upd_same, upd_other, env0_ap0, env0_aps, xt_a, xt_b, xt_c, nk_ptr, -splice_eq, -stR_cells, stR_box, stR_boxA, stR_row, stR_row0, stR_row1, stR_rowA, stR_rowA0, splice_rowv, splice_rowv0, splice_rowv1, splice_z, splice_n, splice_s, nth_rowv, nth_rowv0, nth_rowv1, rowv_len, h2, hlt, E2.blk]
    exact hQ _ ⟨rfl, by simp (maxSteps := 1000000) (disch := first | assumption | omega | (simp only [World.size_alloc, size_setRow, dw_size]; done) | (simp only [World.size_alloc, size_setRow, dw_size] <;> omega) | (simp only [List.length_set, Array.length_toList, List.length_cons, List.length_nil, List.length_append, bts_size] <;> omega) | (simp only [List.all_cons, List.all_nil, Value.oneCell', Bool.and_self, Bool.and_true]; done)) [-Option.bind_some, hp_alloc_lt, hp_alloc_eq, hp_set_ne, wrap_small, ups_ap_cons, ups_ap_nil, upd_same, upd_other, env0_ap0, env0_aps, xt_a, xt_b, xt_c, nk_ptr, h2, hlt, E2.blk], by (repeat (first | exact Mod.rfl | assumption | (refine Mod.al ?_ _) | (refine Mod.dw' ?_) | (refine Mod.set' ?_ (by first | (left; omega) | (left; simp only [World.size_alloc, size_setRow, dw_size]; omega) | (right; assumption) | (right; simp; done)) _) | (refine Mod.ex ?_ (by assumption))))⟩
theorem readPast_n {g o c b2 b4 : Nat} {ws : List (List UInt8)} {w0 : World} (G : GlobE w0) (hx : ∀ x ∈ ws, x.length ≤ 140737488351232) (hl : ws.length ≤ 100) (h2 : w0.heap.size ≤ b2) (h4 : w0.heap.size ≤ b4) (h24 : b2 ≠ b4) (hA : StrAt w0 g o ws) :
    ∀ (d k : Nat) (e : Env) (w : World) (acc : List Tag) (a : Option Addr) (q : Nat), k + d = ws.length → e 2 = pt b2 0 → e 4 = pt b4 0 → e 11 = .slice (some ⟨g, o, none⟩) ws.length c → e 12 = i64 ws.length → e 13 = i64 k → Ext w0 w →
      hp w b2 = some (.cells #[.slice none 0 0] 26 (0, 0)) → hp w b4 = some (.cells #[.slice a acc.length q] 26 (0, 0)) → acc.length = k → (∀ t ∈ acc, tagOk t = true) → acc.map tagL = ws.take k → O tTags (fun b => In w0.heap.size w.heap.size b ∧ b ≠ b2 ∧ b ≠ b4) w [.slice a acc.length q] acc →
      Ret (impl_readPast_l1 e w) fun r => ∃ p ok a q, r.1 = .tuple #[.agg #[.slice a p.length q], .bool ok] ∧ PastGot ws p ok ∧ O tTags (In w0.heap.size r.2.heap.size) r.2 [.slice a p.length q] p ∧ Ext w0 r.2 := by
  intro d
  induction d with
  | zero =>
    intro k e w acc a q hd e2 e4 e11 e12 e13 E0 X2 X4 hak hao ham ho
    have zE0 := E0.size
    try simp only [World.size_alloc, size_setRow, dw_size] at zE0
    rw [impl_readPast_l1_eq]
    obtain rfl : k = ws.length := by omega
    have y2 := hp_lt X2
    have y4 := hp_lt X4
    rw [List.take_of_length_le (Nat.le_refl _)] at ham
    refine Ret.post fun Q hQ => ?_
    simp (maxSteps := 1000000) (disch := first | assumption | omega | (simp only [World.size_alloc, size_setRow, dw_size]; done) | (simp only [World.size_alloc, size_setRow, dw_size] <;> omega) | (simp only [List.length_set, Array.length_toList, List.length_cons, List.length_nil, List.length_append, bts_size] <;> omega) | (simp only [List.all_cons, List.all_nil, Value.oneCell', Bool.and_self, Bool.and_true]; done)) [-Option.bind_some, hp_alloc_lt, hp_alloc_eq, hp_set_ne, wrap_small, ups_ap_cons, ups_ap_nil, upd_same, upd_other, env0_ap0, env0_aps, xt_a, xt_b, xt_c, nk_ptr, e2, e4, e11, e12, e13, X2, X4, e2, e4, e11, e12, e13, E0.blk, X2, X4]
    refine hQ _ ⟨acc, true, a, q, rfl, ⟨fun _ => ⟨hao, ham⟩, by simp⟩, (ho.keep ?_).wide (fun b hb hl => ?_), by (repeat (first | exact Ext.rfl | assumption | (refine Ext.al ?_ _) | (refine Ext.dw ?_) | (refine Ext.set ?_ (by first | omega | (simp only [World.size_alloc, size_setRow, dw_size]; omega)) _) | (refine Ext.tr ?_ (by assumption))))⟩
    · intro b hb hl
      rw [hp_set_ne (by omega)]
    · have := hb.1
      simp only [In, size_setRow, World.size_alloc, dw_size] at this hl ⊢
      omega
  | succ d ih =>
    intro k e w acc a q hd e2 e4 e11 e12 e13 E0 X2 X4 hak hao ham ho
    have zE0 := E0.size
    try simp only [World.size_alloc, size_setRow, dw_size] at zE0
    rw [impl_readPast_l1_eq]
    have hlt : k < ws.length := by omega
    have y2 := hp_lt X2
    have y4 := hp_lt X4
    have hz := E0.size
    obtain ⟨x, hxk, _⟩ := drop_at hlt
    have hxl := hx x (List.mem_of_getElem? hxk)
    have hc := cellO_ext E0 (hA _ _ hxk)
    refine Ret.post fun Q hQ => ?_
    simp (maxSteps := 1000000) (disch := first | assumption | omega | (simp only [World.size_alloc, size_setRow, dw_size]; done) | (simp only [World.size_alloc, size_setRow, dw_size] <;> omega) | (simp only [List.length_set, Array.length_toList, List.length_cons, List.length_nil, List.length_append, bts_size] <;> omega) | (simp only [List.all_cons, List.all_nil, Value.oneCell', Bool.and_self, Bool.and_true]; done)) [-Option.bind_some, hp_alloc_lt, hp_alloc_eq, hp_set_ne, wrap_small, ups_ap_cons, ups_ap_nil, upd_same, upd_other, env0_ap0, env0_aps, xt_a, xt_b, xt_c, nk_ptr, -splice_eq, -stR_cells, stR_box, stR_boxA, stR_row, stR_row0, stR_row1, stR_rowA, stR_rowA0, splice_rowv, splice_rowv0, splice_rowv1, splice_z, splice_n, splice_s, nth_rowv, nth_rowv0, nth_rowv1, rowv_len, e2, e4, e11, e12, e13, hlt, ia_41, hc, e2, e4, e11, e12, e13, E0.blk, X2, X4, hlt]
    refine Ret.bind (impl_TagGet_m (l := x) hxl (G.ext (by (repeat (first | exact Ext.rfl | assumption | (refine Ext.al ?_ _) | (refine Ext.dw ?_) | (refine Ext.set ?_ (by first | omega | (simp only [World.size_alloc, size_setRow, dw_size]; omega)) _) | (refine Ext.tr ?_ (by assumption))))))) ?_
    rintro ⟨_, w1⟩ ⟨t, ok, rfl, hg, E1⟩
    try dsimp only at t ok hg E1
    have zE1 := E1.size
    try simp only [World.size_alloc, size_setRow, dw_size] at zE1
    have X2' := (E1.blk y2).trans X2
    have X4' := (E1.blk y4).trans X4
    cases ok
    · simp (maxSteps := 1000000) (disch := first | assumption | omega | (simp only [World.size_alloc, size_setRow, dw_size]; done) | (simp only [World.size_alloc, size_setRow, dw_size] <;> omega) | (simp only [List.length_set, Array.length_toList, List.length_cons, List.length_nil, List.length_append, bts_size] <;> omega) | (simp only [List.all_cons, List.all_nil, Value.oneCell', Bool.and_self, Bool.and_true]; done)) [-Option.bind_some, hp_alloc_lt, hp_alloc_eq, hp_set_ne, wrap_small, ups_ap_cons, ups_ap_nil, upd_same, upd_other, env0_ap0, env0_aps, xt_a, xt_b, xt_c, nk_ptr, e2, e4, xt_a, xt_b, X2', X4', e2, e4, e11, e12, e13, E0.blk, X2, X4, hlt, E1.blk]
      refine hQ _ ⟨[], false, none, 0, rfl, ⟨by simp, fun _ ts hts he => ?_⟩, O.nil, by (repeat (first | exact Ext.rfl | assumption | (refine Ext.al ?_ _) | (refine Ext.dw ?_) | (refine Ext.set ?_ (by first | omega | (simp only [World.size_alloc, size_setRow, dw_size]; omega)) _) | (refine Ext.tr ?_ (by assumption))))⟩
      have h1 : (ts.map tagL)[k]? = some x := by rw [he]; exact hxk
      rw [List.getElem?_map] at h1
      obtain ⟨u, hu, hux⟩ := Option.map_eq_some_iff.1 h1
      exact (hg.2 rfl).2 u (hts u (List.mem_of_getElem? hu)) hux
    · obtain ⟨hok, hte⟩ := hg.1 rfl
      simp (maxSteps := 1000000) (disch := first | assumption | omega | (simp only [World.size_alloc, size_setRow, dw_size]; done) | (simp only [World.size_alloc, size_setRow, dw_size] <;> omega) | (simp only [List.length_set, Array.length_toList, List.length_cons, List.length_nil, List.length_append, bts_size] <;> omega) | (simp only [List.all_cons, List.all_nil, Value.oneCell', Bool.and_self, Bool.and_true]; done)) [-Option.bind_some, hp_alloc_lt, hp_alloc_eq, hp_set_ne, wrap_small, ups_ap_cons, ups_ap_nil, upd_same, upd_other, env0_ap0, env0_aps, xt_a, xt_b, xt_c, nk_ptr, -splice_eq, -stR_cells, stR_box, stR_boxA, stR_row, stR_row0, stR_row1, stR_rowA, stR_rowA0, splice_rowv, splice_rowv0, splice_rowv1, splice_z, splice_n, splice_s, nth_rowv, nth_rowv0, nth_rowv1, rowv_len, e2, e4, e11, e12, e13, xt_a, xt_b, X2', X4', e2, e4, e11, e12, e13, E0.blk, X2, X4, hlt, E1.blk]
      refine Ret.bind (O.appD (L := LTag) (mx := 8796093021952) flat_tag el_24 zz_23 rfl (by decide) ((ho.ext E1).ext (by (repeat (first | exact Ext.rfl | assumption | (refine Ext.al ?_ _) | (refine Ext.dw ?_) | (refine Ext.set ?_ (by first | omega | (simp only [World.size_alloc, size_setRow, dw_size]; omega)) _) | (refine Ext.tr ?_ (by assumption)))))) (lit_tagU (t := t) (g := w1.heap.size + 1) (e := 23) (by first | assumption | rfl | (simp (maxSteps := 1000000) (disch := first | assumption | omega | (simp only [World.size_alloc, size_setRow, dw_size]; done) | (simp only [World.size_alloc, size_setRow, dw_size] <;> omega) | (simp only [List.length_set, Array.length_toList, List.length_cons, List.length_nil, List.length_append, bts_size] <;> omega) | (simp only [List.all_cons, List.all_nil, Value.oneCell', Bool.and_self, Bool.and_true]; done)) [-Option.bind_some, hp_alloc_lt, hp_alloc_eq, hp_set_ne, wrap_small, ups_ap_cons, ups_ap_nil, upd_same, upd_other, env0_ap0, env0_aps, xt_a, xt_b, xt_c, nk_ptr, -splice_eq, -stR_cells, stR_box, stR_boxA, stR_row, stR_row0, stR_row1, stR_rowA, stR_rowA0, splice_rowv, splice_rowv0, splice_rowv1, splice_z, splice_n, splice_s, nth_rowv, nth_rowv0, nth_rowv1, rowv_len, e2, e4, e11, e12, e13, E0.blk, X2, X4, hlt, E1.blk]; done))) (by simp; omega) (by decide) (by decide)) ?_
      rintro ⟨_, w2⟩ ⟨a2, q2, rfl, o2, M2⟩
      have zM2 := M2.size
      try simp only [World.size_alloc, size_setRow, dw_size] at zM2
      try dsimp only at o2 M2
      have zM2 := M2.size
      have zE1 := E1.size
      simp only [World.size_alloc, size_setRow, dw_size] at zM2 o2
      have F2 : Ext w0 w2 := Mod.after (a := w0) (by (repeat (first | exact Ext.rfl | assumption | (refine Ext.al ?_ _) | (refine Ext.dw ?_) | (refine Ext.set ?_ (by first | omega | (simp only [World.size_alloc, size_setRow, dw_size]; omega)) _) | (refine Ext.tr ?_ (by assumption))))) M2 (by intro y hy h; simp only [In] at h; omega)
      have X2'' : hp w2 b2 = some (.cells #[.slice none 0 0] 26 (0, 0)) := (M2.blk b2 (by simp only [World.size_alloc, size_setRow, dw_size]; omega) (fun h => h.2.1 rfl)).trans (by first | assumption | rfl | (simp (maxSteps := 1000000) (disch := first | assumption | omega | (simp only [World.size_alloc, size_setRow, dw_size]; done) | (simp only [World.size_alloc, size_setRow, dw_size] <;> omega) | (simp only [List.length_set, Array.length_toList, List.length_cons, List.length_nil, List.length_append, bts_size] <;> omega) | (simp only [List.all_cons, List.all_nil, Value.oneCell', Bool.and_self, Bool.and_true]; done)) [-Option.bind_some, hp_alloc_lt, hp_alloc_eq, hp_set_ne, wrap_small, ups_ap_cons, ups_ap_nil, upd_same, upd_other, env0_ap0, env0_aps, xt_a, xt_b, xt_c, nk_ptr, -splice_eq, -stR_cells, stR_box, stR_boxA, stR_row, stR_row0, stR_row1, stR_rowA, stR_rowA0, splice_rowv, splice_rowv0, splice_rowv1, splice_z, splice_n, splice_s, nth_rowv, nth_rowv0, nth_rowv1, rowv_len, X2', e2, e4, e11, e12, e13, E0.blk, X2, X4, hlt, E1.blk, M2.blk]; done))
      have X4'' : hp w2 b4 = some (.cells #[.slice a acc.length q] 26 (0, 0)) := (M2.blk b4 (by simp only [World.size_alloc, size_setRow, dw_size]; omega) (fun h => h.2.2 rfl)).trans (by first | assumption | rfl | (simp (maxSteps := 1000000) (disch := first | assumption | omega | (simp only [World.size_alloc, size_setRow, dw_size]; done) | (simp only [World.size_alloc, size_setRow, dw_size] <;> omega) | (simp only [List.length_set, Array.length_toList, List.length_cons, List.length_nil, List.length_append, bts_size] <;> omega) | (simp only [List.all_cons, List.all_nil, Value.oneCell', Bool.and_self, Bool.and_true]; done)) [-Option.bind_some, hp_alloc_lt, hp_alloc_eq, hp_set_ne, wrap_small, ups_ap_cons, ups_ap_nil, upd_same, upd_other, env0_ap0, env0_aps, xt_a, xt_b, xt_c, nk_ptr, -splice_eq, -stR_cells, stR_box, stR_boxA, stR_row, stR_row0, stR_row1, stR_rowA, stR_rowA0, splice_rowv, splice_rowv0, splice_rowv1, splice_z, splice_n, splice_s, nth_rowv, nth_rowv0, nth_rowv1, rowv_len, X4', e2, e4, e11, e12, e13, E0.blk, X2, X4, hlt, E1.blk, M2.blk]; done))
      have hal : (acc ++ [t]).length = acc.length + [t].length := by simp
      rw [← hal] at o2
      simp (maxSteps := 1000000) (disch := first | assumption | omega | (simp only [World.size_alloc, size_setRow, dw_size]; done) | (simp only [World.size_alloc, size_setRow, dw_size] <;> omega) | (simp only [List.length_set, Array.length_toList, List.length_cons, List.length_nil, List.length_append, bts_size] <;> omega) | (simp only [List.all_cons, List.all_nil, Value.oneCell', Bool.and_self, Bool.and_true]; done)) [-Option.bind_some, hp_alloc_lt, hp_alloc_eq, hp_set_ne, wrap_small, ups_ap_cons, ups_ap_nil, upd_same, upd_other, env0_ap0, env0_aps, xt_a, xt_b, xt_c, nk_ptr, -splice_eq, -stR_cells, stR_box, stR_boxA, stR_row, stR_row0, stR_row1, stR_rowA, stR_rowA0, splice_rowv, splice_rowv0, splice_rowv1, splice_z, splice_n, splice_s, nth_rowv, nth_rowv0, nth_rowv1, rowv_len, e2, e4, e11, e12, e13, X4'', e2, e4, e11, e12, e13, E0.blk, X2, X4, hlt, E1.blk, M2.blk]
      refine Ret.mono (ih (k + 1) _ _ (acc ++ [t]) a2 q2 (by omega) (by first | omega | assumption | rfl | exact congrArg i64 (by omega) | (simp; done) | (simp; omega)) (by first | omega | assumption | rfl | exact congrArg i64 (by omega) | (simp; done) | (simp; omega)) (by first | omega | assumption | rfl | exact congrArg i64 (by omega) | (simp; done) | (simp; omega)) (by first | omega | assumption | rfl | exact congrArg i64 (by omega) | (simp; done) | (simp; omega)) (by first | omega | assumption | rfl | exact congrArg i64 (by omega) | (simp; done) | (simp; omega)) (by (repeat (first | exact Ext.rfl | assumption | (refine Ext.al ?_ _) | (refine Ext.dw ?_) | (refine Ext.set ?_ (by first | omega | (simp only [World.size_alloc, size_setRow, dw_size]; omega)) _) | (refine Ext.tr ?_ (by assumption))))) (by first | assumption | rfl | (simp (maxSteps := 1000000) (disch := first | assumption | omega | (simp only [World.size_alloc, size_setRow, dw_size]; done) | (simp only [World.size_alloc, size_setRow, dw_size] <;> omega) | (simp only [List.length_set, Array.length_toList, List.length_cons, List.length_nil, List.length_append, bts_size] <;> omega) | (simp only [List.all_cons, List.all_nil, Value.oneCell', Bool.and_self, Bool.and_true]; done)) [-Option.bind_some, hp_alloc_lt, hp_alloc_eq, hp_set_ne, wrap_small, ups_ap_cons, ups_ap_nil, upd_same, upd_other, env0_ap0, env0_aps, xt_a, xt_b, xt_c, nk_ptr, -splice_eq, -stR_cells, stR_box, stR_boxA, stR_row, stR_row0, stR_row1, stR_rowA, stR_rowA0, splice_rowv, splice_rowv0, splice_rowv1, splice_z, splice_n, splice_s, nth_rowv, nth_rowv0, nth_rowv1, rowv_len, X2'', e2, e4, e11, e12, e13, E0.blk, X2, X4, hlt, E1.blk, M2.blk]; done)) (by first | assumption | rfl | (simp (maxSteps := 1000000) (disch := first | assumption | omega | (simp only [World.size_alloc, size_setRow, dw_size]; done) | (simp only [World.size_alloc, size_setRow, dw_size] <;> omega) | (simp only [List.length_set, Array.length_toList, List.length_cons, List.length_nil, List.length_append, bts_size] <;> omega) | (simp only [List.all_cons, List.all_nil, Value.oneCell', Bool.and_self, Bool.and_true]; done)) [-Option.bind_some, hp_alloc_lt, hp_alloc_eq, hp_set_ne, wrap_small, ups_ap_cons, ups_ap_nil, upd_same, upd_other, env0_ap0, env0_aps, xt_a, xt_b, xt_c, nk_ptr, -splice_eq, -stR_cells, stR_box, stR_boxA, stR_row, stR_row0, stR_row1, stR_rowA, stR_rowA0, splice_rowv, splice_rowv0, splice_rowv1, splice_z, splice_n, splice_s, nth_rowv, nth_rowv0, nth_rowv1, rowv_len, X4'', hal, e2, e4, e11, e12, e13, E0.blk, X2, X4, hlt, E1.blk, M2.blk]; done)) (by simp; omega) ?_ ?_ ?_) hQ
      · intro u hu
        rcases List.mem_append.1 hu with h | h
        · exact hao u h
        · rw [List.mem_singleton.1 h]; exact hok
      · rw [List.map_append, ham, List.take_add_one, hxk, List.map_singleton, hte]; rfl
      · refine (o2.keep ?_).wide (fun b hb hl => ?_)
        · intro b hb hl
          rcases hb with hb | hb
          · rw [hp_set_ne hb.2.2]
          · rw [hp_set_ne (by omega)]
        · simp only [In, size_setRow] at hb hl ⊢
          rcases hb with hb | hb <;> omega
theorem readPast_m {g o c : Nat} {ws : List (List UInt8)} {w : World} (G : GlobE w) (hx : ∀ x ∈ ws, x.length ≤ 140737488351232) (hl : ws.length ≤ 100) (hA : StrAt w g o ws) :
    Ret (EV P 26 #[.slice (some ⟨g, o, none⟩) ws.length c] w) fun r => ∃ p ok a q, r.1 = .tuple #[.agg #[.slice a p.length q], .bool ok] ∧ PastGot ws p ok ∧ O tTags (In w.heap.size r.2.heap.size) r.2 [.slice a p.length q] p ∧ Ext w r.2 := by
  refine Ret.post fun Q hQ => ?_
  refine Ret.enter plain mixed (impl_readPast_fn _ _) (by kernel_rfl) (n := 1) (by kernel_rfl) rfl ?_
  simp (maxSteps := 1000000) (disch := first | assumption | omega | (simp only [World.size_alloc, size_setRow, dw_size]; done) | (simp only [World.size_alloc, size_setRow, dw_size] <;> omega) | (simp only [List.length_set, Array.length_toList, List.length_cons, List.length_nil, List.length_append, bts_size] <;> omega) | (simp only [List.all_cons, List.all_nil, Value.oneCell', Bool.and_self, Bool.and_true]; done)) [-Option.bind_some, hp_alloc_lt, hp_alloc_eq, hp_set_ne, wrap_small, ups_ap_cons, ups_ap_nil, upd_same, upd_other, env0_ap0, env0_aps, xt_a, xt_b, xt_c, nk_ptr, -splice_eq, -stR_cells, stR_box, stR_boxA, stR_row, stR_row0, stR_row1, stR_rowA, stR_rowA0, splice_rowv, splice_rowv0, splice_rowv1, splice_z, splice_n, splice_s, nth_rowv, nth_rowv0, nth_rowv1, rowv_len]
  refine Ret.bind (O.make0 (L := LTag) (mx := 8796093021952) el_24 zz_23 rfl (by decide) (n := 4) (by decide) (by decide) (by decide)) ?_
  rintro ⟨_, w1⟩ ⟨rfl, o1, z1, E1⟩
  have zE1 := E1.size
  try simp only [World.size_alloc, size_setRow, dw_size] at zE1
  try dsimp only at o1 z1 E1
  have X2 : hp w1 w.heap.size = some (.cells #[.slice none 0 0] 26 (0, 0)) := (E1.blk (by simp)).trans (by first | assumption | rfl | (simp (maxSteps := 1000000) (disch := first | assumption | omega | (simp only [World.size_alloc, size_setRow, dw_size]; done) | (simp only [World.size_alloc, size_setRow, dw_size] <;> omega) | (simp only [List.length_set, Array.length_toList, List.length_cons, List.length_nil, List.length_append, bts_size] <;> omega) | (simp only [List.all_cons, List.all_nil, Value.oneCell', Bool.and_self, Bool.and_true]; done)) [-Option.bind_some, hp_alloc_lt, hp_alloc_eq, hp_set_ne, wrap_small, ups_ap_cons, ups_ap_nil, upd_same, upd_other, env0_ap0, env0_aps, xt_a, xt_b, xt_c, nk_ptr, -splice_eq, -stR_cells, stR_box, stR_boxA, stR_row, stR_row0, stR_row1, stR_rowA, stR_rowA0, splice_rowv, splice_rowv0, splice_rowv1, splice_z, splice_n, splice_s, nth_rowv, nth_rowv0, nth_rowv1, rowv_len, E1.blk]; done))
  simp only [World.size_alloc] at z1 o1
  have F1 : Ext w w1 := by (repeat (first | exact Ext.rfl | assumption | (refine Ext.al ?_ _) | (refine Ext.dw ?_) | (refine Ext.set ?_ (by first | omega | (simp only [World.size_alloc, size_setRow, dw_size]; omega)) _) | (refine Ext.tr ?_ (by assumption))))
  simp (maxSteps := 1000000) (disch := first | assumption | omega | (simp only [World.size_alloc, size_setRow, dw_size]; done) | (simp only [World.size_alloc, size_setRow, dw_size] <;> omega) | (simp only [List.length_set, Array.length_toList, List.length_cons, List.length_nil, List.length_append, bts_size] <;> omega) | (simp only [List.all_cons, List.all_nil, Value.oneCell', Bool.and_self, Bool.and_true]; done)) [-Option.bind_some, hp_alloc_lt, hp_alloc_eq, hp_set_ne, wrap_small, ups_ap_cons, ups_ap_nil, upd_same, upd_other, env0_ap0, env0_aps, xt_a, xt_b, xt_c, nk_ptr, -splice_eq, -stR_cells, stR_box, stR_boxA, stR_row, stR_row0, stR_row1, stR_rowA, stR_rowA0, splice_rowv, splice_rowv0, splice_rowv1, splice_z, splice_n, splice_s, nth_rowv, nth_rowv0, nth_rowv1, rowv_len, E1.blk, X2]
  refine Ret.mono (readPast_n (w0 := w) (b2 := w.heap.size) (b4 := w1.heap.size) G hx hl (Nat.le_refl _) (by omega) (by omega) hA ws.length 0 _ _ [] (some ⟨w.heap.size + 1, 0, none⟩) 4 (by omega) (by first | omega | assumption | rfl | exact congrArg i64 (by omega) | (simp; done) | (simp; omega)) (by first | omega | assumption | rfl | exact congrArg i64 (by omega) | (simp; done) | (simp; omega)) (by first | omega | assumption | rfl | exact congrArg i64 (by omega) | (simp; done) | (simp; omega)) (by first | omega | assumption | rfl | exact congrArg i64 (by omega) | (simp; done) | (simp; omega)) (by first | omega | assumption | rfl | exact congrArg i64 (by omega) | (simp; done) | (simp; omega)) (by (repeat (first | exact Ext.rfl | assumption | (refine Ext.al ?_ _) | (refine Ext.dw ?_) | (refine Ext.set ?_ (by first | omega | (simp only [World.size_alloc, size_setRow, dw_size]; omega)) _) | (refine Ext.tr ?_ (by assumption))))) (by first | assumption | rfl | (simp (maxSteps := 1000000) (disch := first | assumption | omega | (simp only [World.size_alloc, size_setRow, dw_size]; done) | (simp only [World.size_alloc, size_setRow, dw_size] <;> omega) | (simp only [List.length_set, Array.length_toList, List.length_cons, List.length_nil, List.length_append, bts_size] <;> omega) | (simp only [List.all_cons, List.all_nil, Value.oneCell', Bool.and_self, Bool.and_true]; done)) [-Option.bind_some, hp_alloc_lt, hp_alloc_eq, hp_set_ne, wrap_small, ups_ap_cons, ups_ap_nil, upd_same, upd_other, env0_ap0, env0_aps, xt_a, xt_b, xt_c, nk_ptr, -splice_eq, -stR_cells, stR_box, stR_boxA, stR_row, stR_row0, stR_row1, stR_rowA, stR_rowA0, splice_rowv, splice_rowv0, splice_rowv1, splice_z, splice_n, splice_s, nth_rowv, nth_rowv0, nth_rowv1, rowv_len, X2, E1.blk, X2]; done)) (by first | assumption | rfl | (simp (maxSteps := 1000000) (disch := first | assumption | omega | (simp only [World.size_alloc, size_setRow, dw_size]; done) | (simp only [World.size_alloc, size_setRow, dw_size] <;> omega) | (simp only [List.length_set, Array.length_toList, List.length_cons, List.length_nil, List.length_append, bts_size] <;> omega) | (simp only [List.all_cons, List.all_nil, Value.oneCell', Bool.and_self, Bool.and_true]; done)) [-Option.bind_some, hp_alloc_lt, hp_alloc_eq, hp_set_ne, wrap_small, ups_ap_cons, ups_ap_nil, upd_same, upd_other, env0_ap0, env0_aps, xt_a, xt_b, xt_c, nk_ptr, -splice_eq, -stR_cells, stR_box, stR_boxA, stR_row, stR_row0, stR_row1, stR_rowA, stR_rowA0, splice_rowv, splice_rowv0, splice_rowv1, splice_z, splice_n, splice_s, nth_rowv, nth_rowv0, nth_rowv1, rowv_len, E1.blk, X2]; done)) rfl (by simp) (by simp) ((o1.keep (by intro b hS hb; (try dsimp only at hS); (try simp only [In, World.size_alloc, size_setRow, dw_size] at hS hb); first | rfl | (simp (disch := first | assumption | omega | (simp only [World.size_alloc, size_setRow, dw_size]; omega) | (simp only [World.size_alloc, size_setRow, dw_size, In]; omega)) only [E1.blk, hp_alloc_lt, hp_set_ne, hp_dw]; done))).wide ?_)) hQ
  intro b hb hl
  simp only [In, size_setRow, World.size_alloc] at hb hl ⊢
  omega
end Go.Proofs.YtgdacclgooaodaaGreatDoor.X
set_option linter.unusedVariables false
set_option linter.unusedSimpArgs false
set_option maxRecDepth 100000
set_option maxHeartbeats 1000000
namespace Go.Proofs.YtgdacclgooaodaaGreatDoor.X
open Go Go.Ev Go.RowKit
theorem split_g {l : List UInt8} {c : UInt8} (hl : l.length ≤ 100000000) (w : World) : Ret (EV P 23 #[.string (bts l), .string (bts [c])] w) fun r => ∃ g q, r.1 = .slice (some ⟨g, 0, none⟩) (splitL c l).length q ∧ (splitL c l).length ≤ q ∧ StrAt r.2 g 0 (splitL c l) ∧ Ext w r.2 :=
  Ret.mono (split_m hl w) fun r ⟨q, h1, h2, h3, h4⟩ => ⟨_, q, h1, h2, h3, h4⟩
theorem impl_VerGet_m {l : List UInt8} (hl : l.length ≤ 100000000) {w : World} (G : GlobE w) : Ret (EV P 7 #[.string (bts l)] w) fun r => ∃ v ok ds, r.1 = .tuple #[.agg ds.toArray, .bool ok] ∧ VerGot l v ok ∧ O tVer (In w.heap.size r.2.heap.size) r.2 ds v ∧ Ext w r.2 := by
  have hsz := splitL_sz 32 l
  refine Ret.post fun Q hQ => ?_
  refine Ret.enter plain mixed (impl_VerGet_fn _ _) (by kernel_rfl) (n := 1) (by kernel_rfl) rfl ?_
  simp (maxSteps := 1000000) (disch := first | assumption | omega | (simp only [World.size_alloc, size_setRow, dw_size]; done) | (simp only [World.size_alloc, size_setRow, dw_size] <;> omega) | (simp only [List.length_set, Array.length_toList, List.length_cons, List.length_nil, List.length_append, bts_size] <;> omega) | (simp only [List.all_cons, List.all_nil, Value.oneCell', Bool.and_self, Bool.and_true]; done)) [-Option.bind_some, hp_alloc_lt, hp_alloc_eq, hp_set_ne, wrap_small, ups_ap_cons, ups_ap_nil, upd_same, upd_other, env0_ap0, env0_aps, xt_a, xt_b, xt_c, nk_ptr, -splice_eq, -stR_cells, stR_box, stR_boxA, stR_row, stR_row0, stR_row1, stR_rowA, stR_rowA0, splice_rowv, splice_rowv0, splice_rowv1, splice_z, splice_n, splice_s, nth_rowv, nth_rowv0, nth_rowv1, rowv_len, mk_bts]
  refine Ret.bind (split_g (c := 32) hl _) ?_
  rintro ⟨_, w1⟩ ⟨g, q, rfl, hq, A1, E1⟩
  have zE1 := E1.size
  try simp only [World.size_alloc, size_setRow, dw_size] at zE1
  try dsimp only at A1 E1
  have X1 : hp w1 w.heap.size = some (.cells #[i64 0, i64 0, i64 0, .slice none 0 0, .string (bts []), .bool false] 28 (0, 0)) := (E1.blk (by simp)).trans (by first | assumption | rfl | (simp (maxSteps := 1000000) (disch := first | assumption | omega | (simp only [World.size_alloc, size_setRow, dw_size]; done) | (simp only [World.size_alloc, size_setRow, dw_size] <;> omega) | (simp only [List.length_set, Array.length_toList, List.length_cons, List.length_nil, List.length_append, bts_size] <;> omega) | (simp only [List.all_cons, List.all_nil, Value.oneCell', Bool.and_self, Bool.and_true]; done)) [-Option.bind_some, hp_alloc_lt, hp_alloc_eq, hp_set_ne, wrap_small, ups_ap_cons, ups_ap_nil, upd_same, upd_other, env0_ap0, env0_aps, xt_a, xt_b, xt_c, nk_ptr, -splice_eq, -stR_cells, stR_box, stR_boxA, stR_row, stR_row0, stR_row1, stR_rowA, stR_rowA0, splice_rowv, splice_rowv0, splice_rowv1, splice_z, splice_n, splice_s, nth_rowv, nth_rowv0, nth_rowv1, rowv_len, E1.blk]; done))
  have zE1 := E1.size
  simp only [World.size_alloc] at zE1
  have bad : ∀ w', Ext w w' → (∀ v', verOk v' = true → verL v' ≠ l) → Q (.tuple #[.agg #[i64 0, i64 0, i64 0, .slice none 0 0, .string ⟨#[]⟩, .bool false], .bool false], w') := fun w' h1 h2 =>
    hQ _ ⟨verZ, false, [i64 0, i64 0, i64 0, .slice none 0 0, .string ⟨#[]⟩, .bool false], rfl, ⟨by simp, fun _ => ⟨rfl, h2⟩⟩, zero_Ver_o _, h1⟩
  by_cases h7 : (splitL 32 l).length = 7
  · obtain ⟨y0, y1, y2, y3, y4, y5, y6, hy⟩ := len7 h7
    rw [hy] at A1 hsz hq
    simp only [List.length_cons, List.length_nil] at hq
    have hwords : ∀ v', verOk v' = true → verL v' = l → y0 = decL v'.key.toNat ∧ y1 = tagL v'.tag ∧ v'.past.map tagL = [y2, y3, y4, y5] ∧ y6 = restL v' := by
      intro v' h1 h2
      obtain ⟨a1, a2, a3, a4, a5, a6, a7⟩ := ver_parts h1
      have h3 := verL_split h1
      rw [h2, hy, verWords] at h3
      obtain ⟨t0, t1, t2, t3, hp⟩ : ∃ t0 t1 t2 t3, v'.past = [t0, t1, t2, t3] := by
        match hvp : v'.past, a6 with
        | [a, b, c, d], _ => exact ⟨a, b, c, d, rfl⟩
      rw [hp] at h3 ⊢
      simp only [List.map_cons, List.map_nil, List.cons_append, List.nil_append, List.cons.injEq, and_true] at h3 ⊢
      obtain ⟨e0, e1, e2, e3, e4, e5, e6⟩ := h3
      exact ⟨e0, e1, ⟨e2.symm, e3.symm, e4.symm, e5.symm⟩, e6⟩
    have s0 := hsz y0 (by simp)
    have s1 := hsz y1 (by simp)
    have s6 := hsz y6 (by simp)
    have A1' : StrAt w1 g 0 [y0, y1, y2, y3, y4, y5, y6] := A1
    have c0 := A1' 0 y0 rfl
    rw [Nat.add_zero] at c0
    have hg1 := cellO_lt c0
    have hsl := sl_lh (P := P) (t := 41) el_41 (b := g) (o := 0) (len := 7) (cap := q) (l := 2) (n := 6) (by decide) (by decide) (by omega) (show (2 : Int).toNat ≠ q by show 2 ≠ q; omega)
    simp only [show (2 : Int).toNat = 2 from rfl, show (6 : Int).toNat = 6 from rfl, Nat.zero_add, Nat.mul_one] at hsl
    simp (maxSteps := 1000000) (disch := first | assumption | omega | (simp only [World.size_alloc, size_setRow, dw_size]; done) | (simp only [World.size_alloc, size_setRow, dw_size] <;> omega) | (simp only [List.length_set, Array.length_toList, List.length_cons, List.length_nil, List.length_append, bts_size] <;> omega) | (simp only [List.all_cons, List.all_nil, Value.oneCell', Bool.and_self, Bool.and_true]; done)) [-Option.bind_some, hp_alloc_lt, hp_alloc_eq, hp_set_ne, wrap_small, ups_ap_cons, ups_ap_nil, upd_same, upd_other, env0_ap0, env0_aps, xt_a, xt_b, xt_c, nk_ptr, -splice_eq, -stR_cells, stR_box, stR_boxA, stR_row, stR_row0, stR_row1, stR_rowA, stR_rowA0, splice_rowv, splice_rowv0, splice_rowv1, splice_z, splice_n, splice_s, nth_rowv, nth_rowv0, nth_rowv1, rowv_len, h7, c0, ia_41, E1.blk, X1, hg1]
    refine Ret.bind (atoi_m (l := y0) (by omega) (G.ext (by (repeat (first | exact Ext.rfl | assumption | (refine Ext.al ?_ _) | (refine Ext.dw ?_) | (refine Ext.set ?_ (by first | omega | (simp only [World.size_alloc, size_setRow, dw_size]; omega)) _) | (refine Ext.tr ?_ (by assumption))))))) ?_
    rintro ⟨_, w2⟩ ⟨E2, m1, er1, rfl, he1, hv1⟩
    try dsimp only at E2 m1 er1 he1 hv1
    have zE2 := E2.size
    try simp only [World.size_alloc, size_setRow, dw_size] at zE2
    have c1 := cellO_ext E2 (A1' 1 y1 rfl)
    rw [Nat.zero_add] at c1
    have c1b := A1' 1 y1 rfl
    have c6b := A1' 6 y6 rfl
    rw [Nat.zero_add] at c1b c6b
    simp (maxSteps := 1000000) (disch := first | assumption | omega | (simp only [World.size_alloc, size_setRow, dw_size]; done) | (simp only [World.size_alloc, size_setRow, dw_size] <;> omega) | (simp only [List.length_set, Array.length_toList, List.length_cons, List.length_nil, List.length_append, bts_size] <;> omega) | (simp only [List.all_cons, List.all_nil, Value.oneCell', Bool.and_self, Bool.and_true]; done)) [-Option.bind_some, hp_alloc_lt, hp_alloc_eq, hp_set_ne, wrap_small, ups_ap_cons, ups_ap_nil, upd_same, upd_other, env0_ap0, env0_aps, xt_a, xt_b, xt_c, nk_ptr, -splice_eq, -stR_cells, stR_box, stR_boxA, stR_row, stR_row0, stR_row1, stR_rowA, stR_rowA0, splice_rowv, splice_rowv0, splice_rowv1, splice_z, splice_n, splice_s, nth_rowv, nth_rowv0, nth_rowv1, rowv_len, h7, c1, c1b, ia_41, xt_a, xt_b, E1.blk, X1, hg1, E2.blk]
    refine Ret.bind (impl_TagGet_m (l := y1) (by omega) (G.ext (by (repeat (first | exact Ext.rfl | assumption | (refine Ext.al ?_ _) | (refine Ext.dw ?_) | (refine Ext.set ?_ (by first | omega | (simp only [World.size_alloc, size_setRow, dw_size]; omega)) _) | (refine Ext.tr ?_ (by assumption))))))) ?_
    rintro ⟨_, w3⟩ ⟨t, ok1, rfl, hg1', E3⟩
    try dsimp only at t ok1 hg1' E3
    have zE3 := E3.size
    try simp only [World.size_alloc, size_setRow, dw_size] at zE3
    have A3 : StrAt w3 g 2 [y2, y3, y4, y5] := (((A1'.ext E2).ext E3).drop 2).take 4
    simp (maxSteps := 1000000) (disch := first | assumption | omega | (simp only [World.size_alloc, size_setRow, dw_size]; done) | (simp only [World.size_alloc, size_setRow, dw_size] <;> omega) | (simp only [List.length_set, Array.length_toList, List.length_cons, List.length_nil, List.length_append, bts_size] <;> omega) | (simp only [List.all_cons, List.all_nil, Value.oneCell', Bool.and_self, Bool.and_true]; done)) [-Option.bind_some, hp_alloc_lt, hp_alloc_eq, hp_set_ne, wrap_small, ups_ap_cons, ups_ap_nil, upd_same, upd_other, env0_ap0, env0_aps, xt_a, xt_b, xt_c, nk_ptr, -splice_eq, -stR_cells, stR_box, stR_boxA, stR_row, stR_row0, stR_row1, stR_rowA, stR_rowA0, splice_rowv, splice_rowv0, splice_rowv1, splice_z, splice_n, splice_s, nth_rowv, nth_rowv0, nth_rowv1, rowv_len, h7, hsl, xt_a, xt_b, E1.blk, X1, hg1, E2.blk, E3.blk]
    refine Ret.bind (readPast_m (c := q - 2) (ws := [y2, y3, y4, y5]) (G.ext (by (repeat (first | exact Ext.rfl | assumption | (refine Ext.al ?_ _) | (refine Ext.dw ?_) | (refine Ext.set ?_ (by first | omega | (simp only [World.size_alloc, size_setRow, dw_size]; omega)) _) | (refine Ext.tr ?_ (by assumption)))))) (fun x hx => by have := hsz x (List.mem_cons_of_mem _ (List.mem_cons_of_mem _ (List.mem_append_left [y6] hx))); omega) (by simp) (A3.ext (by (repeat (first | exact Ext.rfl | assumption | (refine Ext.al ?_ _) | (refine Ext.dw ?_) | (refine Ext.set ?_ (by first | omega | (simp only [World.size_alloc, size_setRow, dw_size]; omega)) _) | (refine Ext.tr ?_ (by assumption))))))) ?_
    rintro ⟨_, w4⟩ ⟨p, ok2, a, q2, rfl, hp2, o4, E4⟩
    have zE4 := E4.size
    try simp only [World.size_alloc, size_setRow, dw_size] at zE4
    try dsimp only at o4 E4
    have zE2 := E2.size
    have zE3 := E3.size
    have zE4 := E4.size
    simp only [size_setRow, World.size_alloc] at zE4
    have F4 : Ext w w4 := by (repeat (first | exact Ext.rfl | assumption | (refine Ext.al ?_ _) | (refine Ext.dw ?_) | (refine Ext.set ?_ (by first | omega | (simp only [World.size_alloc, size_setRow, dw_size]; omega)) _) | (refine Ext.tr ?_ (by assumption))))
    have X4 : hp w4 w.heap.size = some (.cells #[i64 0, i64 0, i64 0, .slice none 0 0, .string (bts []), .bool false] 28 (0, 0)) := (by first | assumption | rfl | (simp (maxSteps := 1000000) (disch := first | assumption | omega | (simp only [World.size_alloc, size_setRow, dw_size]; done) | (simp only [World.size_alloc, size_setRow, dw_size] <;> omega) | (simp only [List.length_set, Array.length_toList, List.length_cons, List.length_nil, List.length_append, bts_size] <;> omega) | (simp only [List.all_cons, List.all_nil, Value.oneCell', Bool.and_self, Bool.and_true]; done)) [-Option.bind_some, hp_alloc_lt, hp_alloc_eq, hp_set_ne, wrap_small, ups_ap_cons, ups_ap_nil, upd_same, upd_other, env0_ap0, env0_aps, xt_a, xt_b, xt_c, nk_ptr, -splice_eq, -stR_cells, stR_box, stR_boxA, stR_row, stR_row0, stR_row1, stR_rowA, stR_rowA0, splice_rowv, splice_rowv0, splice_rowv1, splice_z, splice_n, splice_s, nth_rowv, nth_rowv0, nth_rowv1, rowv_len, X1, E1.blk, X1, hg1, E2.blk, E3.blk, E4.blk]; done))
    have T4 : hp w4 w3.heap.size = some (.cells #[i64 t.t, i64 t.p] 23 (0, 0)) := (by first | assumption | rfl | (simp (maxSteps := 1000000) (disch := first | assumption | omega | (simp only [World.size_alloc, size_setRow, dw_size]; done) | (simp only [World.size_alloc, size_setRow, dw_size] <;> omega) | (simp only [List.length_set, Array.length_toList, List.length_cons, List.length_nil, List.length_append, bts_size] <;> omega) | (simp only [List.all_cons, List.all_nil, Value.oneCell', Bool.and_self, Bool.and_true]; done)) [-Option.bind_some, hp_alloc_lt, hp_alloc_eq, hp_set_ne, wrap_small, ups_ap_cons, ups_ap_nil, upd_same, upd_other, env0_ap0, env0_aps, xt_a, xt_b, xt_c, nk_ptr, -splice_eq, -stR_cells, stR_box, stR_boxA, stR_row, stR_row0, stR_row1, stR_rowA, stR_rowA0, splice_rowv, splice_rowv0, splice_rowv1, splice_z, splice_n, splice_s, nth_rowv, nth_rowv0, nth_rowv1, rowv_len, E1.blk, X1, hg1, E2.blk, E3.blk, E4.blk, X4]; done))
    have hno : ∀ v', verOk v' = true → verL v' = l → er1 = .nilIface ∧ ok1 = true ∧ ok2 = true ∧ v' = ⟨m1, t, p, bts (restP y6).1, (restP y6).2.1⟩ ∧ (restP y6).2.2 = true := by
      intro v' h1 h2
      obtain ⟨k0, k1, k2, k6⟩ := hwords v' h1 h2
      obtain ⟨a1, a2, a3, a4, a5, a6, a7⟩ := ver_parts h1
      have r1 := hv1 v'.key.toNat (by omega) k0
      have r2 : ok1 = true := by
        cases hok : ok1
        · rw [hok] at hg1'; exact absurd k1.symm ((hg1'.2 rfl).2 _ a7)
        · rfl
      have r3 : ok2 = true := by
        cases hok : ok2
        · rw [hok] at hp2; exact absurd k2 (hp2.2 rfl _ a5)
        · rfl
      have r4 : v'.tag = t := by
        obtain ⟨h3, h4⟩ := hg1'.1 r2
        exact tagL_inj a7 h3 (k1.symm.trans h4.symm)
      have r5 : v'.past = p := by
        obtain ⟨h3, h4⟩ := hp2.1 r3
        exact tags_inj a5 h3 (k2.trans h4.symm)
      have r6 := restP_of h1
      rw [← k6] at r6
      refine ⟨r1.1, r2, r3, ?_, by rw [r6]⟩
      obtain ⟨k', t', p', x', g'⟩ := v'
      dsimp only at *
      subst r4 r5
      rw [r6, show m1 = k' by omega]
      simp only [bts_of]
    simp (maxSteps := 1000000) (disch := first | assumption | omega | (simp only [World.size_alloc, size_setRow, dw_size]; done) | (simp only [World.size_alloc, size_setRow, dw_size] <;> omega) | (simp only [List.length_set, Array.length_toList, List.length_cons, List.length_nil, List.length_append, bts_size] <;> omega) | (simp only [List.all_cons, List.all_nil, Value.oneCell', Bool.and_self, Bool.and_true]; done)) [-Option.bind_some, hp_alloc_lt, hp_alloc_eq, hp_set_ne, wrap_small, ups_ap_cons, ups_ap_nil, upd_same, upd_other, env0_ap0, env0_aps, xt_a, xt_b, xt_c, nk_ptr, -splice_eq, -stR_cells, stR_box, stR_boxA, stR_row, stR_row0, stR_row1, stR_rowA, stR_rowA0, splice_rowv, splice_rowv0, splice_rowv1, splice_z, splice_n, splice_s, nth_rowv, nth_rowv0, nth_rowv1, rowv_len, xt_a, xt_b, T4, E1.blk, X1, hg1, E2.blk, E3.blk, E4.blk, X4]
    rcases he1 with rfl | ⟨u1, x1, rfl⟩
    · cases ok1
      · simp (maxSteps := 1000000) (disch := first | assumption | omega | (simp only [World.size_alloc, size_setRow, dw_size]; done) | (simp only [World.size_alloc, size_setRow, dw_size] <;> omega) | (simp only [List.length_set, Array.length_toList, List.length_cons, List.length_nil, List.length_append, bts_size] <;> omega) | (simp only [List.all_cons, List.all_nil, Value.oneCell', Bool.and_self, Bool.and_true]; done)) [-Option.bind_some, hp_alloc_lt, hp_alloc_eq, hp_set_ne, wrap_small, ups_ap_cons, ups_ap_nil, upd_same, upd_other, env0_ap0, env0_aps, xt_a, xt_b, xt_c, nk_ptr, nn0, X4, E1.blk, X1, hg1, E2.blk, E3.blk, E4.blk, X4]
        exact bad _ (by (repeat (first | exact Ext.rfl | assumption | (refine Ext.al ?_ _) | (refine Ext.dw ?_) | (refine Ext.set ?_ (by first | omega | (simp only [World.size_alloc, size_setRow, dw_size]; omega)) _) | (refine Ext.tr ?_ (by assumption))))) fun v' h1 h2 => by have := (hno v' h1 h2).2.1; cases this
      · cases ok2
        · simp (maxSteps := 1000000) (disch := first | assumption | omega | (simp only [World.size_alloc, size_setRow, dw_size]; done) | (simp only [World.size_alloc, size_setRow, dw_size] <;> omega) | (simp only [List.length_set, Array.length_toList, List.length_cons, List.length_nil, List.length_append, bts_size] <;> omega) | (simp only [List.all_cons, List.all_nil, Value.oneCell', Bool.and_self, Bool.and_true]; done)) [-Option.bind_some, hp_alloc_lt, hp_alloc_eq, hp_set_ne, wrap_small, ups_ap_cons, ups_ap_nil, upd_same, upd_other, env0_ap0, env0_aps, xt_a, xt_b, xt_c, nk_ptr, nn0, X4, E1.blk, X1, hg1, E2.blk, E3.blk, E4.blk, X4]
          exact bad _ (by (repeat (first | exact Ext.rfl | assumption | (refine Ext.al ?_ _) | (refine Ext.dw ?_) | (refine Ext.set ?_ (by first | omega | (simp only [World.size_alloc, size_setRow, dw_size]; omega)) _) | (refine Ext.tr ?_ (by assumption))))) fun v' h1 h2 => by have := (hno v' h1 h2).2.2.1; cases this
        · obtain ⟨hpo, hpm⟩ := hp2.1 rfl
          have hpl : p.length = 4 := by have := congrArg List.length hpm; simpa using this
          have c6 := cellO_ext (E2.tr (E3.tr (Ext.tr (by (repeat (first | exact Ext.rfl | assumption | (refine Ext.al ?_ _) | (refine Ext.dw ?_) | (refine Ext.set ?_ (by first | omega | (simp only [World.size_alloc, size_setRow, dw_size]; omega)) _) | (refine Ext.tr ?_ (by assumption))))) E4))) (A1' 6 y6 rfl)
          rw [Nat.zero_add] at c6
          simp (maxSteps := 1000000) (disch := first | assumption | omega | (simp only [World.size_alloc, size_setRow, dw_size]; done) | (simp only [World.size_alloc, size_setRow, dw_size] <;> omega) | (simp only [List.length_set, Array.length_toList, List.length_cons, List.length_nil, List.length_append, bts_size] <;> omega) | (simp only [List.all_cons, List.all_nil, Value.oneCell', Bool.and_self, Bool.and_true]; done)) [-Option.bind_some, hp_alloc_lt, hp_alloc_eq, hp_set_ne, wrap_small, ups_ap_cons, ups_ap_nil, upd_same, upd_other, env0_ap0, env0_aps, xt_a, xt_b, xt_c, nk_ptr, -splice_eq, -stR_cells, stR_box, stR_boxA, stR_row, stR_row0, stR_row1, stR_rowA, stR_rowA0, splice_rowv, splice_rowv0, splice_rowv1, splice_z, splice_n, splice_s, nth_rowv, nth_rowv0, nth_rowv1, rowv_len, nn0, h7, ia_41, c6, c6b, mk_bts, E1.blk, X1, hg1, E2.blk, E3.blk, E4.blk, X4]
          refine Ret.bind (readRest_m (l := y6) (b := w4.heap.size + 1) (k := m1) (t := t.t) (p := t.p) (a := a) (n := p.length) (q := q2) (by omega) (by first | assumption | rfl | (simp (maxSteps := 1000000) (disch := first | assumption | omega | (simp only [World.size_alloc, size_setRow, dw_size]; done) | (simp only [World.size_alloc, size_setRow, dw_size] <;> omega) | (simp only [List.length_set, Array.length_toList, List.length_cons, List.length_nil, List.length_append, bts_size] <;> omega) | (simp only [List.all_cons, List.all_nil, Value.oneCell', Bool.and_self, Bool.and_true]; done)) [-Option.bind_some, hp_alloc_lt, hp_alloc_eq, hp_set_ne, wrap_small, ups_ap_cons, ups_ap_nil, upd_same, upd_other, env0_ap0, env0_aps, xt_a, xt_b, xt_c, nk_ptr, -splice_eq, -stR_cells, stR_box, stR_boxA, stR_row, stR_row0, stR_row1, stR_rowA, stR_rowA0, splice_rowv, splice_rowv0, splice_rowv1, splice_z, splice_n, splice_s, nth_rowv, nth_rowv0, nth_rowv1, rowv_len, mk_bts, E1.blk, X1, hg1, E2.blk, E3.blk, E4.blk, X4]; done))) ?_
          rintro ⟨_, w5⟩ ⟨rfl, H5, N5⟩
          try dsimp only at H5 N5
          have zM5 := N5.size
          simp only [size_setRow, World.size_alloc] at zM5
          have F5 : Ext w w5 := Mod.after (a := w) (by (repeat (first | exact Ext.rfl | assumption | (refine Ext.al ?_ _) | (refine Ext.dw ?_) | (refine Ext.set ?_ (by first | omega | (simp only [World.size_alloc, size_setRow, dw_size]; omega)) _) | (refine Ext.tr ?_ (by assumption))))) N5 (by intro x hx h; omega)
          have X5 : hp w5 w.heap.size = some (.cells #[i64 0, i64 0, i64 0, .slice none 0 0, .string (bts []), .bool false] 28 (0, 0)) := (N5.blk w.heap.size (by simp only [size_setRow, World.size_alloc]; omega) (by omega)).trans (by first | assumption | rfl | (simp (maxSteps := 1000000) (disch := first | assumption | omega | (simp only [World.size_alloc, size_setRow, dw_size]; done) | (simp only [World.size_alloc, size_setRow, dw_size] <;> omega) | (simp only [List.length_set, Array.length_toList, List.length_cons, List.length_nil, List.length_append, bts_size] <;> omega) | (simp only [List.all_cons, List.all_nil, Value.oneCell', Bool.and_self, Bool.and_true]; done)) [-Option.bind_some, hp_alloc_lt, hp_alloc_eq, hp_set_ne, wrap_small, ups_ap_cons, ups_ap_nil, upd_same, upd_other, env0_ap0, env0_aps, xt_a, xt_b, xt_c, nk_ptr, -splice_eq, -stR_cells, stR_box, stR_boxA, stR_row, stR_row0, stR_row1, stR_rowA, stR_rowA0, splice_rowv, splice_rowv0, splice_rowv1, splice_z, splice_n, splice_s, nth_rowv, nth_rowv0, nth_rowv1, rowv_len, X4, E1.blk, X1, hg1, E2.blk, E3.blk, E4.blk, X4]; done))
          cases hr : (restP y6).2.2
          · simp (maxSteps := 1000000) (disch := first | assumption | omega | (simp only [World.size_alloc, size_setRow, dw_size]; done) | (simp only [World.size_alloc, size_setRow, dw_size] <;> omega) | (simp only [List.length_set, Array.length_toList, List.length_cons, List.length_nil, List.length_append, bts_size] <;> omega) | (simp only [List.all_cons, List.all_nil, Value.oneCell', Bool.and_self, Bool.and_true]; done)) [-Option.bind_some, hp_alloc_lt, hp_alloc_eq, hp_set_ne, wrap_small, ups_ap_cons, ups_ap_nil, upd_same, upd_other, env0_ap0, env0_aps, xt_a, xt_b, xt_c, nk_ptr, X5, E1.blk, X1, hg1, E2.blk, E3.blk, E4.blk, X4, X5]
            exact bad _ (by (repeat (first | exact Ext.rfl | assumption | (refine Ext.al ?_ _) | (refine Ext.dw ?_) | (refine Ext.set ?_ (by first | omega | (simp only [World.size_alloc, size_setRow, dw_size]; omega)) _) | (refine Ext.tr ?_ (by assumption))))) fun v' h1 h2 => by have := (hno v' h1 h2).2.2.2.2; rw [hr] at this; cases this
          · obtain ⟨v, hv⟩ : ∃ v : Ver, v = ⟨m1, t, p, bts (restP y6).1, (restP y6).2.1⟩ := ⟨_, rfl⟩
            have o5 : O tTags (In (w.heap.size + 1) w5.heap.size) w5 [.slice a p.length q2] p := by
              refine (o4.keep (fun b hb hl => (N5.blk b (by simp only [size_setRow, World.size_alloc]; omega) (by omega)).trans ?_)).wide ?_
              · simp (disch := first | omega | (simp only [World.size_alloc, size_setRow, dw_size]; omega)) only [hp_set_ne, hp_alloc_lt]
              · intro b hb hl; simp only [In, size_setRow, World.size_alloc] at hb ⊢; omega
            have hrl : (restP y6).1.length ≤ y6.length := by
              unfold restP
              split
              · simp
              · exact cutP_len 61 y6
            have oV : O tVer (In (w.heap.size + 1) w5.heap.size) w5 [i64 m1, i64 t.t, i64 t.p, .slice a p.length q2, .string (bts (restP y6).1), .bool (restP y6).2.1] v :=
              O.ver.2 ⟨a, q2, by rw [hv], by rw [hv]; exact o5, by rw [hv]; show (bts _).size ≤ _; rw [bts_size]; omega⟩
            simp (maxSteps := 1000000) (disch := first | assumption | omega | (simp only [World.size_alloc, size_setRow, dw_size]; done) | (simp only [World.size_alloc, size_setRow, dw_size] <;> omega) | (simp only [List.length_set, Array.length_toList, List.length_cons, List.length_nil, List.length_append, bts_size] <;> omega) | (simp only [List.all_cons, List.all_nil, Value.oneCell', Bool.and_self, Bool.and_true]; done)) [-Option.bind_some, hp_alloc_lt, hp_alloc_eq, hp_set_ne, wrap_small, ups_ap_cons, ups_ap_nil, upd_same, upd_other, env0_ap0, env0_aps, xt_a, xt_b, xt_c, nk_ptr, -splice_eq, -stR_cells, stR_box, stR_boxA, stR_row, stR_row0, stR_row1, stR_rowA, stR_rowA0, splice_rowv, splice_rowv0, splice_rowv1, splice_z, splice_n, splice_s, nth_rowv, nth_rowv0, nth_rowv1, rowv_len, H5, E1.blk, X1, hg1, E2.blk, E3.blk, E4.blk, X4, X5]
            refine Ret.bind (impl_VerOk_c (v := v) (oV.d.ext (by (repeat (first | exact Ext.rfl | assumption | (refine Ext.al ?_ _) | (refine Ext.dw ?_) | (refine Ext.set ?_ (by first | omega | (simp only [World.size_alloc, size_setRow, dw_size]; omega)) _) | (refine Ext.tr ?_ (by assumption)))))).rVer) ?_
            rintro ⟨_, w6⟩ ⟨rfl, E6⟩
            have zE6 := E6.size
            try simp only [World.size_alloc, size_setRow, dw_size] at zE6
            try dsimp only at E6
            have H6 := (E6.blk (hp_lt H5)).trans H5
            have X6 := (E6.blk (hp_lt X5)).trans X5
            have F6 := F5.tr E6
            cases hvo : verOk v
            · simp (maxSteps := 1000000) (disch := first | assumption | omega | (simp only [World.size_alloc, size_setRow, dw_size]; done) | (simp only [World.size_alloc, size_setRow, dw_size] <;> omega) | (simp only [List.length_set, Array.length_toList, List.length_cons, List.length_nil, List.length_append, bts_size] <;> omega) | (simp only [List.all_cons, List.all_nil, Value.oneCell', Bool.and_self, Bool.and_true]; done)) [-Option.bind_some, hp_alloc_lt, hp_alloc_eq, hp_set_ne, wrap_small, ups_ap_cons, ups_ap_nil, upd_same, upd_other, env0_ap0, env0_aps, xt_a, xt_b, xt_c, nk_ptr, X6, E1.blk, X1, hg1, E2.blk, E3.blk, E4.blk, X4, X5, E6.blk, X6]
              exact bad _ (by (repeat (first | exact Ext.rfl | assumption | (refine Ext.al ?_ _) | (refine Ext.dw ?_) | (refine Ext.set ?_ (by first | omega | (simp only [World.size_alloc, size_setRow, dw_size]; omega)) _) | (refine Ext.tr ?_ (by assumption))))) fun v' h1 h2 => by
                have := (hno v' h1 h2).2.2.2.1
                rw [← hv] at this
                rw [this, hvo] at h1
                cases h1
            · simp (maxSteps := 1000000) (disch := first | assumption | omega | (simp only [World.size_alloc, size_setRow, dw_size]; done) | (simp only [World.size_alloc, size_setRow, dw_size] <;> omega) | (simp only [List.length_set, Array.length_toList, List.length_cons, List.length_nil, List.length_append, bts_size] <;> omega) | (simp only [List.all_cons, List.all_nil, Value.oneCell', Bool.and_self, Bool.and_true]; done)) [-Option.bind_some, hp_alloc_lt, hp_alloc_eq, hp_set_ne, wrap_small, ups_ap_cons, ups_ap_nil, upd_same, upd_other, env0_ap0, env0_aps, xt_a, xt_b, xt_c, nk_ptr, -splice_eq, -stR_cells, stR_box, stR_boxA, stR_row, stR_row0, stR_row1, stR_rowA, stR_rowA0, splice_rowv, splice_rowv0, splice_rowv1, splice_z, splice_n, splice_s, nth_rowv, nth_rowv0, nth_rowv1, rowv_len, H6, E1.blk, X1, hg1, E2.blk, E3.blk, E4.blk, X4, X5, E6.blk, X6]
              refine Ret.bind (impl_VerPut_m (v := v) (G.g.ext (by (repeat (first | exact Ext.rfl | assumption | (refine Ext.al ?_ _) | (refine Ext.dw ?_) | (refine Ext.set ?_ (by first | omega | (simp only [World.size_alloc, size_setRow, dw_size]; omega)) _) | (refine Ext.tr ?_ (by assumption)))))) (oV.d.ext (by (repeat (first | exact Ext.rfl | assumption | (refine Ext.al ?_ _) | (refine Ext.dw ?_) | (refine Ext.set ?_ (by first | omega | (simp only [World.size_alloc, size_setRow, dw_size]; omega)) _) | (refine Ext.tr ?_ (by assumption))))))) ?_
              rintro ⟨_, w7⟩ ⟨rfl, E7⟩
              have zE7 := E7.size
              try simp only [World.size_alloc, size_setRow, dw_size] at zE7
              try dsimp only at E7
              have H7 := (E7.blk (hp_lt H6)).trans H6
              have X7 := (E7.blk (hp_lt X6)).trans X6
              have F7 := F6.tr E7
              have hpu : verPutL v = verL v := by rw [verPutL, if_pos hvo]
              by_cases hte : verL v = l
              · simp (maxSteps := 1000000) (disch := first | assumption | omega | (simp only [World.size_alloc, size_setRow, dw_size]; done) | (simp only [World.size_alloc, size_setRow, dw_size] <;> omega) | (simp only [List.length_set, Array.length_toList, List.length_cons, List.length_nil, List.length_append, bts_size] <;> omega) | (simp only [List.all_cons, List.all_nil, Value.oneCell', Bool.and_self, Bool.and_true]; done)) [-Option.bind_some, hp_alloc_lt, hp_alloc_eq, hp_set_ne, wrap_small, ups_ap_cons, ups_ap_nil, upd_same, upd_other, env0_ap0, env0_aps, xt_a, xt_b, xt_c, nk_ptr, bo_neq_str, bts_list, hpu, hte, H7, X7, E1.blk, X1, hg1, E2.blk, E3.blk, E4.blk, X4, X5, E6.blk, X6, E7.blk, X7]
                exact hQ _ ⟨v, true, [i64 m1, i64 t.t, i64 t.p, .slice a p.length q2, .string (bts (restP y6).1), .bool (restP y6).2.1], rfl, ⟨fun _ => ⟨hvo, hte⟩, by simp⟩, (((oV.ext E6).ext E7).keep (fun b hb hl => hp_set_ne (by simp only [In] at hb; omega))).wide (fun b hb hl => by simp only [In, size_setRow] at hb hl ⊢; omega), by (repeat (first | exact Ext.rfl | assumption | (refine Ext.al ?_ _) | (refine Ext.dw ?_) | (refine Ext.set ?_ (by first | omega | (simp only [World.size_alloc, size_setRow, dw_size]; omega)) _) | (refine Ext.tr ?_ (by assumption))))⟩
              · have hte' : (verL v == l) = false := beq_eq_false_iff_ne.2 hte
                simp (maxSteps := 1000000) (disch := first | assumption | omega | (simp only [World.size_alloc, size_setRow, dw_size]; done) | (simp only [World.size_alloc, size_setRow, dw_size] <;> omega) | (simp only [List.length_set, Array.length_toList, List.length_cons, List.length_nil, List.length_append, bts_size] <;> omega) | (simp only [List.all_cons, List.all_nil, Value.oneCell', Bool.and_self, Bool.and_true]; done)) [-Option.bind_some, hp_alloc_lt, hp_alloc_eq, hp_set_ne, wrap_small, ups_ap_cons, ups_ap_nil, upd_same, upd_other, env0_ap0, env0_aps, xt_a, xt_b, xt_c, nk_ptr, bo_neq_str, bts_list, hpu, hte', X7, E1.blk, X1, hg1, E2.blk, E3.blk, E4.blk, X4, X5, E6.blk, X6, E7.blk, X7]
                exact bad _ (by (repeat (first | exact Ext.rfl | assumption | (refine Ext.al ?_ _) | (refine Ext.dw ?_) | (refine Ext.set ?_ (by first | omega | (simp only [World.size_alloc, size_setRow, dw_size]; omega)) _) | (refine Ext.tr ?_ (by assumption))))) fun v' h1 h2 => hte (by
                  have := (hno v' h1 h2).2.2.2.1
                  rw [← hv] at this
                  rw [← this]; exact h2)
    · simp (maxSteps := 1000000) (disch := first | assumption | omega | (simp only [World.size_alloc, size_setRow, dw_size]; done) | (simp only [World.size_alloc, size_setRow, dw_size] <;> omega) | (simp only [List.length_set, Array.length_toList, List.length_cons, List.length_nil, List.length_append, bts_size] <;> omega) | (simp only [List.all_cons, List.all_nil, Value.oneCell', Bool.and_self, Bool.and_true]; done)) [-Option.bind_some, hp_alloc_lt, hp_alloc_eq, hp_set_ne, wrap_small, ups_ap_cons, ups_ap_nil, upd_same, upd_other, env0_ap0, env0_aps, xt_a, xt_b, xt_c, nk_ptr, nn0, nn1, X4, E1.blk, X1, hg1, E2.blk, E3.blk, E4.blk, X4]
      exact bad _ (by (repeat (first | exact Ext.rfl | assumption | (refine Ext.al ?_ _) | (refine Ext.dw ?_) | (refine Ext.set ?_ (by first | omega | (simp only [World.size_alloc, size_setRow, dw_size]; omega)) _) | (refine Ext.tr ?_ (by assumption))))) fun v' h1 h2 => by have := (hno v' h1 h2).1; cases this
  · have h7' : (((splitL 32 l).length : Int) != 7) = true := by simpa using (by omega : ((splitL 32 l).length : Int) ≠ 7)
    simp (maxSteps := 1000000) (disch := first | assumption | omega | (simp only [World.size_alloc, size_setRow, dw_size]; done) | (simp only [World.size_alloc, size_setRow, dw_size] <;> omega) | (simp only [List.length_set, Array.length_toList, List.length_cons, List.length_nil, List.length_append, bts_size] <;> omega) | (simp only [List.all_cons, List.all_nil, Value.oneCell', Bool.and_self, Bool.and_true]; done)) [-Option.bind_some, hp_alloc_lt, hp_alloc_eq, hp_set_ne, wrap_small, ups_ap_cons, ups_ap_nil, upd_same, upd_other, env0_ap0, env0_aps, xt_a, xt_b, xt_c, nk_ptr, h7', X1, E1.blk, X1]
    exact bad _ (by (repeat (first | exact Ext.rfl | assumption | (refine Ext.al ?_ _) | (refine Ext.dw ?_) | (refine Ext.set ?_ (by first | omega | (simp only [World.size_alloc, size_setRow, dw_size]; omega)) _) | (refine Ext.tr ?_ (by assumption))))) fun v' h1 h2 => h7 (by
      obtain ⟨a1, a2, a3, a4, a5, a6, a7⟩ := ver_parts h1
      rw [← h2, verL_split h1]
      simp [verWords, a6])
end Go.Proofs.YtgdacclgooaodaaGreatDoor.X
set_option linter.unusedVariables false
set_option linter.unusedSimpArgs false
set_option maxRecDepth 100000
set_option maxHeartbeats 1000000
namespace Go.Proofs.YtgdacclgooaodaaGreatDoor.X
open Go Go.Ev Go.RowKit
theorem VerGot.len {l : List UInt8} {v : Ver} {ok : Bool} (h : VerGot l v ok) : v.past.length ≤ 4 := by
  cases ok
  · rw [(h.2 rfl).1]; simp [verZ]
  · have := (ver_parts (h.1 rfl).1).2.2.2.2.2.1; omega
theorem verL_bound' {v : Ver} (h : verOk v = true) : (verL v).length ≤ 20008 := by
  have h1 := verL_bound h
  have h2 := (ver_parts h).2.2.1
  simp only [textOk, Bool.and_eq_true, decide_eq_true_eq] at h2
  omega
theorem verL_ne (v : Ver) : (verL v).isEmpty = false := by
  cases h : verL v with
  | nil => have h2 := congrArg List.length h; simp [verL] at h2
  | cons => rfl
theorem spec_VerOk_m {S : Nat → Prop} {cs : List Value} {v : Ver} {w : World} (ha : D tVer S w cs v) : Ret (EV P 15 #[.agg cs.toArray] w) fun r => r.1 = .bool (verOk v) ∧ Ext w r.2 := by
  have ha0 := ha
  obtain ⟨a, c, rfl, hpp, ht⟩ := D.ver.1 ha
  refine Ret.post fun Q hQ => ?_
  refine Ret.enter plain mixed (spec_VerOk_fn _ _) (by kernel_rfl) (n := 1) (by kernel_rfl) rfl ?_
  simp (maxSteps := 1000000) (disch := first | assumption | omega | (simp only [World.size_alloc, size_setRow, dw_size]; done) | (simp only [World.size_alloc, size_setRow, dw_size] <;> omega) | (simp only [List.length_set, Array.length_toList, List.length_cons, List.length_nil, List.length_append, bts_size] <;> omega) | (simp only [List.all_cons, List.all_nil, Value.oneCell', Bool.and_self, Bool.and_true]; done)) [-Option.bind_some, hp_alloc_lt, hp_alloc_eq, hp_set_ne, wrap_small, ups_ap_cons, ups_ap_nil, upd_same, upd_other, env0_ap0, env0_aps, xt_a, xt_b, xt_c, nk_ptr, -splice_eq, -stR_cells, stR_box, stR_boxA, stR_row, stR_row0, stR_row1, stR_rowA, stR_rowA0, splice_rowv, splice_rowv0, splice_rowv1, splice_z, splice_n, splice_s, nth_rowv, nth_rowv0, nth_rowv1, rowv_len]
  refine Ret.bind (spec_l2Ok_c (ha0.ext (by (repeat (first | exact Ext.rfl | assumption | (refine Ext.al ?_ _) | (refine Ext.dw ?_) | (refine Ext.set ?_ (by first | omega | (simp only [World.size_alloc, size_setRow, dw_size]; omega)) _) | (refine Ext.tr ?_ (by assumption)))))).rVer) ?_
  rintro ⟨_, w1⟩ ⟨rfl, E1⟩
  try dsimp only at E1
  have zE1 := E1.size
  try simp only [World.size_alloc, size_setRow, dw_size] at zE1
  simp (maxSteps := 1000000) (disch := first | assumption | omega | (simp only [World.size_alloc, size_setRow, dw_size]; done) | (simp only [World.size_alloc, size_setRow, dw_size] <;> omega) | (simp only [List.length_set, Array.length_toList, List.length_cons, List.length_nil, List.length_append, bts_size] <;> omega) | (simp only [List.all_cons, List.all_nil, Value.oneCell', Bool.and_self, Bool.and_true]; done)) [-Option.bind_some, hp_alloc_lt, hp_alloc_eq, hp_set_ne, wrap_small, ups_ap_cons, ups_ap_nil, upd_same, upd_other, env0_ap0, env0_aps, xt_a, xt_b, xt_c, nk_ptr, -splice_eq, -stR_cells, stR_box, stR_boxA, stR_row, stR_row0, stR_row1, stR_rowA, stR_rowA0, splice_rowv, splice_rowv0, splice_rowv1, splice_z, splice_n, splice_s, nth_rowv, nth_rowv0, nth_rowv1, rowv_len, E1.blk]
  exact hQ _ ⟨rfl, by (repeat (first | exact Ext.rfl | assumption | (refine Ext.al ?_ _) | (refine Ext.dw ?_) | (refine Ext.set ?_ (by first | omega | (simp only [World.size_alloc, size_setRow, dw_size]; omega)) _) | (refine Ext.tr ?_ (by assumption))))⟩
end Go.Proofs.YtgdacclgooaodaaGreatDoor.X
