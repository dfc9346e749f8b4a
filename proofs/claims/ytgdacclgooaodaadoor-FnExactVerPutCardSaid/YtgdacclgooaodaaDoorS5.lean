/- A part of the proof: an evaluator of the model, its laws, and contracts of functions; no condition. -/
import Derived.Test.YtgdacclgooaodaaDoorEvJ
import Derived.Test.YtgdacclgooaodaaDoorC10
set_option linter.unusedVariables false
set_option linter.unusedSimpArgs false
set_option maxRecDepth 100000
set_option maxHeartbeats 1000000
namespace Go.Proofs.YtgdacclgooaodaaDoor.X
open Go Go.Ev Go.RowKit
abbrev tTags : Lay (List Tag) := LTags 31
abbrev tVer : Lay Ver := LVer 31
def MTag : Mk Tag := ⟨fun k _ => ⟨k, k + 1⟩, fun k _ => k + 1 + 1, fun _ => 0, fun k _ => by omega⟩
def mText (_ : Int) : ByteArray := ⟨#[]⟩
end Go.Proofs.YtgdacclgooaodaaDoor.X
set_option linter.unusedVariables false
set_option linter.unusedSimpArgs false
set_option maxRecDepth 100000
set_option maxHeartbeats 1000000
namespace Go.Proofs.YtgdacclgooaodaaDoor.X
open Go Go.Ev Go.RowKit
noncomputable def MVer : Mk Ver := ⟨fun k v => ⟨k, ⟨k + 1, k + 1 + 1⟩, MTag.mkL (k + 1 + 1 + 1) v.past, mText (MTag.nxL (k + 1 + 1 + 1) v.past), (MTag.nxL (k + 1 + 1 + 1) v.past + 1).tmod 3 == 0⟩,
  fun k v => MTag.nxL (k + 1 + 1 + 1) v.past + 1 + 1, fun v => MTag.wtL v.past, fun k v => by have := Mk.nxL_le (M := MTag) v.past (k + 1 + 1 + 1); omega⟩
end Go.Proofs.YtgdacclgooaodaaDoor.X
set_option linter.unusedVariables false
set_option linter.unusedSimpArgs false
set_option maxRecDepth 100000
set_option maxHeartbeats 1000000
namespace Go.Proofs.YtgdacclgooaodaaDoor.X
open Go Go.Ev Go.RowKit
theorem wtTag (l : List Tag) : MTag.wtL l = l.length := by
  induction l with
  | nil => rfl
  | cons a l ih => simp only [Mk.wtL, List.length_cons, ih]; show 1 + 0 + l.length = l.length + 1; omega
theorem laws_szVer_m {n : Int} (h0 : -1 ≤ n) (h1 : n ≤ 1048576) {S : Nat → Prop} {cs : List Value} {x : Ver} {w : World} (ha : D tVer S w cs x) :
    Ret (EV P 4 #[.agg cs.toArray, i64 n] w) fun r => ∃ m, r.1 = i64 m ∧ -1 ≤ m ∧ m ≤ 1048576 ∧ (0 ≤ m → m + MVer.wt x ≤ n) ∧ Ext w r.2 := by
  refine Ret.mono (laws_szVer_c n h0 h1 ha.rVer) ?_
  rintro r ⟨m, h2, h3, h4, h5, h6⟩
  exact ⟨m, h2, h3, h4, fun h => by have := h5 h; show m + (MTag.wtL x.past : Nat) ≤ n; rw [wtTag]; exact this, h6⟩
theorem laws_toVer_m {S : Nat → Prop} {cs : List Value} {x : Ver} {w : World} (ha : D tVer S w cs x) :
    Ret (EV P 6 #[.agg cs.toArray] w) fun r => ∃ ds, r.1 = .agg ds.toArray ∧ O tVer (In w.heap.size r.2.heap.size) r.2 ds x ∧ Ext w r.2 := by
  refine Ret.mono (laws_toVer_c ha.rVer) ?_
  rintro ⟨_, w1⟩ ⟨ds, rfl, h1, h2⟩
  exact ⟨ds, rfl, ver_o h1, h2⟩
theorem laws_eqVer_m {S S' : Nat → Prop} {cs ds : List Value} {x : Ver} {w : World} (ha : D tVer S w cs x) (hb : D tVer S' w ds x) : Ret (EV P 8 #[.agg cs.toArray, .agg ds.toArray] w) fun r => r.1 = .bool true ∧ Ext w r.2 :=
  laws_eqVer_c ha.rVer hb.rVer
end Go.Proofs.YtgdacclgooaodaaDoor.X
set_option linter.unusedVariables false
set_option linter.unusedSimpArgs false
set_option maxRecDepth 100000
set_option maxHeartbeats 1000000
namespace Go.Proofs.YtgdacclgooaodaaDoor.X
open Go Go.Ev Go.RowKit
theorem cv_at {x : Int} {b c : Nat} {e : TypeId} {w : World} (h : hp w b = some (.cells #[.int .u8 x] e (0, 0))) : cv P 61 9 (.slice (some ⟨b, 0, none⟩) 1 c) w = some (.string (bts [UInt8.ofNat x.toNat]), w) := by
  rw [← bytesOf_bts]
  exact cv_bytes (e := 5) (ns := [x]) (by kernel_rfl) (by kernel_rfl) (by kernel_rfl) (fun j v hv => by
    rw [h, cellO_some, ← nth_eq, Nat.zero_add]
    exact hv)
theorem spec_l1Dec_m (n : Nat) (hn : n ≤ 4611686018427387904) : ∀ w : World, Ret (EV P 26 #[i64 n] w) fun r => r.1 = .string (bts (decL n)) ∧ Ext w r.2 := by
  induction n using Nat.strongRecOn with
  | _ n ih =>
    intro w
    have hd := decL_len n
    refine Ret.post fun Q hQ => ?_
    by_cases h : n < 10
    · refine Ret.enter plain mixed (spec_l1Dec_fn _ _) (by kernel_rfl) (n := 1) (by kernel_rfl) rfl ?_
      have h8 : IntKind.u8.wrap (48 + (n : Int)) = 48 + n := u8_small (by omega) (by omega)
      have ht : UInt8.ofNat (48 + (n : Int)).toNat = dg n := by unfold dg; congr 1
      simp (maxSteps := 1000000) (disch := first | assumption | omega | (simp only [World.size_alloc, size_setRow, dw_size]; done) | (simp only [World.size_alloc, size_setRow, dw_size] <;> omega) | (simp only [List.length_set, Array.length_toList, List.length_cons, List.length_nil, List.length_append, bts_size] <;> omega) | (simp only [List.all_cons, List.all_nil, Value.oneCell', Bool.and_self, Bool.and_true]; done)) [-Option.bind_some, hp_alloc_lt, hp_alloc_eq, hp_set_ne, wrap_small, ups_ap_cons, ups_ap_nil, upd_same, upd_other, env0_ap0, env0_aps, xt_a, xt_b, xt_c, nk_ptr, -splice_eq, -stR_cells, stR_box, stR_boxA, stR_row, stR_row0, stR_row1, stR_rowA, stR_rowA0, splice_rowv, splice_rowv0, splice_rowv1, splice_z, splice_n, splice_s, nth_rowv, nth_rowv0, nth_rowv1, rowv_len, show ¬ (n : Int) < -9223372036854775807 by omega, show ¬ (n : Int) < 0 by omega, show (n : Int) < 10 by omega, h8]
      have hc := cv_at (x := 48 + (n : Int)) (b := w.heap.size) (c := 1) (e := 5) (w := w.alloc (.cells #[.int .u8 (48 + (n : Int))] 5)) (hp_alloc_eq rfl)
      rw [ht, ← decL_lt h] at hc
      simp (maxSteps := 1000000) (disch := first | assumption | omega | (simp only [World.size_alloc, size_setRow, dw_size]; done) | (simp only [World.size_alloc, size_setRow, dw_size] <;> omega) | (simp only [List.length_set, Array.length_toList, List.length_cons, List.length_nil, List.length_append, bts_size] <;> omega) | (simp only [List.all_cons, List.all_nil, Value.oneCell', Bool.and_self, Bool.and_true]; done)) [-Option.bind_some, hp_alloc_lt, hp_alloc_eq, hp_set_ne, wrap_small, ups_ap_cons, ups_ap_nil, upd_same, upd_other, env0_ap0, env0_aps, xt_a, xt_b, xt_c, nk_ptr, -splice_eq, -stR_cells, stR_box, stR_boxA, stR_row, stR_row0, stR_row1, stR_rowA, stR_rowA0, splice_rowv, splice_rowv0, splice_rowv1, splice_z, splice_n, splice_s, nth_rowv, nth_rowv0, nth_rowv1, rowv_len, hc]
      exact hQ _ ⟨rfl, by (repeat (first | exact Ext.rfl | assumption | (refine Ext.al ?_ _) | (refine Ext.dw ?_) | (refine Ext.set ?_ (by first | omega | (simp only [World.size_alloc, size_setRow, dw_size]; omega)) _) | (refine Ext.tr ?_ (by assumption))))⟩
    · have hq : (n : Int).tdiv 10 = ((n / 10 : Nat) : Int) := tdiv_nat n 10
      have hm : (n : Int).tmod 10 = ((n % 10 : Nat) : Int) := tmod_nat n 10
      have h8 : IntKind.u8.wrap (48 + ((n % 10 : Nat) : Int)) = 48 + ((n % 10 : Nat) : Int) := u8_small (by omega) (by omega)
      have ht : UInt8.ofNat (48 + ((n % 10 : Nat) : Int)).toNat = dg (n % 10) := by unfold dg; congr 1
      have hl := decL_len (n / 10)
      have hdg := decL_ge h
      have hih := ih (n / 10) (by omega) (by omega)
      have hm10 : n % 10 < 10 := Nat.mod_lt _ (by omega)
      have hqn : n / 10 ≤ n := Nat.div_le_self _ _
      generalize n / 10 = q at *
      generalize n % 10 = m at *
      refine Ret.enter plain mixed (spec_l1Dec_fn _ _) (by kernel_rfl) (n := 1) (by kernel_rfl) rfl ?_
      simp (maxSteps := 1000000) (disch := first | assumption | omega | (simp only [World.size_alloc, size_setRow, dw_size]; done) | (simp only [World.size_alloc, size_setRow, dw_size] <;> omega) | (simp only [List.length_set, Array.length_toList, List.length_cons, List.length_nil, List.length_append, bts_size] <;> omega) | (simp only [List.all_cons, List.all_nil, Value.oneCell', Bool.and_self, Bool.and_true]; done)) [-Option.bind_some, hp_alloc_lt, hp_alloc_eq, hp_set_ne, wrap_small, ups_ap_cons, ups_ap_nil, upd_same, upd_other, env0_ap0, env0_aps, xt_a, xt_b, xt_c, nk_ptr, -splice_eq, -stR_cells, stR_box, stR_boxA, stR_row, stR_row0, stR_row1, stR_rowA, stR_rowA0, splice_rowv, splice_rowv0, splice_rowv1, splice_z, splice_n, splice_s, nth_rowv, nth_rowv0, nth_rowv1, rowv_len, show ¬ (n : Int) < -9223372036854775807 by omega, show ¬ (n : Int) < 0 by omega, show ¬ (n : Int) < 10 by omega]
      refine spec_l1Dec_a1_any _ _ ?_
      simp (maxSteps := 1000000) (disch := first | assumption | omega | (simp only [World.size_alloc, size_setRow, dw_size]; done) | (simp only [World.size_alloc, size_setRow, dw_size] <;> omega) | (simp only [List.length_set, Array.length_toList, List.length_cons, List.length_nil, List.length_append, bts_size] <;> omega) | (simp only [List.all_cons, List.all_nil, Value.oneCell', Bool.and_self, Bool.and_true]; done)) [-Option.bind_some, hp_alloc_lt, hp_alloc_eq, hp_set_ne, wrap_small, ups_ap_cons, ups_ap_nil, upd_same, upd_other, env0_ap0, env0_aps, xt_a, xt_b, xt_c, nk_ptr, -splice_eq, -stR_cells, stR_box, stR_boxA, stR_row, stR_row0, stR_row1, stR_rowA, stR_rowA0, splice_rowv, splice_rowv0, splice_rowv1, splice_z, splice_n, splice_s, nth_rowv, nth_rowv0, nth_rowv1, rowv_len, bo_quo, bo_rem, hq, hm, h8]
      constructor
      · refine Ret.mono (hih _) ?_
        rintro ⟨_, w1⟩ ⟨rfl, E1⟩
        try dsimp only at E1
        have zE1 := E1.size
        try simp only [World.size_alloc, size_setRow, dw_size] at zE1
        simp (maxSteps := 1000000) (disch := first | assumption | omega | (simp only [World.size_alloc, size_setRow, dw_size]; done) | (simp only [World.size_alloc, size_setRow, dw_size] <;> omega) | (simp only [List.length_set, Array.length_toList, List.length_cons, List.length_nil, List.length_append, bts_size] <;> omega) | (simp only [List.all_cons, List.all_nil, Value.oneCell', Bool.and_self, Bool.and_true]; done)) [-Option.bind_some, hp_alloc_lt, hp_alloc_eq, hp_set_ne, wrap_small, ups_ap_cons, ups_ap_nil, upd_same, upd_other, env0_ap0, env0_aps, xt_a, xt_b, xt_c, nk_ptr, -splice_eq, -stR_cells, stR_box, stR_boxA, stR_row, stR_row0, stR_row1, stR_rowA, stR_rowA0, splice_rowv, splice_rowv0, splice_rowv1, splice_z, splice_n, splice_s, nth_rowv, nth_rowv0, nth_rowv1, rowv_len, bo_quo, bo_rem, hq, hm, h8, E1.blk]
        have hc := cv_at (x := 48 + (m : Int)) (b := w1.heap.size) (c := 1) (e := 5) (w := w1.alloc (.cells #[.int .u8 (48 + (m : Int))] 5)) (hp_alloc_eq rfl)
        rw [ht] at hc
        simp (maxSteps := 1000000) (disch := first | assumption | omega | (simp only [World.size_alloc, size_setRow, dw_size]; done) | (simp only [World.size_alloc, size_setRow, dw_size] <;> omega) | (simp only [List.length_set, Array.length_toList, List.length_cons, List.length_nil, List.length_append, bts_size] <;> omega) | (simp only [List.all_cons, List.all_nil, Value.oneCell', Bool.and_self, Bool.and_true]; done)) [-Option.bind_some, hp_alloc_lt, hp_alloc_eq, hp_set_ne, wrap_small, ups_ap_cons, ups_ap_nil, upd_same, upd_other, env0_ap0, env0_aps, xt_a, xt_b, xt_c, nk_ptr, -splice_eq, -stR_cells, stR_box, stR_boxA, stR_row, stR_row0, stR_row1, stR_rowA, stR_rowA0, splice_rowv, splice_rowv0, splice_rowv1, splice_z, splice_n, splice_s, nth_rowv, nth_rowv0, nth_rowv1, rowv_len, hc, bo_add_btx, bts_list, bts_size, ← hdg, spec_l1Dec_j1_eq, E1.blk]
        exact hQ _ ⟨rfl, by (repeat (first | exact Ext.rfl | assumption | (refine Ext.al ?_ _) | (refine Ext.dw ?_) | (refine Ext.set ?_ (by first | omega | (simp only [World.size_alloc, size_setRow, dw_size]; omega)) _) | (refine Ext.tr ?_ (by assumption))))⟩
      · have hc0 : ∀ w' : World, hp w' w.heap.size = some (.cells #[.int .u8 (48 + (m : Int))] 5 (0, 0)) → cv P 61 9 (.slice (some ⟨w.heap.size, 0, none⟩) 1 1) w' = some (.string (bts [dg m]), w') := by
          intro w' hx
          have := cv_at (x := 48 + (m : Int)) (c := 1) hx
          rwa [ht] at this
        have hc := hc0 ((dw w).alloc (.cells #[.int .u8 (48 + (m : Int))] 5)) (hp_alloc_eq rfl)
        simp (maxSteps := 1000000) (disch := first | assumption | omega | (simp only [World.size_alloc, size_setRow, dw_size]; done) | (simp only [World.size_alloc, size_setRow, dw_size] <;> omega) | (simp only [List.length_set, Array.length_toList, List.length_cons, List.length_nil, List.length_append, bts_size] <;> omega) | (simp only [List.all_cons, List.all_nil, Value.oneCell', Bool.and_self, Bool.and_true]; done)) [-Option.bind_some, hp_alloc_lt, hp_alloc_eq, hp_set_ne, wrap_small, ups_ap_cons, ups_ap_nil, upd_same, upd_other, env0_ap0, env0_aps, xt_a, xt_b, xt_c, nk_ptr, -splice_eq, -stR_cells, stR_box, stR_boxA, stR_row, stR_row0, stR_row1, stR_rowA, stR_rowA0, splice_rowv, splice_rowv0, splice_rowv1, splice_z, splice_n, splice_s, nth_rowv, nth_rowv0, nth_rowv1, rowv_len, bo_quo, bo_rem, hq, hm, h8, hc]
        refine Ret.mono (hih _) ?_
        rintro ⟨_, w1⟩ ⟨rfl, E1⟩
        try dsimp only at E1
        have zE1 := E1.size
        try simp only [World.size_alloc, size_setRow, dw_size] at zE1
        have hc1 := hc0 w1 (by first | assumption | rfl | (simp (maxSteps := 1000000) (disch := first | assumption | omega | (simp only [World.size_alloc, size_setRow, dw_size]; done) | (simp only [World.size_alloc, size_setRow, dw_size] <;> omega) | (simp only [List.length_set, Array.length_toList, List.length_cons, List.length_nil, List.length_append, bts_size] <;> omega) | (simp only [List.all_cons, List.all_nil, Value.oneCell', Bool.and_self, Bool.and_true]; done)) [-Option.bind_some, hp_alloc_lt, hp_alloc_eq, hp_set_ne, wrap_small, ups_ap_cons, ups_ap_nil, upd_same, upd_other, env0_ap0, env0_aps, xt_a, xt_b, xt_c, nk_ptr, -splice_eq, -stR_cells, stR_box, stR_boxA, stR_row, stR_row0, stR_row1, stR_rowA, stR_rowA0, splice_rowv, splice_rowv0, splice_rowv1, splice_z, splice_n, splice_s, nth_rowv, nth_rowv0, nth_rowv1, rowv_len, E1.blk]; done))
        simp (maxSteps := 1000000) (disch := first | assumption | omega | (simp only [World.size_alloc, size_setRow, dw_size]; done) | (simp only [World.size_alloc, size_setRow, dw_size] <;> omega) | (simp only [List.length_set, Array.length_toList, List.length_cons, List.length_nil, List.length_append, bts_size] <;> omega) | (simp only [List.all_cons, List.all_nil, Value.oneCell', Bool.and_self, Bool.and_true]; done)) [-Option.bind_some, hp_alloc_lt, hp_alloc_eq, hp_set_ne, wrap_small, ups_ap_cons, ups_ap_nil, upd_same, upd_other, env0_ap0, env0_aps, xt_a, xt_b, xt_c, nk_ptr, -splice_eq, -stR_cells, stR_box, stR_boxA, stR_row, stR_row0, stR_row1, stR_rowA, stR_rowA0, splice_rowv, splice_rowv0, splice_rowv1, splice_z, splice_n, splice_s, nth_rowv, nth_rowv0, nth_rowv1, rowv_len, bo_quo, bo_rem, hq, hm, h8, hc1, bo_add_btx, bts_list, bts_size, ← hdg, spec_l1Dec_j1_eq, E1.blk]
        exact hQ _ ⟨rfl, by (repeat (first | exact Ext.rfl | assumption | (refine Ext.al ?_ _) | (refine Ext.dw ?_) | (refine Ext.set ?_ (by first | omega | (simp only [World.size_alloc, size_setRow, dw_size]; omega)) _) | (refine Ext.tr ?_ (by assumption))))⟩
end Go.Proofs.YtgdacclgooaodaaDoor.X
set_option linter.unusedVariables false
set_option linter.unusedSimpArgs false
set_option maxRecDepth 100000
set_option maxHeartbeats 1000000
namespace Go.Proofs.YtgdacclgooaodaaDoor.X
open Go Go.Ev Go.RowKit
theorem tagOk_rng {t : Tag} (h : tagOk t = true) : (0 ≤ t.t ∧ t.t ≤ 999) ∧ (0 ≤ t.p ∧ t.p ≤ 2) := by
  simp only [tagOk, Bool.or_eq_true, Bool.and_eq_true, beq_iff_eq, decide_eq_true_eq] at h
  omega
theorem tagL_len {t : Tag} (h : tagOk t = true) : (tagL t).length ≤ 2000 := by
  have := tagOk_rng h
  have h1 := decL_len t.t.toNat
  have h2 := decL_len t.p.toNat
  simp only [tagL, List.length_append, List.length_cons]
  omega
theorem spec_l1Put_m {t : Tag} (ht : tagOk t = true) (w : World) : Ret (EV P 27 #[t.v] w) fun r => r.1 = .string (bts (tagL t)) ∧ Ext w r.2 := by
  have hr := tagOk_rng ht
  obtain ⟨a, ha⟩ : ∃ a : Nat, t.t = a := ⟨t.t.toNat, by omega⟩
  obtain ⟨b, hb⟩ : ∃ b : Nat, t.p = b := ⟨t.p.toNat, by omega⟩
  have h1 := decL_len a
  have h2 := decL_len b
  have e : tagL t = decL a ++ [46] ++ decL b := by rw [tagL, ha, hb]; simp
  rw [e]
  refine Ret.post fun Q hQ => ?_
  refine Ret.enter plain mixed (spec_l1Put_fn _ _) (by kernel_rfl) (n := 1) (by kernel_rfl) rfl ?_
  simp (maxSteps := 1000000) (disch := first | assumption | omega | (simp only [World.size_alloc, size_setRow, dw_size]; done) | (simp only [World.size_alloc, size_setRow, dw_size] <;> omega) | (simp only [List.length_set, Array.length_toList, List.length_cons, List.length_nil, List.length_append, bts_size] <;> omega) | (simp only [List.all_cons, List.all_nil, Value.oneCell', Bool.and_self, Bool.and_true]; done)) [-Option.bind_some, hp_alloc_lt, hp_alloc_eq, hp_set_ne, wrap_small, ups_ap_cons, ups_ap_nil, upd_same, upd_other, env0_ap0, env0_aps, xt_a, xt_b, xt_c, nk_ptr, -splice_eq, -stR_cells, stR_box, stR_boxA, stR_row, stR_row0, stR_row1, stR_rowA, stR_rowA0, splice_rowv, splice_rowv0, splice_rowv1, splice_z, splice_n, splice_s, nth_rowv, nth_rowv0, nth_rowv1, rowv_len, ha, hb]
  refine Ret.bind (spec_l1Dec_m a (by omega) _) ?_
  rintro ⟨_, w1⟩ ⟨rfl, E1⟩
  try dsimp only at E1
  have zE1 := E1.size
  try simp only [World.size_alloc, size_setRow, dw_size] at zE1
  simp (maxSteps := 1000000) (disch := first | assumption | omega | (simp only [World.size_alloc, size_setRow, dw_size]; done) | (simp only [World.size_alloc, size_setRow, dw_size] <;> omega) | (simp only [List.length_set, Array.length_toList, List.length_cons, List.length_nil, List.length_append, bts_size] <;> omega) | (simp only [List.all_cons, List.all_nil, Value.oneCell', Bool.and_self, Bool.and_true]; done)) [-Option.bind_some, hp_alloc_lt, hp_alloc_eq, hp_set_ne, wrap_small, ups_ap_cons, ups_ap_nil, upd_same, upd_other, env0_ap0, env0_aps, xt_a, xt_b, xt_c, nk_ptr, -splice_eq, -stR_cells, stR_box, stR_boxA, stR_row, stR_row0, stR_row1, stR_rowA, stR_rowA0, splice_rowv, splice_rowv0, splice_rowv1, splice_z, splice_n, splice_s, nth_rowv, nth_rowv0, nth_rowv1, rowv_len, mk_bts, bo_add_btx, bts_list, E1.blk]
  refine Ret.bind (spec_l1Dec_m b (by omega) _) ?_
  rintro ⟨_, w2⟩ ⟨rfl, E2⟩
  try dsimp only at E2
  have zE2 := E2.size
  try simp only [World.size_alloc, size_setRow, dw_size] at zE2
  simp (maxSteps := 1000000) (disch := first | assumption | omega | (simp only [World.size_alloc, size_setRow, dw_size]; done) | (simp only [World.size_alloc, size_setRow, dw_size] <;> omega) | (simp only [List.length_set, Array.length_toList, List.length_cons, List.length_nil, List.length_append, bts_size] <;> omega) | (simp only [List.all_cons, List.all_nil, Value.oneCell', Bool.and_self, Bool.and_true]; done)) [-Option.bind_some, hp_alloc_lt, hp_alloc_eq, hp_set_ne, wrap_small, ups_ap_cons, ups_ap_nil, upd_same, upd_other, env0_ap0, env0_aps, xt_a, xt_b, xt_c, nk_ptr, -splice_eq, -stR_cells, stR_box, stR_boxA, stR_row, stR_row0, stR_row1, stR_rowA, stR_rowA0, splice_rowv, splice_rowv0, splice_rowv1, splice_z, splice_n, splice_s, nth_rowv, nth_rowv0, nth_rowv1, rowv_len, mk_bts, bo_add_btx, bts_list, E1.blk, E2.blk]
  exact hQ _ ⟨by simp, by (repeat (first | exact Ext.rfl | assumption | (refine Ext.al ?_ _) | (refine Ext.dw ?_) | (refine Ext.set ?_ (by first | omega | (simp only [World.size_alloc, size_setRow, dw_size]; omega)) _) | (refine Ext.tr ?_ (by assumption))))⟩
theorem pastL_len : ∀ {l : List Tag}, (∀ t ∈ l, tagOk t = true) → (pastL l).length ≤ 2001 * l.length
  | [], _ => by simp [pastL]
  | t :: l, h => by
    have h1 := pastL_len (l := l) fun t ht => h t (List.mem_cons_of_mem _ ht)
    have h2 := tagL_len (h t List.mem_cons_self)
    simp only [pastL, List.length_cons, List.length_append]
    omega
theorem spec_l2Past_n {a : Option Addr} {c b t1 : Nat} {S : Nat → Prop} {xs : List Tag} {w0 : World} (hok : ∀ t ∈ xs, tagOk t = true) (hl4 : xs.length ≤ 100) :
    ∀ (d k : Nat) (e : Env) (w : World) (acc : List UInt8), k + d = xs.length → e 1 = pt b 0 → e 3 = .string (bts acc) → e 4 = i64 k → acc.length ≤ 3000 * k → hp w b = some (.cells #[.slice a xs.length c] t1 (0, 0)) → D tTags S w0 [.slice a xs.length c] xs → Ext w0 w →
    Ret (spec_l2Past_l1 e w) fun r => r.1 = .string (bts (acc ++ pastL (xs.drop k))) ∧ Ext w0 r.2 := by
  intro d
  induction d with
  | zero =>
    intro k e w acc hd e1 e3 e4 hacc X1 ha E0
    have zE0 := E0.size
    try simp only [World.size_alloc, size_setRow, dw_size] at zE0
    rw [spec_l2Past_l1_eq]
    obtain rfl : k = xs.length := by omega
    refine Ret.post fun Q hQ => ?_
    simp (maxSteps := 1000000) (disch := first | assumption | omega | (simp only [World.size_alloc, size_setRow, dw_size]; done) | (simp only [World.size_alloc, size_setRow, dw_size] <;> omega) | (simp only [List.length_set, Array.length_toList, List.length_cons, List.length_nil, List.length_append, bts_size] <;> omega) | (simp only [List.all_cons, List.all_nil, Value.oneCell', Bool.and_self, Bool.and_true]; done)) [-Option.bind_some, hp_alloc_lt, hp_alloc_eq, hp_set_ne, wrap_small, ups_ap_cons, ups_ap_nil, upd_same, upd_other, env0_ap0, env0_aps, xt_a, xt_b, xt_c, nk_ptr, -splice_eq, -stR_cells, stR_box, stR_boxA, stR_row, stR_row0, stR_row1, stR_rowA, stR_rowA0, splice_rowv, splice_rowv0, splice_rowv1, splice_z, splice_n, splice_s, nth_rowv, nth_rowv0, nth_rowv1, rowv_len, e1, e3, e4, X1, e1, e3, e4, X1, E0.blk]
    rw [List.drop_length] at hQ
    exact hQ _ ⟨by simp [pastL], E0⟩
  | succ d ih =>
    intro k e w acc hd e1 e3 e4 hacc X1 ha E0
    have zE0 := E0.size
    try simp only [World.size_alloc, size_setRow, dw_size] at zE0
    rw [spec_l2Past_l1_eq]
    have hlt : k < xs.length := by omega
    obtain ⟨x, hx, hdx⟩ := drop_at hlt
    have hox := hok x (List.mem_of_getElem? hx)
    have hxl := tagL_len hox
    have hn := ha.n
    have y1 := hp_lt X1
    obtain ⟨b1, o1, cs1, rfl, A1, D1, _, l1⟩ := (ha.ext E0).at (by decide) hx
    obtain rfl := D.tag.1 D1
    have p0 := A1 0 _ rfl
    have p1 := A1 1 _ rfl
    simp only [LVer_n, LTag_n, LNode_n, Nat.add_zero] at p0 p1
    rw [hdx]
    refine Ret.post fun Q hQ => ?_
    simp (maxSteps := 1000000) (disch := first | assumption | omega | (simp only [World.size_alloc, size_setRow, dw_size]; done) | (simp only [World.size_alloc, size_setRow, dw_size] <;> omega) | (simp only [List.length_set, Array.length_toList, List.length_cons, List.length_nil, List.length_append, bts_size] <;> omega) | (simp only [List.all_cons, List.all_nil, Value.oneCell', Bool.and_self, Bool.and_true]; done)) [-Option.bind_some, hp_alloc_lt, hp_alloc_eq, hp_set_ne, wrap_small, ups_ap_cons, ups_ap_nil, upd_same, upd_other, env0_ap0, env0_aps, xt_a, xt_b, xt_c, nk_ptr, -splice_eq, -stR_cells, stR_box, stR_boxA, stR_row, stR_row0, stR_row1, stR_rowA, stR_rowA0, splice_rowv, splice_rowv0, splice_rowv1, splice_z, splice_n, splice_s, nth_rowv, nth_rowv0, nth_rowv1, rowv_len, e1, e3, e4, X1, hlt, ia_32, mk_bts, bo_add_btx, bts_list, e1, e3, e4, X1, E0.blk, hlt, p0, p1]
    refine Ret.bind (spec_l1Put_m hox _) ?_
    rintro ⟨_, w1⟩ ⟨rfl, E1⟩
    try dsimp only at E1
    have zE1 := E1.size
    try simp only [World.size_alloc, size_setRow, dw_size] at zE1
    simp (maxSteps := 1000000) (disch := first | assumption | omega | (simp only [World.size_alloc, size_setRow, dw_size]; done) | (simp only [World.size_alloc, size_setRow, dw_size] <;> omega) | (simp only [List.length_set, Array.length_toList, List.length_cons, List.length_nil, List.length_append, bts_size] <;> omega) | (simp only [List.all_cons, List.all_nil, Value.oneCell', Bool.and_self, Bool.and_true]; done)) [-Option.bind_some, hp_alloc_lt, hp_alloc_eq, hp_set_ne, wrap_small, ups_ap_cons, ups_ap_nil, upd_same, upd_other, env0_ap0, env0_aps, xt_a, xt_b, xt_c, nk_ptr, -splice_eq, -stR_cells, stR_box, stR_boxA, stR_row, stR_row0, stR_row1, stR_rowA, stR_rowA0, splice_rowv, splice_rowv0, splice_rowv1, splice_z, splice_n, splice_s, nth_rowv, nth_rowv0, nth_rowv1, rowv_len, e1, e3, e4, X1, hlt, ia_32, mk_bts, bo_add_btx, bts_list, e1, e3, e4, X1, E0.blk, hlt, p0, p1, E1.blk]
    refine Ret.mono (ih (k + 1) _ _ (acc ++ (32 :: tagL x)) (by omega) (by first | omega | assumption | rfl | exact congrArg i64 (by omega) | (simp; done) | (simp; omega)) (by first | omega | assumption | rfl | exact congrArg i64 (by omega) | (simp; done) | (simp; omega)) (by first | omega | assumption | rfl | exact congrArg i64 (by omega) | (simp; done) | (simp; omega)) (by simp only [List.length_append, List.length_cons]; omega) (by first | assumption | rfl | (simp (maxSteps := 1000000) (disch := first | assumption | omega | (simp only [World.size_alloc, size_setRow, dw_size]; done) | (simp only [World.size_alloc, size_setRow, dw_size] <;> omega) | (simp only [List.length_set, Array.length_toList, List.length_cons, List.length_nil, List.length_append, bts_size] <;> omega) | (simp only [List.all_cons, List.all_nil, Value.oneCell', Bool.and_self, Bool.and_true]; done)) [-Option.bind_some, hp_alloc_lt, hp_alloc_eq, hp_set_ne, wrap_small, ups_ap_cons, ups_ap_nil, upd_same, upd_other, env0_ap0, env0_aps, xt_a, xt_b, xt_c, nk_ptr, -splice_eq, -stR_cells, stR_box, stR_boxA, stR_row, stR_row0, stR_row1, stR_rowA, stR_rowA0, splice_rowv, splice_rowv0, splice_rowv1, splice_z, splice_n, splice_s, nth_rowv, nth_rowv0, nth_rowv1, rowv_len, X1, e1, e3, e4, X1, E0.blk, hlt, p0, p1, E1.blk]; done)) ha (by (repeat (first | exact Ext.rfl | assumption | (refine Ext.al ?_ _) | (refine Ext.dw ?_) | (refine Ext.set ?_ (by first | omega | (simp only [World.size_alloc, size_setRow, dw_size]; omega)) _) | (refine Ext.tr ?_ (by assumption)))))) ?_
    rintro r ⟨h1, h2⟩
    exact hQ _ ⟨by rw [h1]; simp [pastL], h2⟩
theorem spec_l2Past_m {a : Option Addr} {n c : Nat} {S : Nat → Prop} {xs : List Tag} {w : World} (hok : ∀ t ∈ xs, tagOk t = true) (hl4 : xs.length ≤ 100) (ha : D tTags S w [.slice a n c] xs) :
    Ret (EV P 28 #[.agg #[.slice a n c]] w) fun r => r.1 = .string (bts (pastL xs)) ∧ Ext w r.2 := by
  obtain ⟨rfl, _⟩ := ha.n
  refine Ret.post fun Q hQ => ?_
  refine Ret.enter plain mixed (spec_l2Past_fn _ _) (by kernel_rfl) (n := 1) (by kernel_rfl) rfl ?_
  simp (maxSteps := 1000000) (disch := first | assumption | omega | (simp only [World.size_alloc, size_setRow, dw_size]; done) | (simp only [World.size_alloc, size_setRow, dw_size] <;> omega) | (simp only [List.length_set, Array.length_toList, List.length_cons, List.length_nil, List.length_append, bts_size] <;> omega) | (simp only [List.all_cons, List.all_nil, Value.oneCell', Bool.and_self, Bool.and_true]; done)) [-Option.bind_some, hp_alloc_lt, hp_alloc_eq, hp_set_ne, wrap_small, ups_ap_cons, ups_ap_nil, upd_same, upd_other, env0_ap0, env0_aps, xt_a, xt_b, xt_c, nk_ptr, -splice_eq, -stR_cells, stR_box, stR_boxA, stR_row, stR_row0, stR_row1, stR_rowA, stR_rowA0, splice_rowv, splice_rowv0, splice_rowv1, splice_z, splice_n, splice_s, nth_rowv, nth_rowv0, nth_rowv1, rowv_len]
  refine Ret.mono (spec_l2Past_n (t1 := 34) hok hl4 xs.length 0 _ _ [] (by omega) rfl rfl rfl (by simp) (by first | assumption | rfl | (simp (maxSteps := 1000000) (disch := first | assumption | omega | (simp only [World.size_alloc, size_setRow, dw_size]; done) | (simp only [World.size_alloc, size_setRow, dw_size] <;> omega) | (simp only [List.length_set, Array.length_toList, List.length_cons, List.length_nil, List.length_append, bts_size] <;> omega) | (simp only [List.all_cons, List.all_nil, Value.oneCell', Bool.and_self, Bool.and_true]; done)) [-Option.bind_some, hp_alloc_lt, hp_alloc_eq, hp_set_ne, wrap_small, ups_ap_cons, ups_ap_nil, upd_same, upd_other, env0_ap0, env0_aps, xt_a, xt_b, xt_c, nk_ptr, -splice_eq, -stR_cells, stR_box, stR_boxA, stR_row, stR_row0, stR_row1, stR_rowA, stR_rowA0, splice_rowv, splice_rowv0, splice_rowv1, splice_z, splice_n, splice_s, nth_rowv, nth_rowv0, nth_rowv1, rowv_len]; done)) ha (by (repeat (first | exact Ext.rfl | assumption | (refine Ext.al ?_ _) | (refine Ext.dw ?_) | (refine Ext.set ?_ (by first | omega | (simp only [World.size_alloc, size_setRow, dw_size]; omega)) _) | (refine Ext.tr ?_ (by assumption)))))) ?_
  rintro r ⟨h1, h2⟩
  exact hQ _ ⟨by rw [h1]; simp, h2⟩
theorem spec_l2Put_m {S : Nat → Prop} {cs : List Value} {v : Ver} {w : World} (hv : verOk v = true) (ha : D tVer S w cs v) : Ret (EV P 11 #[.agg cs.toArray] w) fun r => r.1 = .string (bts (verL v)) ∧ Ext w r.2 := by
  obtain ⟨a1, a2, a3, a4, a5, a6, a7⟩ := ver_parts hv
  obtain ⟨a, c, rfl, hpp, ht⟩ := D.ver.1 ha
  obtain ⟨k, hk⟩ : ∃ k : Nat, v.key = k := ⟨v.key.toNat, by omega⟩
  have h1 := decL_len k
  have h2 := tagL_len a7
  have h3 := pastL_len a5
  rw [a6] at h3
  have hbl : v.text.toList.length = v.text.size := byte_list _
  have e : verL v = decL k ++ [32] ++ tagL v.tag ++ pastL v.past ++ [32] ++ restL v := by rw [verL, hk]; simp
  rw [e]
  refine Ret.post fun Q hQ => ?_
  refine Ret.enter plain mixed (spec_l2Put_fn _ _) (by kernel_rfl) (n := 1) (by kernel_rfl) rfl ?_
  have tail : ∀ (e : Env) (w1 : World) (rest : List UInt8), rest = restL v → rest.length ≤ 140737488351299 → Ext w w1 → e 1 = pt w.heap.size 0 → e 3 = .string (bts rest) → hp w1 w.heap.size = some (.cells #[i64 v.key, i64 v.tag.t, i64 v.tag.p, .slice a v.past.length c, .string v.text, .bool v.gone] 36 (0, 0)) → Ret (spec_l2Put_j1 e w1) Q := by
    intro e w1 rest hr hrl E1 e1 e3 X1
    have zE1 := E1.size
    try simp only [World.size_alloc, size_setRow, dw_size] at zE1
    have y1 := hp_lt X1
    rw [spec_l2Put_j1_eq]
    simp (maxSteps := 1000000) (disch := first | assumption | omega | (simp only [World.size_alloc, size_setRow, dw_size]; done) | (simp only [World.size_alloc, size_setRow, dw_size] <;> omega) | (simp only [List.length_set, Array.length_toList, List.length_cons, List.length_nil, List.length_append, bts_size] <;> omega) | (simp only [List.all_cons, List.all_nil, Value.oneCell', Bool.and_self, Bool.and_true]; done)) [-Option.bind_some, hp_alloc_lt, hp_alloc_eq, hp_set_ne, wrap_small, ups_ap_cons, ups_ap_nil, upd_same, upd_other, env0_ap0, env0_aps, xt_a, xt_b, xt_c, nk_ptr, -splice_eq, -stR_cells, stR_box, stR_boxA, stR_row, stR_row0, stR_row1, stR_rowA, stR_rowA0, splice_rowv, splice_rowv0, splice_rowv1, splice_z, splice_n, splice_s, nth_rowv, nth_rowv0, nth_rowv1, rowv_len, e1, e3, X1, hk, E1.blk, e1, e3, X1]
    refine Ret.bind (spec_l1Dec_m k (by omega) _) ?_
    rintro ⟨_, w2⟩ ⟨rfl, E2⟩
    try dsimp only at E2
    have zE2 := E2.size
    try simp only [World.size_alloc, size_setRow, dw_size] at zE2
    simp (maxSteps := 1000000) (disch := first | assumption | omega | (simp only [World.size_alloc, size_setRow, dw_size]; done) | (simp only [World.size_alloc, size_setRow, dw_size] <;> omega) | (simp only [List.length_set, Array.length_toList, List.length_cons, List.length_nil, List.length_append, bts_size] <;> omega) | (simp only [List.all_cons, List.all_nil, Value.oneCell', Bool.and_self, Bool.and_true]; done)) [-Option.bind_some, hp_alloc_lt, hp_alloc_eq, hp_set_ne, wrap_small, ups_ap_cons, ups_ap_nil, upd_same, upd_other, env0_ap0, env0_aps, xt_a, xt_b, xt_c, nk_ptr, -splice_eq, -stR_cells, stR_box, stR_boxA, stR_row, stR_row0, stR_row1, stR_rowA, stR_rowA0, splice_rowv, splice_rowv0, splice_rowv1, splice_z, splice_n, splice_s, nth_rowv, nth_rowv0, nth_rowv1, rowv_len, e1, e3, X1, mk_bts, bo_add_btx, bts_list, E1.blk, e1, e3, X1, E2.blk]
    refine Ret.bind (spec_l1Put_m a7 _) ?_
    rintro ⟨_, w3⟩ ⟨rfl, E3⟩
    try dsimp only at E3
    have zE3 := E3.size
    try simp only [World.size_alloc, size_setRow, dw_size] at zE3
    simp (maxSteps := 1000000) (disch := first | assumption | omega | (simp only [World.size_alloc, size_setRow, dw_size]; done) | (simp only [World.size_alloc, size_setRow, dw_size] <;> omega) | (simp only [List.length_set, Array.length_toList, List.length_cons, List.length_nil, List.length_append, bts_size] <;> omega) | (simp only [List.all_cons, List.all_nil, Value.oneCell', Bool.and_self, Bool.and_true]; done)) [-Option.bind_some, hp_alloc_lt, hp_alloc_eq, hp_set_ne, wrap_small, ups_ap_cons, ups_ap_nil, upd_same, upd_other, env0_ap0, env0_aps, xt_a, xt_b, xt_c, nk_ptr, -splice_eq, -stR_cells, stR_box, stR_boxA, stR_row, stR_row0, stR_row1, stR_rowA, stR_rowA0, splice_rowv, splice_rowv0, splice_rowv1, splice_z, splice_n, splice_s, nth_rowv, nth_rowv0, nth_rowv1, rowv_len, e1, e3, X1, mk_bts, bo_add_btx, bts_list, E1.blk, e1, e3, X1, E2.blk, E3.blk]
    refine Ret.bind (spec_l2Past_m a5 (by omega) (hpp.ext (by (repeat (first | exact Ext.rfl | assumption | (refine Ext.al ?_ _) | (refine Ext.dw ?_) | (refine Ext.set ?_ (by first | omega | (simp only [World.size_alloc, size_setRow, dw_size]; omega)) _) | (refine Ext.tr ?_ (by assumption))))))) ?_
    rintro ⟨_, w4⟩ ⟨rfl, E4⟩
    try dsimp only at E4
    have zE4 := E4.size
    try simp only [World.size_alloc, size_setRow, dw_size] at zE4
    simp (maxSteps := 1000000) (disch := first | assumption | omega | (simp only [World.size_alloc, size_setRow, dw_size]; done) | (simp only [World.size_alloc, size_setRow, dw_size] <;> omega) | (simp only [List.length_set, Array.length_toList, List.length_cons, List.length_nil, List.length_append, bts_size] <;> omega) | (simp only [List.all_cons, List.all_nil, Value.oneCell', Bool.and_self, Bool.and_true]; done)) [-Option.bind_some, hp_alloc_lt, hp_alloc_eq, hp_set_ne, wrap_small, ups_ap_cons, ups_ap_nil, upd_same, upd_other, env0_ap0, env0_aps, xt_a, xt_b, xt_c, nk_ptr, -splice_eq, -stR_cells, stR_box, stR_boxA, stR_row, stR_row0, stR_row1, stR_rowA, stR_rowA0, splice_rowv, splice_rowv0, splice_rowv1, splice_z, splice_n, splice_s, nth_rowv, nth_rowv0, nth_rowv1, rowv_len, e1, e3, X1, mk_bts, bo_add_btx, bts_list, E1.blk, e1, e3, X1, E2.blk, E3.blk, E4.blk]
    exact hQ _ ⟨by rw [← hr]; simp, by (repeat (first | exact Ext.rfl | assumption | (refine Ext.al ?_ _) | (refine Ext.dw ?_) | (refine Ext.set ?_ (by first | omega | (simp only [World.size_alloc, size_setRow, dw_size]; omega)) _) | (refine Ext.tr ?_ (by assumption))))⟩
  have hs : (bts ([61] ++ v.text.toList)).size ≤ 140737488351299 := by rw [bts_size, List.length_append, hbl]; simp; omega
  cases hg : v.gone
  · simp (maxSteps := 1000000) (disch := first | assumption | omega | (simp only [World.size_alloc, size_setRow, dw_size]; done) | (simp only [World.size_alloc, size_setRow, dw_size] <;> omega) | (simp only [List.length_set, Array.length_toList, List.length_cons, List.length_nil, List.length_append, bts_size] <;> omega) | (simp only [List.all_cons, List.all_nil, Value.oneCell', Bool.and_self, Bool.and_true]; done)) [-Option.bind_some, hp_alloc_lt, hp_alloc_eq, hp_set_ne, wrap_small, ups_ap_cons, ups_ap_nil, upd_same, upd_other, env0_ap0, env0_aps, xt_a, xt_b, xt_c, nk_ptr, -splice_eq, -stR_cells, stR_box, stR_boxA, stR_row, stR_row0, stR_row1, stR_rowA, stR_rowA0, splice_rowv, splice_rowv0, splice_rowv1, splice_z, splice_n, splice_s, nth_rowv, nth_rowv0, nth_rowv1, rowv_len, hg, mk_bts, bo_add_btx]
    exact tail _ _ ([61] ++ v.text.toList) (by simp [restL, hg]) (by rw [List.length_append, hbl]; simp; omega) (by (repeat (first | exact Ext.rfl | assumption | (refine Ext.al ?_ _) | (refine Ext.dw ?_) | (refine Ext.set ?_ (by first | omega | (simp only [World.size_alloc, size_setRow, dw_size]; omega)) _) | (refine Ext.tr ?_ (by assumption))))) rfl rfl (by first | assumption | rfl | (simp (maxSteps := 1000000) (disch := first | assumption | omega | (simp only [World.size_alloc, size_setRow, dw_size]; done) | (simp only [World.size_alloc, size_setRow, dw_size] <;> omega) | (simp only [List.length_set, Array.length_toList, List.length_cons, List.length_nil, List.length_append, bts_size] <;> omega) | (simp only [List.all_cons, List.all_nil, Value.oneCell', Bool.and_self, Bool.and_true]; done)) [-Option.bind_some, hp_alloc_lt, hp_alloc_eq, hp_set_ne, wrap_small, ups_ap_cons, ups_ap_nil, upd_same, upd_other, env0_ap0, env0_aps, xt_a, xt_b, xt_c, nk_ptr, -splice_eq, -stR_cells, stR_box, stR_boxA, stR_row, stR_row0, stR_row1, stR_rowA, stR_rowA0, splice_rowv, splice_rowv0, splice_rowv1, splice_z, splice_n, splice_s, nth_rowv, nth_rowv0, nth_rowv1, rowv_len, hg]; done))
  · simp (maxSteps := 1000000) (disch := first | assumption | omega | (simp only [World.size_alloc, size_setRow, dw_size]; done) | (simp only [World.size_alloc, size_setRow, dw_size] <;> omega) | (simp only [List.length_set, Array.length_toList, List.length_cons, List.length_nil, List.length_append, bts_size] <;> omega) | (simp only [List.all_cons, List.all_nil, Value.oneCell', Bool.and_self, Bool.and_true]; done)) [-Option.bind_some, hp_alloc_lt, hp_alloc_eq, hp_set_ne, wrap_small, ups_ap_cons, ups_ap_nil, upd_same, upd_other, env0_ap0, env0_aps, xt_a, xt_b, xt_c, nk_ptr, -splice_eq, -stR_cells, stR_box, stR_boxA, stR_row, stR_row0, stR_row1, stR_rowA, stR_rowA0, splice_rowv, splice_rowv0, splice_rowv1, splice_z, splice_n, splice_s, nth_rowv, nth_rowv0, nth_rowv1, rowv_len, hg, mk_bts, bo_add_btx]
    exact tail _ _ [45] (by simp [restL, hg]) (by simp) (by (repeat (first | exact Ext.rfl | assumption | (refine Ext.al ?_ _) | (refine Ext.dw ?_) | (refine Ext.set ?_ (by first | omega | (simp only [World.size_alloc, size_setRow, dw_size]; omega)) _) | (refine Ext.tr ?_ (by assumption))))) rfl rfl (by first | assumption | rfl | (simp (maxSteps := 1000000) (disch := first | assumption | omega | (simp only [World.size_alloc, size_setRow, dw_size]; done) | (simp only [World.size_alloc, size_setRow, dw_size] <;> omega) | (simp only [List.length_set, Array.length_toList, List.length_cons, List.length_nil, List.length_append, bts_size] <;> omega) | (simp only [List.all_cons, List.all_nil, Value.oneCell', Bool.and_self, Bool.and_true]; done)) [-Option.bind_some, hp_alloc_lt, hp_alloc_eq, hp_set_ne, wrap_small, ups_ap_cons, ups_ap_nil, upd_same, upd_other, env0_ap0, env0_aps, xt_a, xt_b, xt_c, nk_ptr, -splice_eq, -stR_cells, stR_box, stR_boxA, stR_row, stR_row0, stR_row1, stR_rowA, stR_rowA0, splice_rowv, splice_rowv0, splice_rowv1, splice_z, splice_n, splice_s, nth_rowv, nth_rowv0, nth_rowv1, rowv_len, hg]; done))
end Go.Proofs.YtgdacclgooaodaaDoor.X
