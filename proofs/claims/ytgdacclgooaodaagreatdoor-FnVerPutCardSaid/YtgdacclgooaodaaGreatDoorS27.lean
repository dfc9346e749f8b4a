/- A part of the proof: an evaluator of the model, its laws, and contracts of functions; no condition. -/
import Derived.Test.YtgdacclgooaodaaGreatDoorEvQ
import Derived.Test.YtgdacclgooaodaaGreatDoorS16
set_option linter.unusedVariables false
set_option linter.unusedSimpArgs false
set_option maxRecDepth 100000
set_option maxHeartbeats 1000000
namespace Go.Proofs.YtgdacclgooaodaaGreatDoor.X
open Go Go.Ev Go.RowKit
theorem spec_l20Tag_m {B g p : Nat} (hp0 : p ≤ 950000000000) {w : World} (hr : R w B g p) :
    Ret (EV P 78 #[pt g 0] w) fun r => ∃ (t : Tag) (p' : Nat), r.1 = t.v ∧ 0 ≤ t.t ∧ t.t ≤ 9 ∧ p' ≤ p + 3 ∧ R r.2 B g p' ∧ Mod (fun b => b = g) w r.2 := by
  have hl := hr.lt
  refine Ret.post fun Q hQ => ?_
  refine Ret.enter plain mixed (spec_l20Tag_fn _ _) (by kernel_rfl) (n := 1) (by kernel_rfl) rfl ?_
  simp (maxSteps := 1000000) (disch := first | assumption | omega | (simp only [World.size_alloc, size_setRow, dw_size]; done) | (simp only [World.size_alloc, size_setRow, dw_size] <;> omega) | (simp only [List.length_set, Array.length_toList, List.length_cons, List.length_nil, List.length_append, bts_size] <;> omega) | (simp only [List.all_cons, List.all_nil, Value.oneCell', Bool.and_self, Bool.and_true]; done)) [-Option.bind_some, hp_alloc_lt, hp_alloc_eq, hp_set_ne, wrap_small, ups_ap_cons, ups_ap_nil, upd_same, upd_other, env0_ap0, env0_aps, xt_a, xt_b, xt_c, -splice_eq, -stR_cells, stR_box, stR_boxA, stR_row, stR_row0, stR_row1, stR_rowA, stR_rowA0, splice_rowv, splice_rowv0, splice_rowv1, splice_z, splice_n, splice_s, nth_rowv, nth_rowv0, nth_rowv1, rowv_len]
  refine Ret.bind (spec_l20Rd_pick_m (k := 3) (by omega) (by omega) (by omega) (hr.ext (by (repeat (first | exact Ext.rfl | assumption | (refine Ext.al ?_ _) | (refine Ext.dw ?_) | (refine Ext.set ?_ (by first | omega | (simp only [World.size_alloc, size_setRow, dw_size]; omega)) _) | (refine Ext.tr ?_ (by assumption))))))) ?_
  rintro ⟨_, w1⟩ ⟨m, rfl, hm, R1, M1⟩
  have zM1 := M1.size
  try simp only [World.size_alloc, size_setRow, dw_size] at zM1
  try dsimp only at R1 M1
  have zM1 := M1.size
  simp only [World.size_alloc, dw_size] at zM1
  have X1 : hp w1 w.heap.size = some (.cells #[i64 0, i64 0] 23 (0, 0)) := (M1.blk w.heap.size (by (try simp only [In, World.size_alloc, size_setRow, dw_size] at *); omega) (by omega)).trans (by first | assumption | rfl | (simp (maxSteps := 1000000) (disch := first | assumption | omega | (simp only [World.size_alloc, size_setRow, dw_size]; done) | (simp only [World.size_alloc, size_setRow, dw_size] <;> omega) | (simp only [List.length_set, Array.length_toList, List.length_cons, List.length_nil, List.length_append, bts_size] <;> omega) | (simp only [List.all_cons, List.all_nil, Value.oneCell', Bool.and_self, Bool.and_true]; done)) [-Option.bind_some, hp_alloc_lt, hp_alloc_eq, hp_set_ne, wrap_small, ups_ap_cons, ups_ap_nil, upd_same, upd_other, env0_ap0, env0_aps, xt_a, xt_b, xt_c, -splice_eq, -stR_cells, stR_box, stR_boxA, stR_row, stR_row0, stR_row1, stR_rowA, stR_rowA0, splice_rowv, splice_rowv0, splice_rowv1, splice_z, splice_n, splice_s, nth_rowv, nth_rowv0, nth_rowv1, rowv_len, M1.blk]; done))
  have N1 : Mod (fun b => b = g) w w1 := (Mod.of (by (repeat (first | exact Ext.rfl | assumption | (refine Ext.al ?_ _) | (refine Ext.dw ?_) | (refine Ext.set ?_ (by first | omega | (simp only [World.size_alloc, size_setRow, dw_size]; omega)) _) | (refine Ext.tr ?_ (by assumption))))) _).tr M1
  cases hz : ((m : Int) == 0)
  · simp (maxSteps := 1000000) (disch := first | assumption | omega | (simp only [World.size_alloc, size_setRow, dw_size]; done) | (simp only [World.size_alloc, size_setRow, dw_size] <;> omega) | (simp only [List.length_set, Array.length_toList, List.length_cons, List.length_nil, List.length_append, bts_size] <;> omega) | (simp only [List.all_cons, List.all_nil, Value.oneCell', Bool.and_self, Bool.and_true]; done)) [-Option.bind_some, hp_alloc_lt, hp_alloc_eq, hp_set_ne, wrap_small, ups_ap_cons, ups_ap_nil, upd_same, upd_other, env0_ap0, env0_aps, xt_a, xt_b, xt_c, -splice_eq, -stR_cells, stR_box, stR_boxA, stR_row, stR_row0, stR_row1, stR_rowA, stR_rowA0, splice_rowv, splice_rowv0, splice_rowv1, splice_z, splice_n, splice_s, nth_rowv, nth_rowv0, nth_rowv1, rowv_len, hz, M1.blk, X1]
    refine Ret.bind (spec_l20Rd_pick_m (k := 9) (by omega) (by omega) (by omega) (R1.ext (by (repeat (first | exact Ext.rfl | assumption | (refine Ext.al ?_ _) | (refine Ext.dw ?_) | (refine Ext.set ?_ (by first | omega | (simp only [World.size_alloc, size_setRow, dw_size]; omega)) _) | (refine Ext.tr ?_ (by assumption))))))) ?_
    rintro ⟨_, w2⟩ ⟨m2, rfl, hm2, R2, M2⟩
    have zM2 := M2.size
    try simp only [World.size_alloc, size_setRow, dw_size] at zM2
    try dsimp only at R2 M2
    have zM2 := M2.size
    simp (maxSteps := 1000000) (disch := first | assumption | omega | (simp only [World.size_alloc, size_setRow, dw_size]; done) | (simp only [World.size_alloc, size_setRow, dw_size] <;> omega) | (simp only [List.length_set, Array.length_toList, List.length_cons, List.length_nil, List.length_append, bts_size] <;> omega) | (simp only [List.all_cons, List.all_nil, Value.oneCell', Bool.and_self, Bool.and_true]; done)) [-Option.bind_some, hp_alloc_lt, hp_alloc_eq, hp_set_ne, wrap_small, ups_ap_cons, ups_ap_nil, upd_same, upd_other, env0_ap0, env0_aps, xt_a, xt_b, xt_c, -splice_eq, -stR_cells, stR_box, stR_boxA, stR_row, stR_row0, stR_row1, stR_rowA, stR_rowA0, splice_rowv, splice_rowv0, splice_rowv1, splice_z, splice_n, splice_s, nth_rowv, nth_rowv0, nth_rowv1, rowv_len, M1.blk, X1, M2.blk]
    refine Ret.bind (spec_l20Rd_pick_m (k := 3) (by omega) (by omega) (by omega) (R2.ext (by (repeat (first | exact Ext.rfl | assumption | (refine Ext.al ?_ _) | (refine Ext.dw ?_) | (refine Ext.set ?_ (by first | omega | (simp only [World.size_alloc, size_setRow, dw_size]; omega)) _) | (refine Ext.tr ?_ (by assumption))))))) ?_
    rintro ⟨_, w3⟩ ⟨m3, rfl, hm3, R3, M3⟩
    have zM3 := M3.size
    try simp only [World.size_alloc, size_setRow, dw_size] at zM3
    try dsimp only at R3 M3
    have zM3 := M3.size
    have X3 : hp w3 w.heap.size = some (.cells #[i64 0, i64 0] 23 (0, 0)) := (M3.blk w.heap.size (by (try simp only [In, World.size_alloc, size_setRow, dw_size] at *); omega) (by omega)).trans ((M2.blk w.heap.size (by (try simp only [In, World.size_alloc, size_setRow, dw_size] at *); omega) (by omega)).trans X1)
    have hw : IntKind.i64.wrap (1 + (m2 : Int)) = 1 + (m2 : Int) := w64 (by omega) (by omega)
    simp (maxSteps := 1000000) (disch := first | assumption | omega | (simp only [World.size_alloc, size_setRow, dw_size]; done) | (simp only [World.size_alloc, size_setRow, dw_size] <;> omega) | (simp only [List.length_set, Array.length_toList, List.length_cons, List.length_nil, List.length_append, bts_size] <;> omega) | (simp only [List.all_cons, List.all_nil, Value.oneCell', Bool.and_self, Bool.and_true]; done)) [-Option.bind_some, hp_alloc_lt, hp_alloc_eq, hp_set_ne, wrap_small, ups_ap_cons, ups_ap_nil, upd_same, upd_other, env0_ap0, env0_aps, xt_a, xt_b, xt_c, -splice_eq, -stR_cells, stR_box, stR_boxA, stR_row, stR_row0, stR_row1, stR_rowA, stR_rowA0, splice_rowv, splice_rowv0, splice_rowv1, splice_z, splice_n, splice_s, nth_rowv, nth_rowv0, nth_rowv1, rowv_len, X3, hw, M1.blk, X1, M2.blk, M3.blk, X3]
    have N3 := (N1.tr M2).tr M3
    refine hQ _ ⟨⟨1 + m2, m3⟩, p + 1 + 1 + 1, rfl, ?_, ?_, by omega, R3.keep (fun b h hb => hp_set_ne (by omega)), N3.set' (.inl (by omega)) _⟩
    · show (0 : Int) ≤ 1 + m2
      omega
    · show (1 : Int) + m2 ≤ 9
      omega
  · simp (maxSteps := 1000000) (disch := first | assumption | omega | (simp only [World.size_alloc, size_setRow, dw_size]; done) | (simp only [World.size_alloc, size_setRow, dw_size] <;> omega) | (simp only [List.length_set, Array.length_toList, List.length_cons, List.length_nil, List.length_append, bts_size] <;> omega) | (simp only [List.all_cons, List.all_nil, Value.oneCell', Bool.and_self, Bool.and_true]; done)) [-Option.bind_some, hp_alloc_lt, hp_alloc_eq, hp_set_ne, wrap_small, ups_ap_cons, ups_ap_nil, upd_same, upd_other, env0_ap0, env0_aps, xt_a, xt_b, xt_c, -splice_eq, -stR_cells, stR_box, stR_boxA, stR_row, stR_row0, stR_row1, stR_rowA, stR_rowA0, splice_rowv, splice_rowv0, splice_rowv1, splice_z, splice_n, splice_s, nth_rowv, nth_rowv0, nth_rowv1, rowv_len, hz, X1, M1.blk, X1]
    exact hQ _ ⟨⟨0, 0⟩, p + 1, rfl, by decide, by decide, by omega, R1.keep (fun b h hb => hp_set_ne (by omega)), N1.set' (.inl (by omega)) _⟩
theorem spec_l20Rd_of_m {B g p b k c : Nat} {strs : List ByteArray} (hk : 1 ≤ k) (hk2 : k ≤ 1000000) (hp0 : p ≤ 1000000000000) {w : World} (hl : strs.length = k) (hA : At w b 0 (strs.map Value.string)) (hbg : b ≠ g) (hr : R w B g p) :
    Ret (EV P 65 #[pt g 0, .slice (some ⟨b, 0, none⟩) k c] w) fun r => ∃ n ∈ strs, r.1 = .string n ∧ R r.2 B g (p + 1) ∧ Mod (fun b => b = g) w r.2 := by
  refine Ret.post fun Q hQ => ?_
  refine Ret.enter plain mixed (spec_l20Rd_of_fn _ _ _) (by kernel_rfl) (n := 2) (by kernel_rfl) rfl ?_
  simp (maxSteps := 1000000) (disch := first | assumption | omega | (simp only [World.size_alloc, size_setRow, dw_size]; done) | (simp only [World.size_alloc, size_setRow, dw_size] <;> omega) | (simp only [List.length_set, Array.length_toList, List.length_cons, List.length_nil, List.length_append, bts_size] <;> omega) | (simp only [List.all_cons, List.all_nil, Value.oneCell', Bool.and_self, Bool.and_true]; done)) [-Option.bind_some, hp_alloc_lt, hp_alloc_eq, hp_set_ne, wrap_small, ups_ap_cons, ups_ap_nil, upd_same, upd_other, env0_ap0, env0_aps, xt_a, xt_b, xt_c, -splice_eq, -stR_cells, stR_box, stR_boxA, stR_row, stR_row0, stR_row1, stR_rowA, stR_rowA0, splice_rowv, splice_rowv0, splice_rowv1, splice_z, splice_n, splice_s, nth_rowv, nth_rowv0, nth_rowv1, rowv_len]
  refine Ret.bind (spec_l20Rd_pick_m hk hk2 hp0 hr) ?_
  rintro ⟨_, w1⟩ ⟨m, rfl, hm, R1, M1⟩
  have zM1 := M1.size
  try simp only [World.size_alloc, size_setRow, dw_size] at zM1
  try dsimp only at R1 M1
  obtain ⟨n, hn, _⟩ := drop_at (l := strs) (k := m) (by omega)
  have hA1 := hA m (.string n) (by rw [List.getElem?_map, hn]; rfl)
  have hbl : b < w.heap.size := by
    rcases Nat.lt_or_ge b w.heap.size with h | h
    · exact h
    · rw [hp, Array.getElem?_eq_none h] at hA1; simp [cellO] at hA1
  rw [Nat.zero_add] at hA1
  simp (maxSteps := 1000000) (disch := first | assumption | omega | (simp only [World.size_alloc, size_setRow, dw_size]; done) | (simp only [World.size_alloc, size_setRow, dw_size] <;> omega) | (simp only [List.length_set, Array.length_toList, List.length_cons, List.length_nil, List.length_append, bts_size] <;> omega) | (simp only [List.all_cons, List.all_nil, Value.oneCell', Bool.and_self, Bool.and_true]; done)) [-Option.bind_some, hp_alloc_lt, hp_alloc_eq, hp_set_ne, wrap_small, ups_ap_cons, ups_ap_nil, upd_same, upd_other, env0_ap0, env0_aps, xt_a, xt_b, xt_c, -splice_eq, -stR_cells, stR_box, stR_boxA, stR_row, stR_row0, stR_row1, stR_rowA, stR_rowA0, splice_rowv, splice_rowv0, splice_rowv1, splice_z, splice_n, splice_s, nth_rowv, nth_rowv0, nth_rowv1, rowv_len, ia_41, show (m : Int) < k by omega, hA1, M1.blk]
  exact hQ _ ⟨n, List.mem_of_getElem? hn, rfl, R1, M1⟩
def textsL : List ByteArray := [⟨#[]⟩, ⟨#[97]⟩, ⟨#[98]⟩, ⟨#[120, 35, 49]⟩, ⟨#[61]⟩, ⟨#[45]⟩, ⟨#[108, 111, 110, 103, 116, 101, 120, 116]⟩, ⟨#[122, 122]⟩]
theorem spec_l20Text_m {B g p : Nat} (hp0 : p ≤ 900000000000) {w : World} (hr : R w B g p) :
    Ret (EV P 77 #[pt g 0] w) fun r => ∃ n ∈ textsL, r.1 = .string n ∧ R r.2 B g (p + 1) ∧ Mod (fun b => b = g) w r.2 := by
  have hl := hr.lt
  refine Ret.post fun Q hQ => ?_
  refine Ret.enter plain mixed (spec_l20Text_fn _ _) (by kernel_rfl) (n := 1) (by kernel_rfl) rfl ?_
  simp (maxSteps := 1000000) (disch := first | assumption | omega | (simp only [World.size_alloc, size_setRow, dw_size]; done) | (simp only [World.size_alloc, size_setRow, dw_size] <;> omega) | (simp only [List.length_set, Array.length_toList, List.length_cons, List.length_nil, List.length_append, bts_size] <;> omega) | (simp only [List.all_cons, List.all_nil, Value.oneCell', Bool.and_self, Bool.and_true]; done)) [-Option.bind_some, hp_alloc_lt, hp_alloc_eq, hp_set_ne, wrap_small, ups_ap_cons, ups_ap_nil, upd_same, upd_other, env0_ap0, env0_aps, xt_a, xt_b, xt_c, -splice_eq, -stR_cells, stR_box, stR_boxA, stR_row, stR_row0, stR_row1, stR_rowA, stR_rowA0, splice_rowv, splice_rowv0, splice_rowv1, splice_z, splice_n, splice_s, nth_rowv, nth_rowv0, nth_rowv1, rowv_len]
  refine Ret.bind (spec_l20Rd_of_m (strs := textsL) (k := 8) (by omega) (by omega) (by omega) rfl (At.new (cs := textsL.map Value.string)) (by omega) (hr.ext (by (repeat (first | exact Ext.rfl | assumption | (refine Ext.al ?_ _) | (refine Ext.dw ?_) | (refine Ext.set ?_ (by first | omega | (simp only [World.size_alloc, size_setRow, dw_size]; omega)) _) | (refine Ext.tr ?_ (by assumption))))))) ?_
  rintro ⟨_, w1⟩ ⟨n, hn, rfl, R1, M1⟩
  have zM1 := M1.size
  try simp only [World.size_alloc, size_setRow, dw_size] at zM1
  try dsimp only at R1 M1
  simp (maxSteps := 1000000) (disch := first | assumption | omega | (simp only [World.size_alloc, size_setRow, dw_size]; done) | (simp only [World.size_alloc, size_setRow, dw_size] <;> omega) | (simp only [List.length_set, Array.length_toList, List.length_cons, List.length_nil, List.length_append, bts_size] <;> omega) | (simp only [List.all_cons, List.all_nil, Value.oneCell', Bool.and_self, Bool.and_true]; done)) [-Option.bind_some, hp_alloc_lt, hp_alloc_eq, hp_set_ne, wrap_small, ups_ap_cons, ups_ap_nil, upd_same, upd_other, env0_ap0, env0_aps, xt_a, xt_b, xt_c, -splice_eq, -stR_cells, stR_box, stR_boxA, stR_row, stR_row0, stR_row1, stR_rowA, stR_rowA0, splice_rowv, splice_rowv0, splice_rowv1, splice_z, splice_n, splice_s, nth_rowv, nth_rowv0, nth_rowv1, rowv_len, M1.blk]
  exact hQ _ ⟨n, hn, rfl, R1, (Mod.of (by (repeat (first | exact Ext.rfl | assumption | (refine Ext.al ?_ _) | (refine Ext.dw ?_) | (refine Ext.set ?_ (by first | omega | (simp only [World.size_alloc, size_setRow, dw_size]; omega)) _) | (refine Ext.tr ?_ (by assumption))))) _).tr M1⟩
theorem spec_l20AnyTag_m {B g p : Nat} (hp0 : p ≤ 900000000000) {w : World} (hr : R w B g p) :
    Ret (EV P 66 #[pt g 0] w) fun r => ∃ (t : Tag) (p' : Nat), r.1 = t.v ∧ p' ≤ p + 4 ∧ R r.2 B g p' ∧ Mod (fun b => b = g) w r.2 := by
  have hl := hr.lt
  refine Ret.post fun Q hQ => ?_
  refine Ret.enter plain mixed (spec_l20AnyTag_fn _ _) (by kernel_rfl) (n := 1) (by kernel_rfl) rfl ?_
  simp (maxSteps := 1000000) (disch := first | assumption | omega | (simp only [World.size_alloc, size_setRow, dw_size]; done) | (simp only [World.size_alloc, size_setRow, dw_size] <;> omega) | (simp only [List.length_set, Array.length_toList, List.length_cons, List.length_nil, List.length_append, bts_size] <;> omega) | (simp only [List.all_cons, List.all_nil, Value.oneCell', Bool.and_self, Bool.and_true]; done)) [-Option.bind_some, hp_alloc_lt, hp_alloc_eq, hp_set_ne, wrap_small, ups_ap_cons, ups_ap_nil, upd_same, upd_other, env0_ap0, env0_aps, xt_a, xt_b, xt_c, -splice_eq, -stR_cells, stR_box, stR_boxA, stR_row, stR_row0, stR_row1, stR_rowA, stR_rowA0, splice_rowv, splice_rowv0, splice_rowv1, splice_z, splice_n, splice_s, nth_rowv, nth_rowv0, nth_rowv1, rowv_len]
  refine Ret.bind (spec_l20Rd_pick_m (k := 8) (by omega) (by omega) (by omega) (hr.ext (by (repeat (first | exact Ext.rfl | assumption | (refine Ext.al ?_ _) | (refine Ext.dw ?_) | (refine Ext.set ?_ (by first | omega | (simp only [World.size_alloc, size_setRow, dw_size]; omega)) _) | (refine Ext.tr ?_ (by assumption))))))) ?_
  rintro ⟨_, w1⟩ ⟨m, rfl, hm, R1, M1⟩
  have zM1 := M1.size
  try simp only [World.size_alloc, size_setRow, dw_size] at zM1
  try dsimp only at R1 M1
  have zM1 := M1.size
  simp only [World.size_alloc, dw_size] at zM1
  have X1 : hp w1 w.heap.size = some (.cells #[i64 0, i64 0] 23 (0, 0)) := (M1.blk w.heap.size (by (try simp only [In, World.size_alloc, size_setRow, dw_size] at *); omega) (by omega)).trans (by first | assumption | rfl | (simp (maxSteps := 1000000) (disch := first | assumption | omega | (simp only [World.size_alloc, size_setRow, dw_size]; done) | (simp only [World.size_alloc, size_setRow, dw_size] <;> omega) | (simp only [List.length_set, Array.length_toList, List.length_cons, List.length_nil, List.length_append, bts_size] <;> omega) | (simp only [List.all_cons, List.all_nil, Value.oneCell', Bool.and_self, Bool.and_true]; done)) [-Option.bind_some, hp_alloc_lt, hp_alloc_eq, hp_set_ne, wrap_small, ups_ap_cons, ups_ap_nil, upd_same, upd_other, env0_ap0, env0_aps, xt_a, xt_b, xt_c, -splice_eq, -stR_cells, stR_box, stR_boxA, stR_row, stR_row0, stR_row1, stR_rowA, stR_rowA0, splice_rowv, splice_rowv0, splice_rowv1, splice_z, splice_n, splice_s, nth_rowv, nth_rowv0, nth_rowv1, rowv_len, M1.blk]; done))
  have N1 : Mod (fun b => b = g) w w1 := (Mod.of (by (repeat (first | exact Ext.rfl | assumption | (refine Ext.al ?_ _) | (refine Ext.dw ?_) | (refine Ext.set ?_ (by first | omega | (simp only [World.size_alloc, size_setRow, dw_size]; omega)) _) | (refine Ext.tr ?_ (by assumption))))) _).tr M1
  have y1 := R1.lt
  cases hz : ((m : Int) == 0)
  · simp (maxSteps := 1000000) (disch := first | assumption | omega | (simp only [World.size_alloc, size_setRow, dw_size]; done) | (simp only [World.size_alloc, size_setRow, dw_size] <;> omega) | (simp only [List.length_set, Array.length_toList, List.length_cons, List.length_nil, List.length_append, bts_size] <;> omega) | (simp only [List.all_cons, List.all_nil, Value.oneCell', Bool.and_self, Bool.and_true]; done)) [-Option.bind_some, hp_alloc_lt, hp_alloc_eq, hp_set_ne, wrap_small, ups_ap_cons, ups_ap_nil, upd_same, upd_other, env0_ap0, env0_aps, xt_a, xt_b, xt_c, -splice_eq, -stR_cells, stR_box, stR_boxA, stR_row, stR_row0, stR_row1, stR_rowA, stR_rowA0, splice_rowv, splice_rowv0, splice_rowv1, splice_z, splice_n, splice_s, nth_rowv, nth_rowv0, nth_rowv1, rowv_len, hz, M1.blk, X1]
    refine Ret.bind (spec_l20Tag_m (by omega) (R1.ext (by (repeat (first | exact Ext.rfl | assumption | (refine Ext.al ?_ _) | (refine Ext.dw ?_) | (refine Ext.set ?_ (by first | omega | (simp only [World.size_alloc, size_setRow, dw_size]; omega)) _) | (refine Ext.tr ?_ (by assumption))))))) ?_
    rintro ⟨_, w2⟩ ⟨t, p2, rfl, _, _, hp2, R2, M2⟩
    have zM2 := M2.size
    try simp only [World.size_alloc, size_setRow, dw_size] at zM2
    try dsimp only at R2 M2
    have zM2 := M2.size
    have X2 : hp w2 w.heap.size = some (.cells #[i64 0, i64 0] 23 (0, 0)) := (M2.blk w.heap.size (by (try simp only [In, World.size_alloc, size_setRow, dw_size] at *); omega) (by omega)).trans X1
    simp (maxSteps := 1000000) (disch := first | assumption | omega | (simp only [World.size_alloc, size_setRow, dw_size]; done) | (simp only [World.size_alloc, size_setRow, dw_size] <;> omega) | (simp only [List.length_set, Array.length_toList, List.length_cons, List.length_nil, List.length_append, bts_size] <;> omega) | (simp only [List.all_cons, List.all_nil, Value.oneCell', Bool.and_self, Bool.and_true]; done)) [-Option.bind_some, hp_alloc_lt, hp_alloc_eq, hp_set_ne, wrap_small, ups_ap_cons, ups_ap_nil, upd_same, upd_other, env0_ap0, env0_aps, xt_a, xt_b, xt_c, -splice_eq, -stR_cells, stR_box, stR_boxA, stR_row, stR_row0, stR_row1, stR_rowA, stR_rowA0, splice_rowv, splice_rowv0, splice_rowv1, splice_z, splice_n, splice_s, nth_rowv, nth_rowv0, nth_rowv1, rowv_len, X2, M1.blk, X1, M2.blk, X2]
    refine hQ _ ⟨t, p2, rfl, by omega, R2.keep (fun b h hb => hp_set_ne (by omega)), (N1.tr M2).set' (.inl (by omega)) _⟩
  · simp (maxSteps := 1000000) (disch := first | assumption | omega | (simp only [World.size_alloc, size_setRow, dw_size]; done) | (simp only [World.size_alloc, size_setRow, dw_size] <;> omega) | (simp only [List.length_set, Array.length_toList, List.length_cons, List.length_nil, List.length_append, bts_size] <;> omega) | (simp only [List.all_cons, List.all_nil, Value.oneCell', Bool.and_self, Bool.and_true]; done)) [-Option.bind_some, hp_alloc_lt, hp_alloc_eq, hp_set_ne, wrap_small, ups_ap_cons, ups_ap_nil, upd_same, upd_other, env0_ap0, env0_aps, xt_a, xt_b, xt_c, -splice_eq, -stR_cells, stR_box, stR_boxA, stR_row, stR_row0, stR_row1, stR_rowA, stR_rowA0, splice_rowv, splice_rowv0, splice_rowv1, splice_z, splice_n, splice_s, nth_rowv, nth_rowv0, nth_rowv1, rowv_len, hz, M1.blk, X1]
    refine Ret.bind (spec_l20Rd_one_m (ints := [0, -1, 1000, 999]) (k := 4) (by omega) (by omega) (by omega) rfl (At.new (cs := [i64 0, i64 (-1), i64 1000, i64 999])) (by omega) (R1.ext (by (repeat (first | exact Ext.rfl | assumption | (refine Ext.al ?_ _) | (refine Ext.dw ?_) | (refine Ext.set ?_ (by first | omega | (simp only [World.size_alloc, size_setRow, dw_size]; omega)) _) | (refine Ext.tr ?_ (by assumption))))))) ?_
    rintro ⟨_, w2⟩ ⟨n1, _, rfl, R2, M2⟩
    have zM2 := M2.size
    try simp only [World.size_alloc, size_setRow, dw_size] at zM2
    try dsimp only at R2 M2
    have zM2 := M2.size
    simp only [World.size_alloc, dw_size] at zM2
    simp (maxSteps := 1000000) (disch := first | assumption | omega | (simp only [World.size_alloc, size_setRow, dw_size]; done) | (simp only [World.size_alloc, size_setRow, dw_size] <;> omega) | (simp only [List.length_set, Array.length_toList, List.length_cons, List.length_nil, List.length_append, bts_size] <;> omega) | (simp only [List.all_cons, List.all_nil, Value.oneCell', Bool.and_self, Bool.and_true]; done)) [-Option.bind_some, hp_alloc_lt, hp_alloc_eq, hp_set_ne, wrap_small, ups_ap_cons, ups_ap_nil, upd_same, upd_other, env0_ap0, env0_aps, xt_a, xt_b, xt_c, -splice_eq, -stR_cells, stR_box, stR_boxA, stR_row, stR_row0, stR_row1, stR_rowA, stR_rowA0, splice_rowv, splice_rowv0, splice_rowv1, splice_z, splice_n, splice_s, nth_rowv, nth_rowv0, nth_rowv1, rowv_len, M1.blk, X1, M2.blk]
    have N2 := (N1.al _).tr M2
    refine Ret.bind (spec_l20Rd_one_m (ints := [0, 1, 3, -1]) (k := 4) (by omega) (by omega) (by omega) rfl (At.new (cs := [i64 0, i64 1, i64 3, i64 (-1)])) (by omega) (R2.ext (by (repeat (first | exact Ext.rfl | assumption | (refine Ext.al ?_ _) | (refine Ext.dw ?_) | (refine Ext.set ?_ (by first | omega | (simp only [World.size_alloc, size_setRow, dw_size]; omega)) _) | (refine Ext.tr ?_ (by assumption))))))) ?_
    rintro ⟨_, w3⟩ ⟨n2, _, rfl, R3, M3⟩
    have zM3 := M3.size
    try simp only [World.size_alloc, size_setRow, dw_size] at zM3
    try dsimp only at R3 M3
    have zM3 := M3.size
    simp only [World.size_alloc, dw_size] at zM3
    have N3 := (N2.al _).tr M3
    have X3 : hp w3 w.heap.size = some (.cells #[i64 0, i64 0] 23 (0, 0)) := (M3.blk w.heap.size (by (try simp only [In, World.size_alloc, size_setRow, dw_size] at *); omega) (by omega)).trans ((hp_alloc_lt (by omega)).trans ((M2.blk w.heap.size (by (try simp only [In, World.size_alloc, size_setRow, dw_size] at *); omega) (by omega)).trans ((hp_alloc_lt (by omega)).trans X1)))
    simp (maxSteps := 1000000) (disch := first | assumption | omega | (simp only [World.size_alloc, size_setRow, dw_size]; done) | (simp only [World.size_alloc, size_setRow, dw_size] <;> omega) | (simp only [List.length_set, Array.length_toList, List.length_cons, List.length_nil, List.length_append, bts_size] <;> omega) | (simp only [List.all_cons, List.all_nil, Value.oneCell', Bool.and_self, Bool.and_true]; done)) [-Option.bind_some, hp_alloc_lt, hp_alloc_eq, hp_set_ne, wrap_small, ups_ap_cons, ups_ap_nil, upd_same, upd_other, env0_ap0, env0_aps, xt_a, xt_b, xt_c, -splice_eq, -stR_cells, stR_box, stR_boxA, stR_row, stR_row0, stR_row1, stR_rowA, stR_rowA0, splice_rowv, splice_rowv0, splice_rowv1, splice_z, splice_n, splice_s, nth_rowv, nth_rowv0, nth_rowv1, rowv_len, X3, M1.blk, X1, M2.blk, M3.blk, X3]
    refine hQ _ ⟨⟨n1, n2⟩, p + 1 + 1 + 1, rfl, by omega, R3.keep (fun b h hb => hp_set_ne (by omega)), N3.set' (.inl (by omega)) _⟩
end Go.Proofs.YtgdacclgooaodaaGreatDoor.X
set_option linter.unusedVariables false
set_option linter.unusedSimpArgs false
set_option maxRecDepth 100000
set_option maxHeartbeats 1000000
namespace Go.Proofs.YtgdacclgooaodaaGreatDoor.X
open Go Go.Ev Go.RowKit
theorem spec_l1None_m {w : World} : Ret (EV P 76 #[] w) fun r => ∃ a c, r.1 = .agg #[.slice a 4 c] ∧ O tTags (In w.heap.size r.2.heap.size) r.2 [.slice a 4 c] (List.replicate 4 ⟨0, 0⟩) ∧ Ext w r.2 := by
  refine Ret.post fun Q hQ => ?_
  refine Ret.enter plain mixed (spec_l1None_fn _) (by kernel_rfl) (n := 0) (by kernel_rfl) rfl ?_
  simp (maxSteps := 1000000) (disch := first | assumption | omega | (simp only [World.size_alloc, size_setRow, dw_size]; done) | (simp only [World.size_alloc, size_setRow, dw_size] <;> omega) | (simp only [List.length_set, Array.length_toList, List.length_cons, List.length_nil, List.length_append, bts_size] <;> omega) | (simp only [List.all_cons, List.all_nil, Value.oneCell', Bool.and_self, Bool.and_true]; done)) [-Option.bind_some, hp_alloc_lt, hp_alloc_eq, hp_set_ne, wrap_small, ups_ap_cons, ups_ap_nil, upd_same, upd_other, env0_ap0, env0_aps, xt_a, xt_b, xt_c, -splice_eq, -stR_cells, stR_box, stR_boxA, stR_row, stR_row0, stR_row1, stR_rowA, stR_rowA0, splice_rowv, splice_rowv0, splice_rowv1, splice_z, splice_n, splice_s, nth_rowv, nth_rowv0, nth_rowv1, rowv_len]
  refine Ret.bind (O.make (L := LTag) (mx := 8796093021952) (n := 4) (x0 := (⟨0, 0⟩ : Tag)) el_24 zz_23 rfl (by decide) (fun w => O.tag.2 rfl) (by decide) (by decide) (by decide)) ?_
  rintro ⟨_, w1⟩ ⟨rfl, o1, z1, E1⟩
  have zE1 := E1.size
  try simp only [World.size_alloc, size_setRow, dw_size] at zE1
  try dsimp only at o1 z1 E1
  have X1 := E1.blk (b := w.heap.size) (by simp)
  simp only [World.size_alloc] at z1 o1
  simp (maxSteps := 1000000) (disch := first | assumption | omega | (simp only [World.size_alloc, size_setRow, dw_size]; done) | (simp only [World.size_alloc, size_setRow, dw_size] <;> omega) | (simp only [List.length_set, Array.length_toList, List.length_cons, List.length_nil, List.length_append, bts_size] <;> omega) | (simp only [List.all_cons, List.all_nil, Value.oneCell', Bool.and_self, Bool.and_true]; done)) [-Option.bind_some, hp_alloc_lt, hp_alloc_eq, hp_set_ne, wrap_small, ups_ap_cons, ups_ap_nil, upd_same, upd_other, env0_ap0, env0_aps, xt_a, xt_b, xt_c, -splice_eq, -stR_cells, stR_box, stR_boxA, stR_row, stR_row0, stR_row1, stR_rowA, stR_rowA0, splice_rowv, splice_rowv0, splice_rowv1, splice_z, splice_n, splice_s, nth_rowv, nth_rowv0, nth_rowv1, rowv_len, E1.blk, X1]
  exact hQ _ ⟨_, _, rfl, (o1.keep (by intro b hS hb; (try dsimp only at hS); (try simp only [In, World.size_alloc, size_setRow, dw_size] at hS hb); first | rfl | (simp (disch := first | assumption | omega | (simp only [World.size_alloc, size_setRow, dw_size]; omega) | (simp only [World.size_alloc, size_setRow, dw_size, In]; omega)) only [E1.blk, hp_alloc_lt, hp_set_ne, hp_dw]; done))).wide (by intro b h1 h2; (try dsimp only at h1); (try simp only [In, World.size_alloc, size_setRow, dw_size] at *); omega), by (repeat (first | exact Ext.rfl | assumption | (refine Ext.al ?_ _) | (refine Ext.dw ?_) | (refine Ext.set ?_ (by first | omega | (simp only [World.size_alloc, size_setRow, dw_size]; omega)) _) | (refine Ext.tr ?_ (by assumption))))⟩
theorem spec_l20Ver_n1 {B g b2 b3 c W0 : Nat} {a : Option Addr} {key : Int} {txt : ByteArray} (hk0 : 0 ≤ key) (hk3 : key ≤ 3) (htx : txt.size ≤ 1000) (h23 : b2 < b3) (hg2 : g < b2) (h0 : W0 ≤ b2) (hW0 : g < W0) :
    ∀ (d k : Nat) (e : Env) (w : World) (p : Nat) (mx : Int) (ts : List Tag) (S : Nat → Prop), k + d = 4 → p ≤ 900000000000 + 3 * k → 0 ≤ mx → mx ≤ 9 → ts.length = 4 → e 0 = pt g 0 → e 2 = pt b2 0 → e 3 = pt b3 0 → e 4 = i64 mx → e 5 = i64 k →
      hp w b2 = some (.cells #[i64 0, i64 0, i64 0, .slice none 0 0, .string ⟨#[]⟩, .bool false] 28 (0, 0)) →
      hp w b3 = some (.cells #[i64 key, i64 0, i64 0, .slice a 4 c, .string txt, .bool false] 28 (0, 0)) → O tTags S w [.slice a 4 c] ts → (∀ b, S b → W0 ≤ b ∧ b ≠ b2 ∧ b ≠ b3) → R w B g p →
      Ret (spec_l20Ver_l1 e w) fun r => ∃ (v : Ver) (ds : List Value) (p' : Nat), r.1 = .agg ds.toArray ∧ O tVer (fun b => W0 ≤ b) r.2 ds v ∧ 0 ≤ v.key ∧ v.key ≤ 3 ∧ v.past.length = 4 ∧ p' ≤ p + 3 * d + 20 ∧ R r.2 B g p' ∧ Mod (fun b => b = g ∨ W0 ≤ b) w r.2 := by
  intro d
  induction d with
  | zero =>
    intro k e w p mx ts S hd hp0 hm0 hm9 hts e0 e2 e3 e4 e5 X2 X3 ho hS hr
    rw [spec_l20Ver_l1_eq]
    obtain rfl : k = 4 := by omega
    have hl := hr.lt
    have y2 := hp_lt X2
    have y3 := hp_lt X3
    refine Ret.post fun Q hQ => ?_
    simp (maxSteps := 1000000) (disch := first | assumption | omega | (simp only [World.size_alloc, size_setRow, dw_size]; done) | (simp only [World.size_alloc, size_setRow, dw_size] <;> omega) | (simp only [List.length_set, Array.length_toList, List.length_cons, List.length_nil, List.length_append, bts_size] <;> omega) | (simp only [List.all_cons, List.all_nil, Value.oneCell', Bool.and_self, Bool.and_true]; done)) [-Option.bind_some, hp_alloc_lt, hp_alloc_eq, hp_set_ne, wrap_small, ups_ap_cons, ups_ap_nil, upd_same, upd_other, env0_ap0, env0_aps, xt_a, xt_b, xt_c, -splice_eq, -stR_cells, stR_box, stR_boxA, stR_row, stR_row0, stR_row1, stR_rowA, stR_rowA0, splice_rowv, splice_rowv0, splice_rowv1, splice_z, splice_n, splice_s, nth_rowv, nth_rowv0, nth_rowv1, rowv_len, e0, e2, e3, e4, e5, X2, X3, e0, e2, e3, e4, e5, X2, X3]
    refine Ret.bind (spec_l20Rd_pick_m (k := 3) (by omega) (by omega) (by omega) (hr.ext (by (repeat (first | exact Ext.rfl | assumption | (refine Ext.al ?_ _) | (refine Ext.dw ?_) | (refine Ext.set ?_ (by first | omega | (simp only [World.size_alloc, size_setRow, dw_size]; omega)) _) | (refine Ext.tr ?_ (by assumption))))))) ?_
    rintro ⟨_, w1⟩ ⟨m1, rfl, hm1, R1, M1⟩
    have zM1 := M1.size
    try simp only [World.size_alloc, size_setRow, dw_size] at zM1
    try dsimp only at R1 M1
    have zM1 := M1.size
    simp (maxSteps := 1000000) (disch := first | assumption | omega | (simp only [World.size_alloc, size_setRow, dw_size]; done) | (simp only [World.size_alloc, size_setRow, dw_size] <;> omega) | (simp only [List.length_set, Array.length_toList, List.length_cons, List.length_nil, List.length_append, bts_size] <;> omega) | (simp only [List.all_cons, List.all_nil, Value.oneCell', Bool.and_self, Bool.and_true]; done)) [-Option.bind_some, hp_alloc_lt, hp_alloc_eq, hp_set_ne, wrap_small, ups_ap_cons, ups_ap_nil, upd_same, upd_other, env0_ap0, env0_aps, xt_a, xt_b, xt_c, -splice_eq, -stR_cells, stR_box, stR_boxA, stR_row, stR_row0, stR_row1, stR_rowA, stR_rowA0, splice_rowv, splice_rowv0, splice_rowv1, splice_z, splice_n, splice_s, nth_rowv, nth_rowv0, nth_rowv1, rowv_len, e0, e2, e3, e4, e5, e0, e2, e3, e4, e5, X2, X3, M1.blk]
    refine Ret.bind (spec_l20Rd_pick_m (k := 3) (by omega) (by omega) (by omega) (R1.ext (by (repeat (first | exact Ext.rfl | assumption | (refine Ext.al ?_ _) | (refine Ext.dw ?_) | (refine Ext.set ?_ (by first | omega | (simp only [World.size_alloc, size_setRow, dw_size]; omega)) _) | (refine Ext.tr ?_ (by assumption))))))) ?_
    rintro ⟨_, w2⟩ ⟨m2, rfl, hm2, R2, M2⟩
    have zM2 := M2.size
    try simp only [World.size_alloc, size_setRow, dw_size] at zM2
    try dsimp only at R2 M2
    have zM2 := M2.size
    have Y3 : hp w2 b3 = hp w b3 := (M2.blk b3 (by (try simp only [In, World.size_alloc, size_setRow, dw_size] at *); omega) (by omega)).trans ((M1.blk b3 (by (try simp only [In, World.size_alloc, size_setRow, dw_size] at *); omega) (by omega)).trans (by first | assumption | rfl | (simp (maxSteps := 1000000) (disch := first | assumption | omega | (simp only [World.size_alloc, size_setRow, dw_size]; done) | (simp only [World.size_alloc, size_setRow, dw_size] <;> omega) | (simp only [List.length_set, Array.length_toList, List.length_cons, List.length_nil, List.length_append, bts_size] <;> omega) | (simp only [List.all_cons, List.all_nil, Value.oneCell', Bool.and_self, Bool.and_true]; done)) [-Option.bind_some, hp_alloc_lt, hp_alloc_eq, hp_set_ne, wrap_small, ups_ap_cons, ups_ap_nil, upd_same, upd_other, env0_ap0, env0_aps, xt_a, xt_b, xt_c, e0, e2, e3, e4, e5, X2, X3, M1.blk, M2.blk]; done)))
    have Y2 : hp w2 b2 = hp w b2 := (M2.blk b2 (by (try simp only [In, World.size_alloc, size_setRow, dw_size] at *); omega) (by omega)).trans ((M1.blk b2 (by (try simp only [In, World.size_alloc, size_setRow, dw_size] at *); omega) (by omega)).trans (by first | assumption | rfl | (simp (maxSteps := 1000000) (disch := first | assumption | omega | (simp only [World.size_alloc, size_setRow, dw_size]; done) | (simp only [World.size_alloc, size_setRow, dw_size] <;> omega) | (simp only [List.length_set, Array.length_toList, List.length_cons, List.length_nil, List.length_append, bts_size] <;> omega) | (simp only [List.all_cons, List.all_nil, Value.oneCell', Bool.and_self, Bool.and_true]; done)) [-Option.bind_some, hp_alloc_lt, hp_alloc_eq, hp_set_ne, wrap_small, ups_ap_cons, ups_ap_nil, upd_same, upd_other, env0_ap0, env0_aps, xt_a, xt_b, xt_c, e0, e2, e3, e4, e5, X2, X3, M1.blk, M2.blk]; done)))
    simp (maxSteps := 1000000) (disch := first | assumption | omega | (simp only [World.size_alloc, size_setRow, dw_size]; done) | (simp only [World.size_alloc, size_setRow, dw_size] <;> omega) | (simp only [List.length_set, Array.length_toList, List.length_cons, List.length_nil, List.length_append, bts_size] <;> omega) | (simp only [List.all_cons, List.all_nil, Value.oneCell', Bool.and_self, Bool.and_true]; done)) [-Option.bind_some, hp_alloc_lt, hp_alloc_eq, hp_set_ne, wrap_small, ups_ap_cons, ups_ap_nil, upd_same, upd_other, env0_ap0, env0_aps, xt_a, xt_b, xt_c, -splice_eq, -stR_cells, stR_box, stR_boxA, stR_row, stR_row0, stR_row1, stR_rowA, stR_rowA0, splice_rowv, splice_rowv0, splice_rowv1, splice_z, splice_n, splice_s, nth_rowv, nth_rowv0, nth_rowv1, rowv_len, e0, e2, e3, e4, e5, Y3, X3, e0, e2, e3, e4, e5, X2, X3, M1.blk, M2.blk]
    obtain ⟨W3, hW3⟩ : ∃ W3 : World, W3 = w2.setRow b3 #[i64 key, i64 (mx + 1 + m1), i64 m2, .slice a 4 c, .string txt, .bool false] := ⟨_, rfl⟩
    rw [← hW3]
    have sW : W3.heap.size = w2.heap.size := by rw [hW3, size_setRow]
    have kW : ∀ b, b ≠ b3 → hp W3 b = hp w2 b := fun b q => by rw [hW3, hp_set_ne q]
    have gW : hp W3 b3 = some (.cells #[i64 key, i64 (mx + 1 + m1), i64 m2, .slice a 4 c, .string txt, .bool false] 28 (0, 0)) := by
      rw [hW3]
      exact (by first | assumption | rfl | (simp (maxSteps := 1000000) (disch := first | assumption | omega | (simp only [World.size_alloc, size_setRow, dw_size]; done) | (simp only [World.size_alloc, size_setRow, dw_size] <;> omega) | (simp only [List.length_set, Array.length_toList, List.length_cons, List.length_nil, List.length_append, bts_size] <;> omega) | (simp only [List.all_cons, List.all_nil, Value.oneCell', Bool.and_self, Bool.and_true]; done)) [-Option.bind_some, hp_alloc_lt, hp_alloc_eq, hp_set_ne, wrap_small, ups_ap_cons, ups_ap_nil, upd_same, upd_other, env0_ap0, env0_aps, xt_a, xt_b, xt_c, -splice_eq, -stR_cells, stR_box, stR_boxA, stR_row, stR_row0, stR_row1, stR_rowA, stR_rowA0, splice_rowv, splice_rowv0, splice_rowv1, splice_z, splice_n, splice_s, nth_rowv, nth_rowv0, nth_rowv1, rowv_len, Y3, X3, e0, e2, e3, e4, e5, X2, X3, M1.blk, M2.blk]; done))
    have N2 : Mod (fun b => b = g ∨ W0 ≤ b) w W3 := by
      rw [hW3]
      exact (((Mod.of (by (repeat (first | exact Ext.rfl | assumption | (refine Ext.al ?_ _) | (refine Ext.dw ?_) | (refine Ext.set ?_ (by first | omega | (simp only [World.size_alloc, size_setRow, dw_size]; omega)) _) | (refine Ext.tr ?_ (by assumption))))) (fun b => b = g ∨ W0 ≤ b)).tr (M1.weak (fun b _ h => .inl h))).tr (M2.weak (fun b _ h => .inl h))).set' (.inr (.inr (by omega))) _
    refine Ret.bind (spec_l20Rd_pick_m (k := 6) (by omega) (by omega) (by omega) (R2.keep (fun b h hb => kW b (by omega)))) ?_
    rintro ⟨_, w4⟩ ⟨m3, rfl, hm3, R4, M4⟩
    have zM4 := M4.size
    try simp only [World.size_alloc, size_setRow, dw_size] at zM4
    try dsimp only at R4 M4
    have zM4 := M4.size
    have Z3 : hp w4 b3 = some (.cells #[i64 key, i64 (mx + 1 + m1), i64 m2, .slice a 4 c, .string txt, .bool false] 28 (0, 0)) := (M4.blk b3 (by (try simp only [In, World.size_alloc, size_setRow, dw_size] at *); omega) (by omega)).trans gW
    have Z2 : hp w4 b2 = some (.cells #[i64 0, i64 0, i64 0, .slice none 0 0, .string ⟨#[]⟩, .bool false] 28 (0, 0)) := (M4.blk b2 (by (try simp only [In, World.size_alloc, size_setRow, dw_size] at *); omega) (by omega)).trans ((kW b2 (by omega)).trans (Y2.trans X2))
    have N4 := N2.tr (M4.weak (S' := fun b => b = g ∨ W0 ≤ b) (fun b _ h => .inl h))
    have o4 : O tTags S w4 [.slice a 4 c] ts := ho.keep fun b hS' hb => by
      have q := hS b hS'
      exact (M4.blk b (by omega) (by omega)).trans ((kW b q.2.2).trans ((M2.blk b (by omega) (by omega)).trans ((M1.blk b (by (try simp only [In, World.size_alloc, size_setRow, dw_size] at *); omega) (by omega)).trans (by first | assumption | rfl | (simp (maxSteps := 1000000) (disch := first | assumption | omega | (simp only [World.size_alloc, size_setRow, dw_size]; done) | (simp only [World.size_alloc, size_setRow, dw_size] <;> omega) | (simp only [List.length_set, Array.length_toList, List.length_cons, List.length_nil, List.length_append, bts_size] <;> omega) | (simp only [List.all_cons, List.all_nil, Value.oneCell', Bool.and_self, Bool.and_true]; done)) [-Option.bind_some, hp_alloc_lt, hp_alloc_eq, hp_set_ne, wrap_small, ups_ap_cons, ups_ap_nil, upd_same, upd_other, env0_ap0, env0_aps, xt_a, xt_b, xt_c, e0, e2, e3, e4, e5, X2, X3, M1.blk, M2.blk, M4.blk]; done)))))
    cases hz : ((m3 : Int) == 0)
    · simp (maxSteps := 1000000) (disch := first | assumption | omega | (simp only [World.size_alloc, size_setRow, dw_size]; done) | (simp only [World.size_alloc, size_setRow, dw_size] <;> omega) | (simp only [List.length_set, Array.length_toList, List.length_cons, List.length_nil, List.length_append, bts_size] <;> omega) | (simp only [List.all_cons, List.all_nil, Value.oneCell', Bool.and_self, Bool.and_true]; done)) [-Option.bind_some, hp_alloc_lt, hp_alloc_eq, hp_set_ne, wrap_small, ups_ap_cons, ups_ap_nil, upd_same, upd_other, env0_ap0, env0_aps, xt_a, xt_b, xt_c, -splice_eq, -stR_cells, stR_box, stR_boxA, stR_row, stR_row0, stR_row1, stR_rowA, stR_rowA0, splice_rowv, splice_rowv0, splice_rowv1, splice_z, splice_n, splice_s, nth_rowv, nth_rowv0, nth_rowv1, rowv_len, hz, e0, e2, e3, e4, e5, Z3, Z2, spec_l20Ver_j2_eq, e0, e2, e3, e4, e5, X2, X3, M1.blk, M2.blk, M4.blk]
      refine hQ _ ⟨⟨key, ⟨mx + 1 + m1, m2⟩, ts, txt, false⟩, [_, _, _, _, _, _], p + 1 + 1 + 1, rfl, ?_, hk0, hk3, hts, by omega, R4.keep (fun b h hb => hp_set_ne (by omega)), N4.set' (.inr (.inr h0)) _⟩
      refine O.ver.2 ⟨a, c, ?_, ?_, by show txt.size ≤ _; omega⟩
      · dsimp only
        rw [hts]
      · show O _ _ _ [.slice a ts.length c] ts
        rw [hts]
        exact (o4.keep (fun b hS' hb => hp_set_ne (hS b hS').2.1)).wide (fun b h _ => (hS b h).1)
    · simp (maxSteps := 1000000) (disch := first | assumption | omega | (simp only [World.size_alloc, size_setRow, dw_size]; done) | (simp only [World.size_alloc, size_setRow, dw_size] <;> omega) | (simp only [List.length_set, Array.length_toList, List.length_cons, List.length_nil, List.length_append, bts_size] <;> omega) | (simp only [List.all_cons, List.all_nil, Value.oneCell', Bool.and_self, Bool.and_true]; done)) [-Option.bind_some, hp_alloc_lt, hp_alloc_eq, hp_set_ne, wrap_small, ups_ap_cons, ups_ap_nil, upd_same, upd_other, env0_ap0, env0_aps, xt_a, xt_b, xt_c, -splice_eq, -stR_cells, stR_box, stR_boxA, stR_row, stR_row0, stR_row1, stR_rowA, stR_rowA0, splice_rowv, splice_rowv0, splice_rowv1, splice_z, splice_n, splice_s, nth_rowv, nth_rowv0, nth_rowv1, rowv_len, hz, e0, e2, e3, e4, e5, Z3, Z2, spec_l20Ver_j2_eq, e0, e2, e3, e4, e5, X2, X3, M1.blk, M2.blk, M4.blk]
      refine hQ _ ⟨⟨key, ⟨mx + 1 + m1, m2⟩, ts, ⟨#[]⟩, true⟩, [_, _, _, _, _, _], p + 1 + 1 + 1, rfl, ?_, hk0, hk3, hts, by omega, R4.keep (fun b h hb => ?_), ((N4.set' (.inr (.inr (by omega))) _).set' (.inr (.inr (by omega))) _).set' (.inr (.inr h0)) _⟩
      · refine O.ver.2 ⟨a, c, ?_, ?_, by show ByteArray.size ⟨#[]⟩ ≤ 140737488351232; decide⟩
        · dsimp only
          rw [hts]
        · show O _ _ _ [.slice a ts.length c] ts
          rw [hts]
          exact (o4.keep (fun b hS' hb => by rw [hp_set_ne (hS b hS').2.1, hp_set_ne (hS b hS').2.2, hp_set_ne (hS b hS').2.2])).wide (fun b h _ => (hS b h).1)
      · rw [hp_set_ne (by omega), hp_set_ne (by omega), hp_set_ne (by omega)]
  | succ d ih =>
    intro k e w p mx ts S hd hp0 hm0 hm9 hts e0 e2 e3 e4 e5 X2 X3 ho hS hr
    rw [spec_l20Ver_l1_eq]
    have hn := ho.n
    have hl := hr.lt
    have y3 := hp_lt X3
    obtain ⟨t0, ht0, _⟩ := drop_at (l := ts) (k := k) (by omega)
    have hlt : k < 4 := by omega
    have ho' := ho.wide (S' := fun b => S b ∧ b < w.heap.size) (fun b h1 h2 => ⟨h1, h2⟩)
    obtain ⟨gp, cur, cs, S1, rfl, hSg, hgl, hg, hle, hx1, hS1, put⟩ := ho'.row (by decide) ht0
    obtain rfl := O.tag.1 hx1
    simp only [LTag_n] at hg hle put
    have q := hS gp hSg.1
    refine Ret.post fun Q hQ => ?_
    simp (maxSteps := 1000000) (disch := first | assumption | omega | (simp only [World.size_alloc, size_setRow, dw_size]; done) | (simp only [World.size_alloc, size_setRow, dw_size] <;> omega) | (simp only [List.length_set, Array.length_toList, List.length_cons, List.length_nil, List.length_append, bts_size] <;> omega) | (simp only [List.all_cons, List.all_nil, Value.oneCell', Bool.and_self, Bool.and_true]; done)) [-Option.bind_some, hp_alloc_lt, hp_alloc_eq, hp_set_ne, wrap_small, ups_ap_cons, ups_ap_nil, upd_same, upd_other, env0_ap0, env0_aps, xt_a, xt_b, xt_c, -splice_eq, -stR_cells, stR_box, stR_boxA, stR_row, stR_row0, stR_row1, stR_rowA, stR_rowA0, splice_rowv, splice_rowv0, splice_rowv1, splice_z, splice_n, splice_s, nth_rowv, nth_rowv0, nth_rowv1, rowv_len, e0, e2, e3, e4, e5, X2, X3, hlt, show (k : Int) < 4 by omega, e0, e2, e3, e4, e5, X2, X3, hlt, hg]
    refine Ret.bind (spec_l20Tag_m (by omega) (hr.ext (by (repeat (first | exact Ext.rfl | assumption | (refine Ext.al ?_ _) | (refine Ext.dw ?_) | (refine Ext.set ?_ (by first | omega | (simp only [World.size_alloc, size_setRow, dw_size]; omega)) _) | (refine Ext.tr ?_ (by assumption))))))) ?_
    rintro ⟨_, w1⟩ ⟨t, p1, rfl, ht1, ht9, hp1, R1, M1⟩
    have zM1 := M1.size
    try simp only [World.size_alloc, size_setRow, dw_size] at zM1
    try dsimp only at R1 M1
    have zM1 := M1.size
    simp only [World.size_alloc, dw_size] at zM1
    have Y2 : hp w1 b2 = hp w b2 := (M1.blk b2 (by (try simp only [In, World.size_alloc, size_setRow, dw_size] at *); omega) (by omega)).trans (by first | assumption | rfl | (simp (maxSteps := 1000000) (disch := first | assumption | omega | (simp only [World.size_alloc, size_setRow, dw_size]; done) | (simp only [World.size_alloc, size_setRow, dw_size] <;> omega) | (simp only [List.length_set, Array.length_toList, List.length_cons, List.length_nil, List.length_append, bts_size] <;> omega) | (simp only [List.all_cons, List.all_nil, Value.oneCell', Bool.and_self, Bool.and_true]; done)) [-Option.bind_some, hp_alloc_lt, hp_alloc_eq, hp_set_ne, wrap_small, ups_ap_cons, ups_ap_nil, upd_same, upd_other, env0_ap0, env0_aps, xt_a, xt_b, xt_c, e0, e2, e3, e4, e5, X2, X3, hlt, hg, M1.blk]; done))
    have Y3 : hp w1 b3 = hp w b3 := (M1.blk b3 (by (try simp only [In, World.size_alloc, size_setRow, dw_size] at *); omega) (by omega)).trans (by first | assumption | rfl | (simp (maxSteps := 1000000) (disch := first | assumption | omega | (simp only [World.size_alloc, size_setRow, dw_size]; done) | (simp only [World.size_alloc, size_setRow, dw_size] <;> omega) | (simp only [List.length_set, Array.length_toList, List.length_cons, List.length_nil, List.length_append, bts_size] <;> omega) | (simp only [List.all_cons, List.all_nil, Value.oneCell', Bool.and_self, Bool.and_true]; done)) [-Option.bind_some, hp_alloc_lt, hp_alloc_eq, hp_set_ne, wrap_small, ups_ap_cons, ups_ap_nil, upd_same, upd_other, env0_ap0, env0_aps, xt_a, xt_b, xt_c, e0, e2, e3, e4, e5, X2, X3, hlt, hg, M1.blk]; done))
    have G1 : hp w1 gp = hp w gp := (M1.blk gp (by (try simp only [In, World.size_alloc, size_setRow, dw_size] at *); omega) (by omega)).trans (by first | assumption | rfl | (simp (maxSteps := 1000000) (disch := first | assumption | omega | (simp only [World.size_alloc, size_setRow, dw_size]; done) | (simp only [World.size_alloc, size_setRow, dw_size] <;> omega) | (simp only [List.length_set, Array.length_toList, List.length_cons, List.length_nil, List.length_append, bts_size] <;> omega) | (simp only [List.all_cons, List.all_nil, Value.oneCell', Bool.and_self, Bool.and_true]; done)) [-Option.bind_some, hp_alloc_lt, hp_alloc_eq, hp_set_ne, wrap_small, ups_ap_cons, ups_ap_nil, upd_same, upd_other, env0_ap0, env0_aps, xt_a, xt_b, xt_c, e0, e2, e3, e4, e5, X2, X3, hlt, hg, M1.blk]; done))
    simp (maxSteps := 1000000) (disch := first | assumption | omega | (simp only [World.size_alloc, size_setRow, dw_size]; done) | (simp only [World.size_alloc, size_setRow, dw_size] <;> omega) | (simp only [List.length_set, Array.length_toList, List.length_cons, List.length_nil, List.length_append, bts_size] <;> omega) | (simp only [List.all_cons, List.all_nil, Value.oneCell', Bool.and_self, Bool.and_true]; done)) [-Option.bind_some, hp_alloc_lt, hp_alloc_eq, hp_set_ne, wrap_small, ups_ap_cons, ups_ap_nil, upd_same, upd_other, env0_ap0, env0_aps, xt_a, xt_b, xt_c, -splice_eq, -stR_cells, stR_box, stR_boxA, stR_row, stR_row0, stR_row1, stR_rowA, stR_rowA0, splice_rowv, splice_rowv0, splice_rowv1, splice_z, splice_n, splice_s, nth_rowv, nth_rowv0, nth_rowv1, rowv_len, e0, e2, e3, e4, e5, Y2, Y3, X2, X3, hlt, G1, hg, ia_24, e0, e2, e3, e4, e5, X2, X3, hlt, hg, M1.blk]
    obtain ⟨W3, hW3⟩ : ∃ W3 : World, W3 = w1.setRow gp (rowv cur (k * 2) [i64 t.t, i64 t.p]).toArray := ⟨_, rfl⟩
    rw [← hW3]
    have sW : W3.heap.size = w1.heap.size := by rw [hW3, size_setRow]
    have kW : ∀ b, b ≠ gp → hp W3 b = hp w1 b := fun b q => by rw [hW3, hp_set_ne q]
    have gW : hp W3 gp = some (.cells (rowv cur (k * 2) [i64 t.t, i64 t.p]).toArray 23 (0, 0)) := by
      rw [hW3]
      exact (by first | assumption | rfl | (simp (maxSteps := 1000000) (disch := first | assumption | omega | (simp only [World.size_alloc, size_setRow, dw_size]; done) | (simp only [World.size_alloc, size_setRow, dw_size] <;> omega) | (simp only [List.length_set, Array.length_toList, List.length_cons, List.length_nil, List.length_append, bts_size] <;> omega) | (simp only [List.all_cons, List.all_nil, Value.oneCell', Bool.and_self, Bool.and_true]; done)) [-Option.bind_some, hp_alloc_lt, hp_alloc_eq, hp_set_ne, wrap_small, ups_ap_cons, ups_ap_nil, upd_same, upd_other, env0_ap0, env0_aps, xt_a, xt_b, xt_c, -splice_eq, -stR_cells, stR_box, stR_boxA, stR_row, stR_row0, stR_row1, stR_rowA, stR_rowA0, splice_rowv, splice_rowv0, splice_rowv1, splice_z, splice_n, splice_s, nth_rowv, nth_rowv0, nth_rowv1, rowv_len, G1, hg, e0, e2, e3, e4, e5, X2, X3, hlt, hg, M1.blk]; done))
    have MM : Mod (fun b => b = g ∨ W0 ≤ b) w W3 := by
      rw [hW3]
      exact (((Mod.of (by (repeat (first | exact Ext.rfl | assumption | (refine Ext.al ?_ _) | (refine Ext.dw ?_) | (refine Ext.set ?_ (by first | omega | (simp only [World.size_alloc, size_setRow, dw_size]; omega)) _) | (refine Ext.tr ?_ (by assumption))))) (fun b => b = g ∨ W0 ≤ b)).tr (M1.weak (fun b _ h => .inl h))).set' (.inr (.inr q.1)) _)
    have oW := put W3 (tagC t) t (fun _ => False) (O.tag.2 rfl |>.wide fun b h _ => h) gW (fun b hb hSb hne _ => (kW b hne).trans ((M1.blk b (by (try simp only [In, World.size_alloc, size_setRow, dw_size] at *); omega) (fun e => by have := (hS b hSb.1).1; omega)).trans (by first | assumption | rfl | (simp (maxSteps := 1000000) (disch := first | assumption | omega | (simp only [World.size_alloc, size_setRow, dw_size]; done) | (simp only [World.size_alloc, size_setRow, dw_size] <;> omega) | (simp only [List.length_set, Array.length_toList, List.length_cons, List.length_nil, List.length_append, bts_size] <;> omega) | (simp only [List.all_cons, List.all_nil, Value.oneCell', Bool.and_self, Bool.and_true]; done)) [-Option.bind_some, hp_alloc_lt, hp_alloc_eq, hp_set_ne, wrap_small, ups_ap_cons, ups_ap_nil, upd_same, upd_other, env0_ap0, env0_aps, xt_a, xt_b, xt_c, e0, e2, e3, e4, e5, X2, X3, hlt, hg, M1.blk]; done)))) (fun b _ h => h.elim)
    have RW : R W3 B g p1 := R1.keep (fun b h hb => kW b (by omega))
    have nxt : ∀ (mx' : Int), 0 ≤ mx' → mx' ≤ 9 → ∀ e' : Env, e' 0 = pt g 0 → e' 2 = pt b2 0 → e' 3 = pt b3 0 → e' 4 = i64 mx' → e' 5 = i64 k → Ret (spec_l20Ver_j1 e' W3) Q := by
      intro mx' m0 m9 e' f0 f2 f3 f4 f5
      rw [spec_l20Ver_j1_eq]
      simp (maxSteps := 1000000) (disch := first | assumption | omega | (simp only [World.size_alloc, size_setRow, dw_size]; done) | (simp only [World.size_alloc, size_setRow, dw_size] <;> omega) | (simp only [List.length_set, Array.length_toList, List.length_cons, List.length_nil, List.length_append, bts_size] <;> omega) | (simp only [List.all_cons, List.all_nil, Value.oneCell', Bool.and_self, Bool.and_true]; done)) [-Option.bind_some, hp_alloc_lt, hp_alloc_eq, hp_set_ne, wrap_small, ups_ap_cons, ups_ap_nil, upd_same, upd_other, env0_ap0, env0_aps, xt_a, xt_b, xt_c, -splice_eq, -stR_cells, stR_box, stR_boxA, stR_row, stR_row0, stR_row1, stR_rowA, stR_rowA0, splice_rowv, splice_rowv0, splice_rowv1, splice_z, splice_n, splice_s, nth_rowv, nth_rowv0, nth_rowv1, rowv_len, f5, e0, e2, e3, e4, e5, X2, X3, hlt, hg, M1.blk]
      refine Ret.mono (ih (k + 1) _ W3 p1 mx' (ts.set k t) _ (by omega) (by omega) m0 m9 (by rw [List.length_set]; exact hts) (by first | omega | assumption | rfl | exact congrArg i64 (by omega) | (simp; done) | (simp; omega)) (by first | omega | assumption | rfl | exact congrArg i64 (by omega) | (simp; done) | (simp; omega)) (by first | omega | assumption | rfl | exact congrArg i64 (by omega) | (simp; done) | (simp; omega)) (by first | omega | assumption | rfl | exact congrArg i64 (by omega) | (simp; done) | (simp; omega)) (by first | omega | assumption | rfl | exact congrArg i64 (by omega) | (simp; done) | (simp; omega)) ((kW b2 (by omega)).trans (Y2.trans X2)) ((kW b3 (by omega)).trans (Y3.trans X3)) oW (fun b h => h.elim (fun h => hS b h.1) (fun h => h.elim)) RW) ?_
      rintro r ⟨v, ds, p', h1, h2, h3, h4, h5, h6, h7, h8⟩
      exact hQ _ ⟨v, ds, p', h1, h2, h3, h4, h5, by omega, h7, MM.tr h8⟩
    cases hmx : decide (mx < t.t)
    · exact nxt mx hm0 hm9 _ (by first | omega | assumption | rfl | exact congrArg i64 (by omega) | (simp; done) | (simp; omega)) (by first | omega | assumption | rfl | exact congrArg i64 (by omega) | (simp; done) | (simp; omega)) (by first | omega | assumption | rfl | exact congrArg i64 (by omega) | (simp; done) | (simp; omega)) (by first | omega | assumption | rfl | exact congrArg i64 (by omega) | (simp; done) | (simp; omega)) (by first | omega | assumption | rfl | exact congrArg i64 (by omega) | (simp; done) | (simp; omega))
    · exact nxt t.t ht1 ht9 _ (by first | omega | assumption | rfl | exact congrArg i64 (by omega) | (simp; done) | (simp; omega)) (by first | omega | assumption | rfl | exact congrArg i64 (by omega) | (simp; done) | (simp; omega)) (by first | omega | assumption | rfl | exact congrArg i64 (by omega) | (simp; done) | (simp; omega)) (by first | omega | assumption | rfl | exact congrArg i64 (by omega) | (simp; done) | (simp; omega)) (by first | omega | assumption | rfl | exact congrArg i64 (by omega) | (simp; done) | (simp; omega))
theorem spec_l20Ver_m {B g p : Nat} (hp0 : p ≤ 800000000000) {w : World} (hr : R w B g p) :
    Ret (EV P 43 #[pt g 0] w) fun r => ∃ (v : Ver) (ds : List Value) (p' : Nat), r.1 = .agg ds.toArray ∧ O tVer (In w.heap.size r.2.heap.size) r.2 ds v ∧ 0 ≤ v.key ∧ v.key ≤ 3 ∧ v.past.length = 4 ∧ p' ≤ p + 40 ∧ R r.2 B g p' ∧ Mod (fun b => b = g) w r.2 := by
  have hl := hr.lt
  refine Ret.post fun Q hQ => ?_
  refine Ret.enter plain mixed (spec_l20Ver_fn _ _) (by kernel_rfl) (n := 1) (by kernel_rfl) rfl ?_
  simp (maxSteps := 1000000) (disch := first | assumption | omega | (simp only [World.size_alloc, size_setRow, dw_size]; done) | (simp only [World.size_alloc, size_setRow, dw_size] <;> omega) | (simp only [List.length_set, Array.length_toList, List.length_cons, List.length_nil, List.length_append, bts_size] <;> omega) | (simp only [List.all_cons, List.all_nil, Value.oneCell', Bool.and_self, Bool.and_true]; done)) [-Option.bind_some, hp_alloc_lt, hp_alloc_eq, hp_set_ne, wrap_small, ups_ap_cons, ups_ap_nil, upd_same, upd_other, env0_ap0, env0_aps, xt_a, xt_b, xt_c, -splice_eq, -stR_cells, stR_box, stR_boxA, stR_row, stR_row0, stR_row1, stR_rowA, stR_rowA0, splice_rowv, splice_rowv0, splice_rowv1, splice_z, splice_n, splice_s, nth_rowv, nth_rowv0, nth_rowv1, rowv_len]
  refine Ret.bind (spec_l20Rd_pick_m (k := 4) (by omega) (by omega) (by omega) (hr.ext (by (repeat (first | exact Ext.rfl | assumption | (refine Ext.al ?_ _) | (refine Ext.dw ?_) | (refine Ext.set ?_ (by first | omega | (simp only [World.size_alloc, size_setRow, dw_size]; omega)) _) | (refine Ext.tr ?_ (by assumption))))))) ?_
  rintro ⟨_, w1⟩ ⟨m1, rfl, hm1, R1, M1⟩
  have zM1 := M1.size
  try simp only [World.size_alloc, size_setRow, dw_size] at zM1
  try dsimp only at R1 M1
  have zM1 := M1.size
  simp only [World.size_alloc, dw_size] at zM1
  have X1 : hp w1 w.heap.size = some (.cells #[i64 0, i64 0, i64 0, .slice none 0 0, .string ⟨#[]⟩, .bool false] 28 (0, 0)) := (M1.blk w.heap.size (by (try simp only [In, World.size_alloc, size_setRow, dw_size] at *); omega) (by omega)).trans (by first | assumption | rfl | (simp (maxSteps := 1000000) (disch := first | assumption | omega | (simp only [World.size_alloc, size_setRow, dw_size]; done) | (simp only [World.size_alloc, size_setRow, dw_size] <;> omega) | (simp only [List.length_set, Array.length_toList, List.length_cons, List.length_nil, List.length_append, bts_size] <;> omega) | (simp only [List.all_cons, List.all_nil, Value.oneCell', Bool.and_self, Bool.and_true]; done)) [-Option.bind_some, hp_alloc_lt, hp_alloc_eq, hp_set_ne, wrap_small, ups_ap_cons, ups_ap_nil, upd_same, upd_other, env0_ap0, env0_aps, xt_a, xt_b, xt_c, -splice_eq, -stR_cells, stR_box, stR_boxA, stR_row, stR_row0, stR_row1, stR_rowA, stR_rowA0, splice_rowv, splice_rowv0, splice_rowv1, splice_z, splice_n, splice_s, nth_rowv, nth_rowv0, nth_rowv1, rowv_len, M1.blk]; done))
  have N1 : Mod (fun b => b = g) w w1 := (Mod.of (by (repeat (first | exact Ext.rfl | assumption | (refine Ext.al ?_ _) | (refine Ext.dw ?_) | (refine Ext.set ?_ (by first | omega | (simp only [World.size_alloc, size_setRow, dw_size]; omega)) _) | (refine Ext.tr ?_ (by assumption))))) _).tr M1
  simp (maxSteps := 1000000) (disch := first | assumption | omega | (simp only [World.size_alloc, size_setRow, dw_size]; done) | (simp only [World.size_alloc, size_setRow, dw_size] <;> omega) | (simp only [List.length_set, Array.length_toList, List.length_cons, List.length_nil, List.length_append, bts_size] <;> omega) | (simp only [List.all_cons, List.all_nil, Value.oneCell', Bool.and_self, Bool.and_true]; done)) [-Option.bind_some, hp_alloc_lt, hp_alloc_eq, hp_set_ne, wrap_small, ups_ap_cons, ups_ap_nil, upd_same, upd_other, env0_ap0, env0_aps, xt_a, xt_b, xt_c, -splice_eq, -stR_cells, stR_box, stR_boxA, stR_row, stR_row0, stR_row1, stR_rowA, stR_rowA0, splice_rowv, splice_rowv0, splice_rowv1, splice_z, splice_n, splice_s, nth_rowv, nth_rowv0, nth_rowv1, rowv_len, M1.blk, X1]
  refine Ret.bind (spec_l1None_m) ?_
  rintro ⟨_, w2⟩ ⟨a2, c2, rfl, o2, E2⟩
  try dsimp only at a2 c2 o2 E2
  have zE2 := E2.size
  try simp only [World.size_alloc, size_setRow, dw_size] at zE2
  simp (maxSteps := 1000000) (disch := first | assumption | omega | (simp only [World.size_alloc, size_setRow, dw_size]; done) | (simp only [World.size_alloc, size_setRow, dw_size] <;> omega) | (simp only [List.length_set, Array.length_toList, List.length_cons, List.length_nil, List.length_append, bts_size] <;> omega) | (simp only [List.all_cons, List.all_nil, Value.oneCell', Bool.and_self, Bool.and_true]; done)) [-Option.bind_some, hp_alloc_lt, hp_alloc_eq, hp_set_ne, wrap_small, ups_ap_cons, ups_ap_nil, upd_same, upd_other, env0_ap0, env0_aps, xt_a, xt_b, xt_c, -splice_eq, -stR_cells, stR_box, stR_boxA, stR_row, stR_row0, stR_row1, stR_rowA, stR_rowA0, splice_rowv, splice_rowv0, splice_rowv1, splice_z, splice_n, splice_s, nth_rowv, nth_rowv0, nth_rowv1, rowv_len, M1.blk, X1, E2.blk]
  refine Ret.bind (spec_l20Text_m (by omega) (R1.ext (by (repeat (first | exact Ext.rfl | assumption | (refine Ext.al ?_ _) | (refine Ext.dw ?_) | (refine Ext.set ?_ (by first | omega | (simp only [World.size_alloc, size_setRow, dw_size]; omega)) _) | (refine Ext.tr ?_ (by assumption))))))) ?_
  rintro ⟨_, w3⟩ ⟨txt, htx, rfl, R3, M3⟩
  have zM3 := M3.size
  try simp only [World.size_alloc, size_setRow, dw_size] at zM3
  try dsimp only at R3 M3
  have zM3 := M3.size
  have htx2 : txt.size ≤ 1000 := by
    simp only [textsL, List.mem_cons, List.not_mem_nil, or_false] at htx
    rcases htx with rfl | rfl | rfl | rfl | rfl | rfl | rfl | rfl <;> decide
  have N3 : Mod (fun b => b = g) w w3 := (N1.ex (by (repeat (first | exact Ext.rfl | assumption | (refine Ext.al ?_ _) | (refine Ext.dw ?_) | (refine Ext.set ?_ (by first | omega | (simp only [World.size_alloc, size_setRow, dw_size]; omega)) _) | (refine Ext.tr ?_ (by assumption)))))).tr M3
  have X3 : hp w3 w.heap.size = some (.cells #[i64 0, i64 0, i64 0, .slice none 0 0, .string ⟨#[]⟩, .bool false] 28 (0, 0)) := (M3.blk w.heap.size (by (try simp only [In, World.size_alloc, size_setRow, dw_size] at *); omega) (by omega)).trans ((E2.blk (by (try simp only [In, World.size_alloc, size_setRow, dw_size] at *); omega)).trans (by first | exact X1 | exact (hp_dw _ _).trans X1))
  simp (maxSteps := 1000000) (disch := first | assumption | omega | (simp only [World.size_alloc, size_setRow, dw_size]; done) | (simp only [World.size_alloc, size_setRow, dw_size] <;> omega) | (simp only [List.length_set, Array.length_toList, List.length_cons, List.length_nil, List.length_append, bts_size] <;> omega) | (simp only [List.all_cons, List.all_nil, Value.oneCell', Bool.and_self, Bool.and_true]; done)) [-Option.bind_some, hp_alloc_lt, hp_alloc_eq, hp_set_ne, wrap_small, ups_ap_cons, ups_ap_nil, upd_same, upd_other, env0_ap0, env0_aps, xt_a, xt_b, xt_c, -splice_eq, -stR_cells, stR_box, stR_boxA, stR_row, stR_row0, stR_row1, stR_rowA, stR_rowA0, splice_rowv, splice_rowv0, splice_rowv1, splice_z, splice_n, splice_s, nth_rowv, nth_rowv0, nth_rowv1, rowv_len, M1.blk, X1, E2.blk, M3.blk, X3]
  have zE2 := E2.size
  try simp only [dw_size] at zE2
  obtain ⟨W4, hW4⟩ : ∃ W4 : World, W4 = (w3.alloc (.cells #[i64 0, i64 0, i64 0, .slice none 0 0, .string ⟨#[]⟩, .bool false] 28)).setRow w3.heap.size #[i64 m1, i64 0, i64 0, .slice a2 4 c2, .string txt, .bool false] := ⟨_, rfl⟩
  rw [← hW4]
  have sW : W4.heap.size = w3.heap.size + 1 := by rw [hW4, size_setRow, World.size_alloc]
  have kW : ∀ b, b < w3.heap.size → hp W4 b = hp w3 b := fun b q => by rw [hW4, hp_set_ne (by omega), hp_alloc_lt q]
  have gW : hp W4 w3.heap.size = some (.cells #[i64 m1, i64 0, i64 0, .slice a2 4 c2, .string txt, .bool false] 28 (0, 0)) := by
    rw [hW4]
    exact (by first | assumption | rfl | (simp (maxSteps := 1000000) (disch := first | assumption | omega | (simp only [World.size_alloc, size_setRow, dw_size]; done) | (simp only [World.size_alloc, size_setRow, dw_size] <;> omega) | (simp only [List.length_set, Array.length_toList, List.length_cons, List.length_nil, List.length_append, bts_size] <;> omega) | (simp only [List.all_cons, List.all_nil, Value.oneCell', Bool.and_self, Bool.and_true]; done)) [-Option.bind_some, hp_alloc_lt, hp_alloc_eq, hp_set_ne, wrap_small, ups_ap_cons, ups_ap_nil, upd_same, upd_other, env0_ap0, env0_aps, xt_a, xt_b, xt_c, -splice_eq, -stR_cells, stR_box, stR_boxA, stR_row, stR_row0, stR_row1, stR_rowA, stR_rowA0, splice_rowv, splice_rowv0, splice_rowv1, splice_z, splice_n, splice_s, nth_rowv, nth_rowv0, nth_rowv1, rowv_len, M1.blk, X1, E2.blk, M3.blk, X3]; done))
  have N4 : Mod (fun b => b = g) w W4 := by
    rw [hW4]
    exact (N3.al _).set' (.inl (by omega)) _
  have o4 : O tTags (fun b => w.heap.size < b ∧ b < w2.heap.size) W4 [.slice a2 4 c2] (List.replicate 4 ⟨0, 0⟩) := (o2.keep (w' := W4) (fun b hS hb => by
    simp only [In, dw_size] at hS
    exact (kW b (by omega)).trans (M3.blk b hb (by omega)))).wide (fun b h _ => by simp only [In, dw_size] at h; omega)
  refine Ret.mono (spec_l20Ver_n1 (W0 := w.heap.size) (b2 := w.heap.size) (b3 := w3.heap.size) (key := m1) (by omega) (by omega) htx2 (by omega) (by omega) (by omega) (by omega) 4 0 _ W4 (p + 1 + 1) 0 (List.replicate 4 ⟨0, 0⟩) _ (by omega) (by omega) (by omega) (by omega) rfl rfl rfl rfl rfl rfl ((kW _ (by omega)).trans X3) gW o4 (fun b h => by omega) (R3.keep (fun b h hb => kW b hb))) ?_
  rintro r ⟨v, ds, p', h1, h2, h3, h4, h5, h6, h7, h8⟩
  exact hQ _ ⟨v, ds, p', h1, h2.wide (fun b h hb => by simp only [In]; omega), h3, h4, h5, by omega, h7, Mod.after' N4 h8 (fun x hx h => h.elim id (fun h => by omega))⟩
end Go.Proofs.YtgdacclgooaodaaGreatDoor.X
set_option linter.unusedVariables false
set_option linter.unusedSimpArgs false
set_option maxRecDepth 100000
set_option maxHeartbeats 1000000
namespace Go.Proofs.YtgdacclgooaodaaGreatDoor.X
open Go Go.Ev Go.RowKit
theorem tags_tail {w : World} {b c : Nat} {t : Tag} {ts : List Tag} {S : Nat → Prop} (h : D tTags S w [.slice (some ⟨b, 0, none⟩) (t :: ts).length c] (t :: ts)) : D tTags (fun x => x = b) w [.slice (some ⟨b, 2, none⟩) ts.length (c - 1)] ts := by
  obtain ⟨⟨a', c', h1, h2, h3⟩, h4⟩ := D.rTags h
  simp only [Value.slice.injEq, List.length_cons] at h1 h2 h4
  obtain ⟨rfl, _, rfl⟩ := h1
  refine (tags_d (s := .slice (some ⟨b, 2, none⟩) ts.length (c - 1)) ⟨⟨some ⟨b, 2, none⟩, c - 1, rfl, by omega, .inr ⟨b, 2, rfl, ?_⟩⟩, by omega⟩).wide (fun x h _ => by simpa [blkOf] using h.1)
  rcases h3 with h3 | ⟨b', o', h5, h6⟩
  · simp [tagCs, tagC] at h3
  · simp only [Option.some.injEq, Addr.mk.injEq, and_true] at h5
    obtain ⟨rfl, rfl⟩ := h5
    intro j u hu
    have := h6 (2 + j) u (by
      show (tagC t ++ tagCs ts)[2 + j]? = some u
      rw [List.getElem?_append_right (by simp [tagC])]
      simpa [tagC] using hu)
    rwa [Nat.zero_add] at this
theorem spec_l20AnyVer_m {B g p : Nat} (hp0 : p ≤ 700000000000) {w : World} (hr : R w B g p) :
    Ret (EV P 32 #[pt g 0] w) fun r => ∃ (v : Ver) (ds : List Value) (p' : Nat), r.1 = .agg ds.toArray ∧ D tVer (fun b => w.heap.size ≤ b) r.2 ds v ∧ p' ≤ p + 50 ∧ R r.2 B g p' ∧ Mod (fun b => b = g) w r.2 := by
  have hl := hr.lt
  refine Ret.post fun Q hQ => ?_
  refine Ret.enter plain mixed (spec_l20AnyVer_fn _ _) (by kernel_rfl) (n := 1) (by kernel_rfl) rfl ?_
  simp (maxSteps := 1000000) (disch := first | assumption | omega | (simp only [World.size_alloc, size_setRow, dw_size]; done) | (simp only [World.size_alloc, size_setRow, dw_size] <;> omega) | (simp only [List.length_set, Array.length_toList, List.length_cons, List.length_nil, List.length_append, bts_size] <;> omega) | (simp only [List.all_cons, List.all_nil, Value.oneCell', Bool.and_self, Bool.and_true]; done)) [-Option.bind_some, hp_alloc_lt, hp_alloc_eq, hp_set_ne, wrap_small, ups_ap_cons, ups_ap_nil, upd_same, upd_other, env0_ap0, env0_aps, xt_a, xt_b, xt_c, -splice_eq, -stR_cells, stR_box, stR_boxA, stR_row, stR_row0, stR_row1, stR_rowA, stR_rowA0, splice_rowv, splice_rowv0, splice_rowv1, splice_z, splice_n, splice_s, nth_rowv, nth_rowv0, nth_rowv1, rowv_len]
  refine Ret.bind (spec_l20Ver_m (by omega) (hr.ext (by (repeat (first | exact Ext.rfl | assumption | (refine Ext.al ?_ _) | (refine Ext.dw ?_) | (refine Ext.set ?_ (by first | omega | (simp only [World.size_alloc, size_setRow, dw_size]; omega)) _) | (refine Ext.tr ?_ (by assumption))))))) ?_
  rintro ⟨_, w1⟩ ⟨v, ds, p1, rfl, o1, k0, k3, hp4, hp1, R1, M1⟩
  have zM1 := M1.size
  try simp only [World.size_alloc, size_setRow, dw_size] at zM1
  try dsimp only at o1 R1 M1
  have zM1 := M1.size
  simp only [World.size_alloc, dw_size] at zM1
  have zo := O.ver.1 o1
  obtain ⟨a, c, rfl, op, htx⟩ := zo
  have X1 : hp w1 w.heap.size = some (.cells #[i64 0, i64 0, i64 0, .slice none 0 0, .string ⟨#[]⟩, .bool false] 28 (0, 0)) := (M1.blk w.heap.size (by (try simp only [In, World.size_alloc, size_setRow, dw_size] at *); omega) (by omega)).trans (by first | assumption | rfl | (simp (maxSteps := 1000000) (disch := first | assumption | omega | (simp only [World.size_alloc, size_setRow, dw_size]; done) | (simp only [World.size_alloc, size_setRow, dw_size] <;> omega) | (simp only [List.length_set, Array.length_toList, List.length_cons, List.length_nil, List.length_append, bts_size] <;> omega) | (simp only [List.all_cons, List.all_nil, Value.oneCell', Bool.and_self, Bool.and_true]; done)) [-Option.bind_some, hp_alloc_lt, hp_alloc_eq, hp_set_ne, wrap_small, ups_ap_cons, ups_ap_nil, upd_same, upd_other, env0_ap0, env0_aps, xt_a, xt_b, xt_c, -splice_eq, -stR_cells, stR_box, stR_boxA, stR_row, stR_row0, stR_row1, stR_rowA, stR_rowA0, splice_rowv, splice_rowv0, splice_rowv1, splice_z, splice_n, splice_s, nth_rowv, nth_rowv0, nth_rowv1, rowv_len, M1.blk]; done))
  have N1 : Mod (fun b => b = g) w w1 := (Mod.of (by (repeat (first | exact Ext.rfl | assumption | (refine Ext.al ?_ _) | (refine Ext.dw ?_) | (refine Ext.set ?_ (by first | omega | (simp only [World.size_alloc, size_setRow, dw_size]; omega)) _) | (refine Ext.tr ?_ (by assumption))))) _).tr M1
  rw [hp4] at op
  have hpl : v.past.length = 4 := hp4
  simp (maxSteps := 1000000) (disch := first | assumption | omega | (simp only [World.size_alloc, size_setRow, dw_size]; done) | (simp only [World.size_alloc, size_setRow, dw_size] <;> omega) | (simp only [List.length_set, Array.length_toList, List.length_cons, List.length_nil, List.length_append, bts_size] <;> omega) | (simp only [List.all_cons, List.all_nil, Value.oneCell', Bool.and_self, Bool.and_true]; done)) [-Option.bind_some, hp_alloc_lt, hp_alloc_eq, hp_set_ne, wrap_small, ups_ap_cons, ups_ap_nil, upd_same, upd_other, env0_ap0, env0_aps, xt_a, xt_b, xt_c, -splice_eq, -stR_cells, stR_box, stR_boxA, stR_row, stR_row0, stR_row1, stR_rowA, stR_rowA0, splice_rowv, splice_rowv0, splice_rowv1, splice_z, splice_n, splice_s, nth_rowv, nth_rowv0, nth_rowv1, rowv_len, hp4, M1.blk, X1]
  have fin : ∀ (e : Env) (W : World) (cs : List Value) (u : Ver) (p' : Nat), e 2 = pt w.heap.size 0 → e 3 = pt w1.heap.size 0 → hp W w.heap.size = some (.cells #[i64 0, i64 0, i64 0, .slice none 0 0, .string ⟨#[]⟩, .bool false] 28 (0, 0)) → hp W w1.heap.size = some (.cells cs.toArray 28 (0, 0)) →
      D tVer (fun b => w.heap.size < b ∧ b ≠ w1.heap.size) W cs u → p' ≤ p + 50 → R W B g p' → Mod (fun b => b = g) w W → Ret (spec_l20AnyVer_j1 e W) Q := by
    intro e W cs u p' e2 e3 Z2 Z3 hd hp' hR hM
    have y3 := hp_lt Z3
    have hd' := hd
    obtain ⟨a', c', rfl, _, _⟩ := D.ver.1 hd
    rw [spec_l20AnyVer_j1_eq]
    simp (maxSteps := 1000000) (disch := first | assumption | omega | (simp only [World.size_alloc, size_setRow, dw_size]; done) | (simp only [World.size_alloc, size_setRow, dw_size] <;> omega) | (simp only [List.length_set, Array.length_toList, List.length_cons, List.length_nil, List.length_append, bts_size] <;> omega) | (simp only [List.all_cons, List.all_nil, Value.oneCell', Bool.and_self, Bool.and_true]; done)) [-Option.bind_some, hp_alloc_lt, hp_alloc_eq, hp_set_ne, wrap_small, ups_ap_cons, ups_ap_nil, upd_same, upd_other, env0_ap0, env0_aps, xt_a, xt_b, xt_c, -splice_eq, -stR_cells, stR_box, stR_boxA, stR_row, stR_row0, stR_row1, stR_rowA, stR_rowA0, splice_rowv, splice_rowv0, splice_rowv1, splice_z, splice_n, splice_s, nth_rowv, nth_rowv0, nth_rowv1, rowv_len, e2, e3, Z2, Z3, M1.blk, X1, e2, e3]
    exact hQ _ ⟨u, [_, _, _, _, _, _], p', rfl, (hd'.keep (fun b hS hb => hp_set_ne (by omega))).wide (fun b h _ => by omega), hp', hR.keep (fun b h hb => hp_set_ne (by omega)), hM.set' (.inl (by omega)) _⟩
  obtain ⟨W1, hW1⟩ : ∃ W1 : World, W1 = (w1.alloc (.cells #[i64 0, i64 0, i64 0, .slice none 0 0, .string ⟨#[]⟩, .bool false] 28)).setRow w1.heap.size #[i64 v.key, i64 v.tag.t, i64 v.tag.p, .slice a 4 c, .string v.text, .bool v.gone] := ⟨_, rfl⟩
  rw [← hW1]
  have sW : W1.heap.size = w1.heap.size + 1 := by rw [hW1, size_setRow, World.size_alloc]
  have kW : ∀ b, b < w1.heap.size → hp W1 b = hp w1 b := fun b q => by rw [hW1, hp_set_ne (by omega), hp_alloc_lt q]
  have gW : hp W1 w1.heap.size = some (.cells #[i64 v.key, i64 v.tag.t, i64 v.tag.p, .slice a 4 c, .string v.text, .bool v.gone] 28 (0, 0)) := by
    rw [hW1]
    exact (by first | assumption | rfl | (simp (maxSteps := 1000000) (disch := first | assumption | omega | (simp only [World.size_alloc, size_setRow, dw_size]; done) | (simp only [World.size_alloc, size_setRow, dw_size] <;> omega) | (simp only [List.length_set, Array.length_toList, List.length_cons, List.length_nil, List.length_append, bts_size] <;> omega) | (simp only [List.all_cons, List.all_nil, Value.oneCell', Bool.and_self, Bool.and_true]; done)) [-Option.bind_some, hp_alloc_lt, hp_alloc_eq, hp_set_ne, wrap_small, ups_ap_cons, ups_ap_nil, upd_same, upd_other, env0_ap0, env0_aps, xt_a, xt_b, xt_c, -splice_eq, -stR_cells, stR_box, stR_boxA, stR_row, stR_row0, stR_row1, stR_rowA, stR_rowA0, splice_rowv, splice_rowv0, splice_rowv1, splice_z, splice_n, splice_s, nth_rowv, nth_rowv0, nth_rowv1, rowv_len, M1.blk, X1]; done))
  have N2 : Mod (fun b => b = g) w W1 := by
    rw [hW1]
    exact (N1.al _).set' (.inl (by omega)) _
  have oW : O tTags (fun b => w.heap.size < b ∧ b < w1.heap.size) W1 [.slice a 4 c] v.past := (op.keep (w' := W1) (fun b hS hb => kW b hb)).wide (fun b h _ => by simp only [In, World.size_alloc, dw_size] at h; omega)
  have l1 := R1.lt
  refine Ret.bind (spec_l20Rd_pick_m (k := 10) (by omega) (by omega) (by omega) (R1.keep (fun b h hb => kW b hb))) ?_
  rintro ⟨_, w2⟩ ⟨m, rfl, hm, R2, M2⟩
  have zM2 := M2.size
  try simp only [World.size_alloc, size_setRow, dw_size] at zM2
  try dsimp only at R2 M2
  have zM2 := M2.size
  have Z2 : hp w2 w.heap.size = some (.cells #[i64 0, i64 0, i64 0, .slice none 0 0, .string ⟨#[]⟩, .bool false] 28 (0, 0)) := (M2.blk w.heap.size (by (try simp only [In, World.size_alloc, size_setRow, dw_size] at *); omega) (by omega)).trans ((kW _ (by omega)).trans X1)
  have Z3 := (M2.blk w1.heap.size (by (try simp only [In, World.size_alloc, size_setRow, dw_size] at *); omega) (by omega)).trans gW
  have o2 : O tTags (fun b => w.heap.size < b ∧ b < w1.heap.size) w2 [.slice a 4 c] v.past := oW.keep (fun b hS hb => M2.blk b hb (by omega))
  have N3 := N2.tr M2
  have y2 := R2.lt
  have dv : ∀ (W : World) (key : Int) (tg : Tag) (tx : ByteArray) (gn : Bool) (ts : List Tag), ts.length = 4 → O tTags (fun b => w.heap.size < b ∧ b < w1.heap.size) W [.slice a 4 c] ts → tx.size ≤ 140737488351232 → D tVer (fun b => w.heap.size < b ∧ b ≠ w1.heap.size) W [i64 key, i64 tg.t, i64 tg.p, .slice a 4 c, .string tx, .bool gn] ⟨key, tg, ts, tx, gn⟩ := by
    intro W key tg tx gn ts h4 ho htx
    refine D.ver.2 ⟨a, c, by dsimp only; rw [h4], ?_, htx⟩
    show D _ _ _ [.slice a ts.length c] ts
    rw [h4]
    exact ho.d.wide (fun b h _ => by omega)
  by_cases h0 : m = 0
  · subst h0
    simp (maxSteps := 1000000) (disch := first | assumption | omega | (simp only [World.size_alloc, size_setRow, dw_size]; done) | (simp only [World.size_alloc, size_setRow, dw_size] <;> omega) | (simp only [List.length_set, Array.length_toList, List.length_cons, List.length_nil, List.length_append, bts_size] <;> omega) | (simp only [List.all_cons, List.all_nil, Value.oneCell', Bool.and_self, Bool.and_true]; done)) [-Option.bind_some, hp_alloc_lt, hp_alloc_eq, hp_set_ne, wrap_small, ups_ap_cons, ups_ap_nil, upd_same, upd_other, env0_ap0, env0_aps, xt_a, xt_b, xt_c, -splice_eq, -stR_cells, stR_box, stR_boxA, stR_row, stR_row0, stR_row1, stR_rowA, stR_rowA0, splice_rowv, splice_rowv0, splice_rowv1, splice_z, splice_n, splice_s, nth_rowv, nth_rowv0, nth_rowv1, rowv_len, M1.blk, X1, M2.blk]
    refine Ret.bind (spec_l20Rd_one_m (ints := [-1, 4]) (k := 2) (by omega) (by omega) (by omega) rfl (At.new (cs := [i64 (-1), i64 4])) (by omega) (R2.ext (by (repeat (first | exact Ext.rfl | assumption | (refine Ext.al ?_ _) | (refine Ext.dw ?_) | (refine Ext.set ?_ (by first | omega | (simp only [World.size_alloc, size_setRow, dw_size]; omega)) _) | (refine Ext.tr ?_ (by assumption))))))) ?_
    rintro ⟨_, w3⟩ ⟨n, _, rfl, R3, M3⟩
    have zM3 := M3.size
    try simp only [World.size_alloc, size_setRow, dw_size] at zM3
    try dsimp only at R3 M3
    have zM3 := M3.size
    simp only [World.size_alloc] at zM3
    have Y3 := (M3.blk w1.heap.size (by (try simp only [In, World.size_alloc, size_setRow, dw_size] at *); omega) (by omega)).trans ((hp_alloc_lt (by omega)).trans Z3)
    have Y2 := (M3.blk w.heap.size (by (try simp only [In, World.size_alloc, size_setRow, dw_size] at *); omega) (by omega)).trans ((hp_alloc_lt (by omega)).trans Z2)
    simp (maxSteps := 1000000) (disch := first | assumption | omega | (simp only [World.size_alloc, size_setRow, dw_size]; done) | (simp only [World.size_alloc, size_setRow, dw_size] <;> omega) | (simp only [List.length_set, Array.length_toList, List.length_cons, List.length_nil, List.length_append, bts_size] <;> omega) | (simp only [List.all_cons, List.all_nil, Value.oneCell', Bool.and_self, Bool.and_true]; done)) [-Option.bind_some, hp_alloc_lt, hp_alloc_eq, hp_set_ne, wrap_small, ups_ap_cons, ups_ap_nil, upd_same, upd_other, env0_ap0, env0_aps, xt_a, xt_b, xt_c, -splice_eq, -stR_cells, stR_box, stR_boxA, stR_row, stR_row0, stR_row1, stR_rowA, stR_rowA0, splice_rowv, splice_rowv0, splice_rowv1, splice_z, splice_n, splice_s, nth_rowv, nth_rowv0, nth_rowv1, rowv_len, Y3, M1.blk, X1, M2.blk, M3.blk]
    refine fin _ _ _ ⟨n, v.tag, v.past, v.text, v.gone⟩ (p1 + 1 + 1) rfl rfl ((hp_set_ne (by omega)).trans Y2) (by first | assumption | rfl | (simp (maxSteps := 1000000) (disch := first | assumption | omega | (simp only [World.size_alloc, size_setRow, dw_size]; done) | (simp only [World.size_alloc, size_setRow, dw_size] <;> omega) | (simp only [List.length_set, Array.length_toList, List.length_cons, List.length_nil, List.length_append, bts_size] <;> omega) | (simp only [List.all_cons, List.all_nil, Value.oneCell', Bool.and_self, Bool.and_true]; done)) [-Option.bind_some, hp_alloc_lt, hp_alloc_eq, hp_set_ne, wrap_small, ups_ap_cons, ups_ap_nil, upd_same, upd_other, env0_ap0, env0_aps, xt_a, xt_b, xt_c, -splice_eq, -stR_cells, stR_box, stR_boxA, stR_row, stR_row0, stR_row1, stR_rowA, stR_rowA0, splice_rowv, splice_rowv0, splice_rowv1, splice_z, splice_n, splice_s, nth_rowv, nth_rowv0, nth_rowv1, rowv_len, Y3, M1.blk, X1, M2.blk, M3.blk]; done)) (dv _ n v.tag v.text v.gone v.past hp4 (o2.keep (fun b hS hb => (hp_set_ne (by omega)).trans ((M3.blk b (by (try simp only [In, World.size_alloc, size_setRow, dw_size] at *); omega) (by omega)).trans (hp_alloc_lt hb)))) htx) (by omega) (R3.keep (fun b h hb => hp_set_ne (by omega))) (((N3.al _).tr M3).set' (.inl (by omega)) _)
  have e0 : ((m : Int) == 0) = false := by rw [beq_eq_false_iff_ne]; omega
  by_cases h1 : m = 1
  · subst h1
    simp (maxSteps := 1000000) (disch := first | assumption | omega | (simp only [World.size_alloc, size_setRow, dw_size]; done) | (simp only [World.size_alloc, size_setRow, dw_size] <;> omega) | (simp only [List.length_set, Array.length_toList, List.length_cons, List.length_nil, List.length_append, bts_size] <;> omega) | (simp only [List.all_cons, List.all_nil, Value.oneCell', Bool.and_self, Bool.and_true]; done)) [-Option.bind_some, hp_alloc_lt, hp_alloc_eq, hp_set_ne, wrap_small, ups_ap_cons, ups_ap_nil, upd_same, upd_other, env0_ap0, env0_aps, xt_a, xt_b, xt_c, -splice_eq, -stR_cells, stR_box, stR_boxA, stR_row, stR_row0, stR_row1, stR_rowA, stR_rowA0, splice_rowv, splice_rowv0, splice_rowv1, splice_z, splice_n, splice_s, nth_rowv, nth_rowv0, nth_rowv1, rowv_len, M1.blk, X1, M2.blk, e0]
    refine Ret.bind (spec_l20Rd_of_m (strs := [⟨#[97, 32, 98]⟩, ⟨#[116, 111, 111, 108, 111, 110, 103, 101, 114]⟩, ⟨#[10]⟩]) (k := 3) (by omega) (by omega) (by omega) rfl (At.new (cs := [.string ⟨#[97, 32, 98]⟩, .string ⟨#[116, 111, 111, 108, 111, 110, 103, 101, 114]⟩, .string ⟨#[10]⟩])) (by omega) (R2.ext (by (repeat (first | exact Ext.rfl | assumption | (refine Ext.al ?_ _) | (refine Ext.dw ?_) | (refine Ext.set ?_ (by first | omega | (simp only [World.size_alloc, size_setRow, dw_size]; omega)) _) | (refine Ext.tr ?_ (by assumption))))))) ?_
    rintro ⟨_, w3⟩ ⟨n, hn, rfl, R3, M3⟩
    have zM3 := M3.size
    try simp only [World.size_alloc, size_setRow, dw_size] at zM3
    try dsimp only at R3 M3
    have zM3 := M3.size
    simp only [World.size_alloc] at zM3
    have hns : n.size ≤ 140737488351232 := by
      simp only [List.mem_cons, List.not_mem_nil, or_false] at hn
      rcases hn with rfl | rfl | rfl <;> decide
    have Y3 := (M3.blk w1.heap.size (by (try simp only [In, World.size_alloc, size_setRow, dw_size] at *); omega) (by omega)).trans ((hp_alloc_lt (by omega)).trans Z3)
    have Y2 := (M3.blk w.heap.size (by (try simp only [In, World.size_alloc, size_setRow, dw_size] at *); omega) (by omega)).trans ((hp_alloc_lt (by omega)).trans Z2)
    simp (maxSteps := 1000000) (disch := first | assumption | omega | (simp only [World.size_alloc, size_setRow, dw_size]; done) | (simp only [World.size_alloc, size_setRow, dw_size] <;> omega) | (simp only [List.length_set, Array.length_toList, List.length_cons, List.length_nil, List.length_append, bts_size] <;> omega) | (simp only [List.all_cons, List.all_nil, Value.oneCell', Bool.and_self, Bool.and_true]; done)) [-Option.bind_some, hp_alloc_lt, hp_alloc_eq, hp_set_ne, wrap_small, ups_ap_cons, ups_ap_nil, upd_same, upd_other, env0_ap0, env0_aps, xt_a, xt_b, xt_c, -splice_eq, -stR_cells, stR_box, stR_boxA, stR_row, stR_row0, stR_row1, stR_rowA, stR_rowA0, splice_rowv, splice_rowv0, splice_rowv1, splice_z, splice_n, splice_s, nth_rowv, nth_rowv0, nth_rowv1, rowv_len, Y3, M1.blk, X1, M2.blk, e0, M3.blk]
    refine fin _ _ _ ⟨v.key, v.tag, v.past, n, v.gone⟩ (p1 + 1 + 1) rfl rfl ((hp_set_ne (by omega)).trans Y2) (by first | assumption | rfl | (simp (maxSteps := 1000000) (disch := first | assumption | omega | (simp only [World.size_alloc, size_setRow, dw_size]; done) | (simp only [World.size_alloc, size_setRow, dw_size] <;> omega) | (simp only [List.length_set, Array.length_toList, List.length_cons, List.length_nil, List.length_append, bts_size] <;> omega) | (simp only [List.all_cons, List.all_nil, Value.oneCell', Bool.and_self, Bool.and_true]; done)) [-Option.bind_some, hp_alloc_lt, hp_alloc_eq, hp_set_ne, wrap_small, ups_ap_cons, ups_ap_nil, upd_same, upd_other, env0_ap0, env0_aps, xt_a, xt_b, xt_c, -splice_eq, -stR_cells, stR_box, stR_boxA, stR_row, stR_row0, stR_row1, stR_rowA, stR_rowA0, splice_rowv, splice_rowv0, splice_rowv1, splice_z, splice_n, splice_s, nth_rowv, nth_rowv0, nth_rowv1, rowv_len, Y3, M1.blk, X1, M2.blk, e0, M3.blk]; done)) (dv _ v.key v.tag n v.gone v.past hp4 (o2.keep (fun b hS hb => (hp_set_ne (by omega)).trans ((M3.blk b (by (try simp only [In, World.size_alloc, size_setRow, dw_size] at *); omega) (by omega)).trans (hp_alloc_lt hb)))) hns) (by omega) (R3.keep (fun b h hb => hp_set_ne (by omega))) (((N3.al _).tr M3).set' (.inl (by omega)) _)
  have f1 : ((m : Int) == 1) = false := by rw [beq_eq_false_iff_ne]; omega
  by_cases h2 : m = 2
  · subst h2
    obtain ⟨t0, tl, hpt⟩ : ∃ t0 tl, v.past = t0 :: tl := by
      cases hv : v.past with
      | nil => rw [hv] at hp4; simp at hp4
      | cons t0 tl => exact ⟨t0, tl, rfl⟩
    have htl : tl.length = 3 := by rw [hpt] at hp4; simpa using hp4
    obtain ⟨gp, cur, cs, S1, rfl, hSg, hgl, hg, hle, hx1, hS1, put⟩ := o2.row (by decide) (i := 0) (x := t0) (by rw [hpt]; rfl)
    have hc4 := o2.clip
    simp (maxSteps := 1000000) (disch := first | assumption | omega | (simp only [World.size_alloc, size_setRow, dw_size]; done) | (simp only [World.size_alloc, size_setRow, dw_size] <;> omega) | (simp only [List.length_set, Array.length_toList, List.length_cons, List.length_nil, List.length_append, bts_size] <;> omega) | (simp only [List.all_cons, List.all_nil, Value.oneCell', Bool.and_self, Bool.and_true]; done)) [-Option.bind_some, hp_alloc_lt, hp_alloc_eq, hp_set_ne, wrap_small, ups_ap_cons, ups_ap_nil, upd_same, upd_other, env0_ap0, env0_aps, xt_a, xt_b, xt_c, -splice_eq, -stR_cells, stR_box, stR_boxA, stR_row, stR_row0, stR_row1, stR_rowA, stR_rowA0, splice_rowv, splice_rowv0, splice_rowv1, splice_z, splice_n, splice_s, nth_rowv, nth_rowv0, nth_rowv1, rowv_len, Z3, sl_l (P := P) el_24, show (1 : Int).toNat ≠ c by have := hc4.1; omega, M1.blk, X1, M2.blk, e0, hg]
    refine fin _ _ [i64 v.key, i64 v.tag.t, i64 v.tag.p, .slice (some ⟨gp, 2, none⟩) 3 (c - 1), .string v.text, .bool v.gone] ⟨v.key, v.tag, tl, v.text, v.gone⟩ (p1 + 1) rfl rfl ((hp_set_ne (by omega)).trans Z2) (by first | assumption | rfl | (simp (maxSteps := 1000000) (disch := first | assumption | omega | (simp only [World.size_alloc, size_setRow, dw_size]; done) | (simp only [World.size_alloc, size_setRow, dw_size] <;> omega) | (simp only [List.length_set, Array.length_toList, List.length_cons, List.length_nil, List.length_append, bts_size] <;> omega) | (simp only [List.all_cons, List.all_nil, Value.oneCell', Bool.and_self, Bool.and_true]; done)) [-Option.bind_some, hp_alloc_lt, hp_alloc_eq, hp_set_ne, wrap_small, ups_ap_cons, ups_ap_nil, upd_same, upd_other, env0_ap0, env0_aps, xt_a, xt_b, xt_c, -splice_eq, -stR_cells, stR_box, stR_boxA, stR_row, stR_row0, stR_row1, stR_rowA, stR_rowA0, splice_rowv, splice_rowv0, splice_rowv1, splice_z, splice_n, splice_s, nth_rowv, nth_rowv0, nth_rowv1, rowv_len, Z3, M1.blk, X1, M2.blk, e0, hg]; done)) ?_ (by omega) (R2.keep (fun b h hb => hp_set_ne (by omega))) (N3.set' (.inl (by omega)) _)
    refine D.ver.2 ⟨_, c - 1, by dsimp only; rw [htl], ?_, htx⟩
    show D _ _ _ [.slice _ tl.length (c - 1)] tl
    have hd2 : D tTags (fun b => w.heap.size < b ∧ b < w1.heap.size) w2 [.slice (some ⟨gp, 0, none⟩) (t0 :: tl).length c] (t0 :: tl) := by
      rw [hpt] at o2
      exact (by simp [htl] : (t0 :: tl).length = 4) ▸ o2.d
    exact ((tags_tail hd2).keep (fun b hS hb => hp_set_ne (by omega))).wide (fun b h _ => by have := hSg; omega)
  have f2 : ((m : Int) == 2) = false := by rw [beq_eq_false_iff_ne]; omega
  by_cases h3 : m = 3
  · subst h3
    simp (maxSteps := 1000000) (disch := first | assumption | omega | (simp only [World.size_alloc, size_setRow, dw_size]; done) | (simp only [World.size_alloc, size_setRow, dw_size] <;> omega) | (simp only [List.length_set, Array.length_toList, List.length_cons, List.length_nil, List.length_append, bts_size] <;> omega) | (simp only [List.all_cons, List.all_nil, Value.oneCell', Bool.and_self, Bool.and_true]; done)) [-Option.bind_some, hp_alloc_lt, hp_alloc_eq, hp_set_ne, wrap_small, ups_ap_cons, ups_ap_nil, upd_same, upd_other, env0_ap0, env0_aps, xt_a, xt_b, xt_c, -splice_eq, -stR_cells, stR_box, stR_boxA, stR_row, stR_row0, stR_row1, stR_rowA, stR_rowA0, splice_rowv, splice_rowv0, splice_rowv1, splice_z, splice_n, splice_s, nth_rowv, nth_rowv0, nth_rowv1, rowv_len, Z3, M1.blk, X1, M2.blk, e0]
    refine Ret.bind (spec_l20Rd_pick_m (k := 4) (by omega) (by omega) (by omega) (R2.ext (by (repeat (first | exact Ext.rfl | assumption | (refine Ext.al ?_ _) | (refine Ext.dw ?_) | (refine Ext.set ?_ (by first | omega | (simp only [World.size_alloc, size_setRow, dw_size]; omega)) _) | (refine Ext.tr ?_ (by assumption))))))) ?_
    rintro ⟨_, w3⟩ ⟨k, rfl, hk, R3, M3⟩
    have zM3 := M3.size
    try simp only [World.size_alloc, size_setRow, dw_size] at zM3
    try dsimp only at R3 M3
    have zM3 := M3.size
    simp only [dw_size] at zM3
    have kM : ∀ b, b < w2.heap.size → b ≠ g → hp w3 b = hp w2 b := fun b q1 q2 => (M3.blk b (by rw [dw_size]; exact q1) q2).trans (hp_dw _ _)
    have Y3 := (kM w1.heap.size (by omega) (by omega)).trans Z3
    have Y2 := (kM w.heap.size (by omega) (by omega)).trans Z2
    have o3 : O tTags (fun b => w.heap.size < b ∧ b < w1.heap.size) w3 [.slice a 4 c] v.past := o2.keep (fun b hS hb => kM b hb (by omega))
    obtain ⟨t0, ht0, _⟩ := drop_at (l := v.past) (k := k) (by omega)
    obtain ⟨gp, cur, cs, S1, rfl, hSg, hgl, hg, hle, hx1, hS1, put⟩ := o3.row (by decide) ht0
    obtain rfl := O.tag.1 hx1
    simp only [LTag_n] at hg hle put
    simp (maxSteps := 1000000) (disch := first | assumption | omega | (simp only [World.size_alloc, size_setRow, dw_size]; done) | (simp only [World.size_alloc, size_setRow, dw_size] <;> omega) | (simp only [List.length_set, Array.length_toList, List.length_cons, List.length_nil, List.length_append, bts_size] <;> omega) | (simp only [List.all_cons, List.all_nil, Value.oneCell', Bool.and_self, Bool.and_true]; done)) [-Option.bind_some, hp_alloc_lt, hp_alloc_eq, hp_set_ne, wrap_small, ups_ap_cons, ups_ap_nil, upd_same, upd_other, env0_ap0, env0_aps, xt_a, xt_b, xt_c, -splice_eq, -stR_cells, stR_box, stR_boxA, stR_row, stR_row0, stR_row1, stR_rowA, stR_rowA0, splice_rowv, splice_rowv0, splice_rowv1, splice_z, splice_n, splice_s, nth_rowv, nth_rowv0, nth_rowv1, rowv_len, Y3, hg, ia_24, hk, show (k : Int) < 4 by omega, M1.blk, X1, M2.blk, e0, M3.blk, hg]
    have oP := put (w3.setRow gp (rowv cur (k * 2) [Value.int IntKind.i64 50, Value.int IntKind.i64 1]).toArray) (tagC ⟨50, 1⟩) ⟨50, 1⟩ (fun _ => False) (O.tag.2 rfl |>.wide fun b h _ => h) (by first | assumption | rfl | (simp (maxSteps := 1000000) (disch := first | assumption | omega | (simp only [World.size_alloc, size_setRow, dw_size]; done) | (simp only [World.size_alloc, size_setRow, dw_size] <;> omega) | (simp only [List.length_set, Array.length_toList, List.length_cons, List.length_nil, List.length_append, bts_size] <;> omega) | (simp only [List.all_cons, List.all_nil, Value.oneCell', Bool.and_self, Bool.and_true]; done)) [-Option.bind_some, hp_alloc_lt, hp_alloc_eq, hp_set_ne, wrap_small, ups_ap_cons, ups_ap_nil, upd_same, upd_other, env0_ap0, env0_aps, xt_a, xt_b, xt_c, -splice_eq, -stR_cells, stR_box, stR_boxA, stR_row, stR_row0, stR_row1, stR_rowA, stR_rowA0, splice_rowv, splice_rowv0, splice_rowv1, splice_z, splice_n, splice_s, nth_rowv, nth_rowv0, nth_rowv1, rowv_len, hg, M1.blk, X1, M2.blk, e0, M3.blk, hg]; done)) (fun b hb hSb hne _ => hp_set_ne hne) (fun b _ h => h.elim)
    refine fin _ _ _ ⟨v.key, v.tag, v.past.set k ⟨50, 1⟩, v.text, v.gone⟩ (p1 + 1 + 1) rfl rfl ((hp_set_ne (by omega)).trans Y2) ((hp_set_ne (by omega)).trans Y3) (dv _ v.key v.tag v.text v.gone _ (by rw [List.length_set]; exact hp4) (oP.wide (fun b h _ => h.elim id (fun h => h.elim))) htx) (by omega) (R3.keep (fun b h hb => hp_set_ne (by omega))) (((N3.tr (Mod.of (by (repeat (first | exact Ext.rfl | assumption | (refine Ext.al ?_ _) | (refine Ext.dw ?_) | (refine Ext.set ?_ (by first | omega | (simp only [World.size_alloc, size_setRow, dw_size]; omega)) _) | (refine Ext.tr ?_ (by assumption))))) _)).tr M3).set' (.inl (by omega)) _)
  have f3 : ((m : Int) == 3) = false := by rw [beq_eq_false_iff_ne]; omega
  by_cases h4 : m = 4
  · subst h4
    simp (maxSteps := 1000000) (disch := first | assumption | omega | (simp only [World.size_alloc, size_setRow, dw_size]; done) | (simp only [World.size_alloc, size_setRow, dw_size] <;> omega) | (simp only [List.length_set, Array.length_toList, List.length_cons, List.length_nil, List.length_append, bts_size] <;> omega) | (simp only [List.all_cons, List.all_nil, Value.oneCell', Bool.and_self, Bool.and_true]; done)) [-Option.bind_some, hp_alloc_lt, hp_alloc_eq, hp_set_ne, wrap_small, ups_ap_cons, ups_ap_nil, upd_same, upd_other, env0_ap0, env0_aps, xt_a, xt_b, xt_c, -splice_eq, -stR_cells, stR_box, stR_boxA, stR_row, stR_row0, stR_row1, stR_rowA, stR_rowA0, splice_rowv, splice_rowv0, splice_rowv1, splice_z, splice_n, splice_s, nth_rowv, nth_rowv0, nth_rowv1, rowv_len, Z3, M1.blk, X1, M2.blk, e0]
    refine Ret.bind (spec_l20AnyTag_m (by omega) R2) ?_
    rintro ⟨_, w3⟩ ⟨t, p3, rfl, hp3, R3, M3⟩
    have zM3 := M3.size
    try simp only [World.size_alloc, size_setRow, dw_size] at zM3
    try dsimp only at R3 M3
    have zM3 := M3.size
    have Y3 := (M3.blk w1.heap.size (by (try simp only [In, World.size_alloc, size_setRow, dw_size] at *); omega) (by omega)).trans Z3
    have Y2 := (M3.blk w.heap.size (by (try simp only [In, World.size_alloc, size_setRow, dw_size] at *); omega) (by omega)).trans Z2
    simp (maxSteps := 1000000) (disch := first | assumption | omega | (simp only [World.size_alloc, size_setRow, dw_size]; done) | (simp only [World.size_alloc, size_setRow, dw_size] <;> omega) | (simp only [List.length_set, Array.length_toList, List.length_cons, List.length_nil, List.length_append, bts_size] <;> omega) | (simp only [List.all_cons, List.all_nil, Value.oneCell', Bool.and_self, Bool.and_true]; done)) [-Option.bind_some, hp_alloc_lt, hp_alloc_eq, hp_set_ne, wrap_small, ups_ap_cons, ups_ap_nil, upd_same, upd_other, env0_ap0, env0_aps, xt_a, xt_b, xt_c, -splice_eq, -stR_cells, stR_box, stR_boxA, stR_row, stR_row0, stR_row1, stR_rowA, stR_rowA0, splice_rowv, splice_rowv0, splice_rowv1, splice_z, splice_n, splice_s, nth_rowv, nth_rowv0, nth_rowv1, rowv_len, Y3, M1.blk, X1, M2.blk, e0, M3.blk]
    refine fin _ _ _ ⟨v.key, t, v.past, v.text, v.gone⟩ p3 rfl rfl ((hp_set_ne (by omega)).trans Y2) (by first | assumption | rfl | (simp (maxSteps := 1000000) (disch := first | assumption | omega | (simp only [World.size_alloc, size_setRow, dw_size]; done) | (simp only [World.size_alloc, size_setRow, dw_size] <;> omega) | (simp only [List.length_set, Array.length_toList, List.length_cons, List.length_nil, List.length_append, bts_size] <;> omega) | (simp only [List.all_cons, List.all_nil, Value.oneCell', Bool.and_self, Bool.and_true]; done)) [-Option.bind_some, hp_alloc_lt, hp_alloc_eq, hp_set_ne, wrap_small, ups_ap_cons, ups_ap_nil, upd_same, upd_other, env0_ap0, env0_aps, xt_a, xt_b, xt_c, -splice_eq, -stR_cells, stR_box, stR_boxA, stR_row, stR_row0, stR_row1, stR_rowA, stR_rowA0, splice_rowv, splice_rowv0, splice_rowv1, splice_z, splice_n, splice_s, nth_rowv, nth_rowv0, nth_rowv1, rowv_len, Y3, M1.blk, X1, M2.blk, e0, M3.blk]; done)) (dv _ v.key t v.text v.gone v.past hp4 (o2.keep (fun b hS hb => (hp_set_ne (by omega)).trans (M3.blk b hb (by omega)))) htx) (by omega) (R3.keep (fun b h hb => hp_set_ne (by omega))) ((N3.tr M3).set' (.inl (by omega)) _)
  have f4 : ((m : Int) == 4) = false := by rw [beq_eq_false_iff_ne]; omega
  by_cases h5 : m = 5
  · subst h5
    simp (maxSteps := 1000000) (disch := first | assumption | omega | (simp only [World.size_alloc, size_setRow, dw_size]; done) | (simp only [World.size_alloc, size_setRow, dw_size] <;> omega) | (simp only [List.length_set, Array.length_toList, List.length_cons, List.length_nil, List.length_append, bts_size] <;> omega) | (simp only [List.all_cons, List.all_nil, Value.oneCell', Bool.and_self, Bool.and_true]; done)) [-Option.bind_some, hp_alloc_lt, hp_alloc_eq, hp_set_ne, wrap_small, ups_ap_cons, ups_ap_nil, upd_same, upd_other, env0_ap0, env0_aps, xt_a, xt_b, xt_c, -splice_eq, -stR_cells, stR_box, stR_boxA, stR_row, stR_row0, stR_row1, stR_rowA, stR_rowA0, splice_rowv, splice_rowv0, splice_rowv1, splice_z, splice_n, splice_s, nth_rowv, nth_rowv0, nth_rowv1, rowv_len, Z3, M1.blk, X1, M2.blk, e0]
    refine fin _ _ _ ⟨v.key, v.tag, v.past, v.text, true⟩ (p1 + 1) rfl rfl ((hp_set_ne (by omega)).trans Z2) (by first | assumption | rfl | (simp (maxSteps := 1000000) (disch := first | assumption | omega | (simp only [World.size_alloc, size_setRow, dw_size]; done) | (simp only [World.size_alloc, size_setRow, dw_size] <;> omega) | (simp only [List.length_set, Array.length_toList, List.length_cons, List.length_nil, List.length_append, bts_size] <;> omega) | (simp only [List.all_cons, List.all_nil, Value.oneCell', Bool.and_self, Bool.and_true]; done)) [-Option.bind_some, hp_alloc_lt, hp_alloc_eq, hp_set_ne, wrap_small, ups_ap_cons, ups_ap_nil, upd_same, upd_other, env0_ap0, env0_aps, xt_a, xt_b, xt_c, -splice_eq, -stR_cells, stR_box, stR_boxA, stR_row, stR_row0, stR_row1, stR_rowA, stR_rowA0, splice_rowv, splice_rowv0, splice_rowv1, splice_z, splice_n, splice_s, nth_rowv, nth_rowv0, nth_rowv1, rowv_len, Z3, M1.blk, X1, M2.blk, e0]; done)) (dv _ v.key v.tag v.text true v.past hp4 (o2.keep (fun b hS hb => hp_set_ne (by omega))) htx) (by omega) (R2.keep (fun b h hb => hp_set_ne (by omega))) (N3.set' (.inl (by omega)) _)
  have f5 : ((m : Int) == 5) = false := by rw [beq_eq_false_iff_ne]; omega
  simp (maxSteps := 1000000) (disch := first | assumption | omega | (simp only [World.size_alloc, size_setRow, dw_size]; done) | (simp only [World.size_alloc, size_setRow, dw_size] <;> omega) | (simp only [List.length_set, Array.length_toList, List.length_cons, List.length_nil, List.length_append, bts_size] <;> omega) | (simp only [List.all_cons, List.all_nil, Value.oneCell', Bool.and_self, Bool.and_true]; done)) [-Option.bind_some, hp_alloc_lt, hp_alloc_eq, hp_set_ne, wrap_small, ups_ap_cons, ups_ap_nil, upd_same, upd_other, env0_ap0, env0_aps, xt_a, xt_b, xt_c, -splice_eq, -stR_cells, stR_box, stR_boxA, stR_row, stR_row0, stR_row1, stR_rowA, stR_rowA0, splice_rowv, splice_rowv0, splice_rowv1, splice_z, splice_n, splice_s, nth_rowv, nth_rowv0, nth_rowv1, rowv_len, e0, f1, f2, f3, f4, f5, M1.blk, X1, M2.blk, e0]
  exact fin _ _ _ ⟨v.key, v.tag, v.past, v.text, v.gone⟩ (p1 + 1) rfl rfl Z2 Z3 (dv _ v.key v.tag v.text v.gone v.past hp4 o2 htx) (by omega) R2 N3
end Go.Proofs.YtgdacclgooaodaaGreatDoor.X
