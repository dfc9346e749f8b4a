/- A part of the proof: an evaluator of the model, its laws, and contracts of functions; no condition. -/
import Derived.Test.YtgdacclgooaodaaGreatDoorEvL
import Derived.Test.YtgdacclgooaodaaGreatDoorT12
set_option linter.unusedVariables false
set_option linter.unusedSimpArgs false
set_option maxRecDepth 100000
set_option maxHeartbeats 1000000
namespace Go.Proofs.YtgdacclgooaodaaGreatDoor.X
open Go Go.Ev Go.RowKit
theorem rdBytes : Rd P 34 fun W cs ns => ∃ s, cs = [s] ∧ rBytes W s ns := rd_bytes Tryz.underlying34 (by kernel_rfl) (by kernel_rfl) Tryz.underlying5
def bentA : List ByteArray := [⟨#[48]⟩, ⟨#[49]⟩, ⟨#[32]⟩, ⟨#[46]⟩, ⟨#[35]⟩, ⟨#[61]⟩, ⟨#[10]⟩, ⟨#[57]⟩]
def bentB : List ByteArray := [⟨#[48]⟩, ⟨#[32]⟩, ⟨#[120]⟩, ⟨#[10]⟩]
theorem spec_l20Bent_m {B g p : Nat} (hp0 : p ≤ 900000000000) {l : List UInt8} (hl : l.length ≤ 900000) {w : World} (hr : R w B g p) :
    Ret (EV P 45 #[pt g 0, .string (bts l)] w) fun r => ∃ (l' : List UInt8) (p' : Nat), r.1 = .string (bts l') ∧ l'.length ≤ l.length + 1 ∧ p' ≤ p + 3 ∧ R r.2 B g p' ∧ Mod (fun b => b = g) w r.2 := by
  have hlt := hr.lt
  have hw1 : IntKind.i64.wrap ((l.length : Int) + 1) = (l.length : Int) + 1 := w64 (by omega) (by omega)
  have hpk := spec_l20Rd_pick_m (k := l.length + 1) (by omega) (by omega) (by omega) hr
  rw [show ((l.length + 1 : Nat) : Int) = (l.length : Int) + 1 from rfl] at hpk
  refine Ret.post fun Q hQ => ?_
  refine Ret.enter plain mixed (spec_l20Bent_fn _ _ _) (by kernel_rfl) (n := 2) (by kernel_rfl) rfl ?_
  simp (maxSteps := 1000000) (disch := first | assumption | omega | (simp only [World.size_alloc, size_setRow, dw_size]; done) | (simp only [World.size_alloc, size_setRow, dw_size] <;> omega) | (simp only [List.length_set, Array.length_toList, List.length_cons, List.length_nil, List.length_append, bts_size] <;> omega) | (simp only [List.all_cons, List.all_nil, Value.oneCell', Bool.and_self, Bool.and_true]; done)) [-Option.bind_some, hp_alloc_lt, hp_alloc_eq, hp_set_ne, wrap_small, ups_ap_cons, ups_ap_nil, upd_same, upd_other, env0_ap0, env0_aps, xt_a, xt_b, xt_c, -splice_eq, -stR_cells, stR_box, stR_boxA, stR_row, stR_row0, stR_row1, stR_rowA, stR_rowA0, splice_rowv, splice_rowv0, splice_rowv1, splice_z, splice_n, splice_s, nth_rowv, nth_rowv0, nth_rowv1, rowv_len, bts_size, hw1, hlt]
  refine Ret.bind hpk ?_
  rintro ⟨_, w1⟩ ⟨m, rfl, hm, R1, M1⟩
  have zM1 := M1.size
  try simp only [World.size_alloc, size_setRow, dw_size] at zM1
  try dsimp only at R1 M1
  have zM1 := M1.size
  have y1 := R1.lt
  simp (maxSteps := 1000000) (disch := first | assumption | omega | (simp only [World.size_alloc, size_setRow, dw_size]; done) | (simp only [World.size_alloc, size_setRow, dw_size] <;> omega) | (simp only [List.length_set, Array.length_toList, List.length_cons, List.length_nil, List.length_append, bts_size] <;> omega) | (simp only [List.all_cons, List.all_nil, Value.oneCell', Bool.and_self, Bool.and_true]; done)) [-Option.bind_some, hp_alloc_lt, hp_alloc_eq, hp_set_ne, wrap_small, ups_ap_cons, ups_ap_nil, upd_same, upd_other, env0_ap0, env0_aps, xt_a, xt_b, xt_c, -splice_eq, -stR_cells, stR_box, stR_boxA, stR_row, stR_row0, stR_row1, stR_rowA, stR_rowA0, splice_rowv, splice_rowv0, splice_rowv1, splice_z, splice_n, splice_s, nth_rowv, nth_rowv0, nth_rowv1, rowv_len, hlt, M1.blk]
  refine Ret.bind (spec_l20Rd_pick_m (k := 5) (by omega) (by omega) (by omega) R1) ?_
  rintro ⟨_, w2⟩ ⟨m5, rfl, hm5, R2, M2⟩
  have zM2 := M2.size
  try simp only [World.size_alloc, size_setRow, dw_size] at zM2
  try dsimp only at R2 M2
  have zM2 := M2.size
  have y2 := R2.lt
  have N2 := M1.tr M2
  cases h0 : ((m5 : Int) == 0)
  · cases h1 : ((m5 : Int) == 1)
    · cases h2 : ((m5 : Int) == 2)
      · simp (maxSteps := 1000000) (disch := first | assumption | omega | (simp only [World.size_alloc, size_setRow, dw_size]; done) | (simp only [World.size_alloc, size_setRow, dw_size] <;> omega) | (simp only [List.length_set, Array.length_toList, List.length_cons, List.length_nil, List.length_append, bts_size] <;> omega) | (simp only [List.all_cons, List.all_nil, Value.oneCell', Bool.and_self, Bool.and_true]; done)) [-Option.bind_some, hp_alloc_lt, hp_alloc_eq, hp_set_ne, wrap_small, ups_ap_cons, ups_ap_nil, upd_same, upd_other, env0_ap0, env0_aps, xt_a, xt_b, xt_c, -splice_eq, -stR_cells, stR_box, stR_boxA, stR_row, stR_row0, stR_row1, stR_rowA, stR_rowA0, splice_rowv, splice_rowv0, splice_rowv1, splice_z, splice_n, splice_s, nth_rowv, nth_rowv0, nth_rowv1, rowv_len, h0, h1, h2, spec_l20Bent_j1_eq, hlt, M1.blk, M2.blk]
        exact hQ _ ⟨l, p + 1 + 1, rfl, by omega, by omega, R2, N2⟩
      · simp (maxSteps := 1000000) (disch := first | assumption | omega | (simp only [World.size_alloc, size_setRow, dw_size]; done) | (simp only [World.size_alloc, size_setRow, dw_size] <;> omega) | (simp only [List.length_set, Array.length_toList, List.length_cons, List.length_nil, List.length_append, bts_size] <;> omega) | (simp only [List.all_cons, List.all_nil, Value.oneCell', Bool.and_self, Bool.and_true]; done)) [-Option.bind_some, hp_alloc_lt, hp_alloc_eq, hp_set_ne, wrap_small, ups_ap_cons, ups_ap_nil, upd_same, upd_other, env0_ap0, env0_aps, xt_a, xt_b, xt_c, -splice_eq, -stR_cells, stR_box, stR_boxA, stR_row, stR_row0, stR_row1, stR_rowA, stR_rowA0, splice_rowv, splice_rowv0, splice_rowv1, splice_z, splice_n, splice_s, nth_rowv, nth_rowv0, nth_rowv1, rowv_len, h0, h1, h2, hlt, M1.blk, M2.blk]
        refine Ret.bind (spec_l20Rd_of_m (strs := bentB) (k := 4) (by omega) (by omega) (by omega) rfl (At.new (cs := bentB.map Value.string)) (by omega) (R2.ext (by (repeat (first | exact Ext.rfl | assumption | (refine Ext.al ?_ _) | (refine Ext.dw ?_) | (refine Ext.set ?_ (by first | omega | (simp only [World.size_alloc, size_setRow, dw_size]; omega)) _) | (refine Ext.tr ?_ (by assumption))))))) ?_
        rintro ⟨_, w3⟩ ⟨n, hn, rfl, R3, M3⟩
        have zM3 := M3.size
        try simp only [World.size_alloc, size_setRow, dw_size] at zM3
        try dsimp only at R3 M3
        have hn1 : n.size = 1 := by
          simp only [bentB, List.mem_cons, List.not_mem_nil, or_false] at hn
          rcases hn with rfl | rfl | rfl | rfl <;> rfl
        have hn2 : n.toList.length = 1 := by rw [ByteArray.toList_eq]; simpa using hn1
        simp (maxSteps := 1000000) (disch := first | assumption | omega | (simp only [World.size_alloc, size_setRow, dw_size]; done) | (simp only [World.size_alloc, size_setRow, dw_size] <;> omega) | (simp only [List.length_set, Array.length_toList, List.length_cons, List.length_nil, List.length_append, bts_size] <;> omega) | (simp only [List.all_cons, List.all_nil, Value.oneCell', Bool.and_self, Bool.and_true]; done)) [-Option.bind_some, hp_alloc_lt, hp_alloc_eq, hp_set_ne, wrap_small, ups_ap_cons, ups_ap_nil, upd_same, upd_other, env0_ap0, env0_aps, xt_a, xt_b, xt_c, -splice_eq, -stR_cells, stR_box, stR_boxA, stR_row, stR_row0, stR_row1, stR_rowA, stR_rowA0, splice_rowv, splice_rowv0, splice_rowv1, splice_z, splice_n, splice_s, nth_rowv, nth_rowv0, nth_rowv1, rowv_len, bo_add_btx, hn1, hlt, M1.blk, M2.blk, M3.blk]
        exact hQ _ ⟨l ++ n.toList, p + 1 + 1 + 1, rfl, by rw [List.length_append]; omega, by omega, R3, (N2.al _).tr M3⟩
    · have hs := fun w => sl_str_to (P := P) (t := 9) (by kernel_rfl) l (j := (m : Int)) (by omega) (by omega) w
      rw [Int.toNat_natCast] at hs
      simp (maxSteps := 1000000) (disch := first | assumption | omega | (simp only [World.size_alloc, size_setRow, dw_size]; done) | (simp only [World.size_alloc, size_setRow, dw_size] <;> omega) | (simp only [List.length_set, Array.length_toList, List.length_cons, List.length_nil, List.length_append, bts_size] <;> omega) | (simp only [List.all_cons, List.all_nil, Value.oneCell', Bool.and_self, Bool.and_true]; done)) [-Option.bind_some, hp_alloc_lt, hp_alloc_eq, hp_set_ne, wrap_small, ups_ap_cons, ups_ap_nil, upd_same, upd_other, env0_ap0, env0_aps, xt_a, xt_b, xt_c, -splice_eq, -stR_cells, stR_box, stR_boxA, stR_row, stR_row0, stR_row1, stR_rowA, stR_rowA0, splice_rowv, splice_rowv0, splice_rowv1, splice_z, splice_n, splice_s, nth_rowv, nth_rowv0, nth_rowv1, rowv_len, h0, h1, hs, hlt, M1.blk, M2.blk]
      exact hQ _ ⟨l.take m, p + 1 + 1, rfl, by rw [List.length_take]; omega, by omega, R2, N2⟩
  · by_cases hml : m < l.length
    · have hs := fun w => sl_str_to (P := P) (t := 9) (by kernel_rfl) l (j := (m : Int)) (by omega) (by omega) w
      rw [Int.toNat_natCast] at hs
      have hw2 : IntKind.i64.wrap ((m : Int) + 1) = (m : Int) + 1 := w64 (by omega) (by omega)
      have hs2 := fun w => sl_str_from (P := P) (t := 9) (by kernel_rfl) l (i := (m : Int) + 1) (by omega) (by omega) w
      rw [show ((m : Int) + 1).toNat = m + 1 by omega] at hs2
      simp (maxSteps := 1000000) (disch := first | assumption | omega | (simp only [World.size_alloc, size_setRow, dw_size]; done) | (simp only [World.size_alloc, size_setRow, dw_size] <;> omega) | (simp only [List.length_set, Array.length_toList, List.length_cons, List.length_nil, List.length_append, bts_size] <;> omega) | (simp only [List.all_cons, List.all_nil, Value.oneCell', Bool.and_self, Bool.and_true]; done)) [-Option.bind_some, hp_alloc_lt, hp_alloc_eq, hp_set_ne, wrap_small, ups_ap_cons, ups_ap_nil, upd_same, upd_other, env0_ap0, env0_aps, xt_a, xt_b, xt_c, -splice_eq, -stR_cells, stR_box, stR_boxA, stR_row, stR_row0, stR_row1, stR_rowA, stR_rowA0, splice_rowv, splice_rowv0, splice_rowv1, splice_z, splice_n, splice_s, nth_rowv, nth_rowv0, nth_rowv1, rowv_len, h0, hml, hs, hw2, hs2, hlt, M1.blk, M2.blk]
      refine Ret.bind (spec_l20Rd_of_m (strs := bentA) (k := 8) (by omega) (by omega) (by omega) rfl (At.new (cs := bentA.map Value.string)) (by simp; omega) (R2.ext (by (repeat (first | exact Ext.rfl | assumption | (refine Ext.al ?_ _) | (refine Ext.dw ?_) | (refine Ext.set ?_ (by first | omega | (simp only [World.size_alloc, size_setRow, dw_size]; omega)) _) | (refine Ext.tr ?_ (by assumption))))))) ?_
      rintro ⟨_, w3⟩ ⟨n, hn, rfl, R3, M3⟩
      have zM3 := M3.size
      try simp only [World.size_alloc, size_setRow, dw_size] at zM3
      try dsimp only at R3 M3
      have hn1 : n.size = 1 := by
        simp only [bentA, List.mem_cons, List.not_mem_nil, or_false] at hn
        rcases hn with rfl | rfl | rfl | rfl | rfl | rfl | rfl | rfl <;> rfl
      have hn2 : n.toList.length = 1 := by rw [ByteArray.toList_eq]; simpa using hn1
      have htl : (l.take m).length = m := by rw [List.length_take]; omega
      have hdl : (l.drop (m + 1)).length = l.length - (m + 1) := List.length_drop
      simp (maxSteps := 1000000) (disch := first | assumption | omega | (simp only [World.size_alloc, size_setRow, dw_size]; done) | (simp only [World.size_alloc, size_setRow, dw_size] <;> omega) | (simp only [List.length_set, Array.length_toList, List.length_cons, List.length_nil, List.length_append, bts_size] <;> omega) | (simp only [List.all_cons, List.all_nil, Value.oneCell', Bool.and_self, Bool.and_true]; done)) [-Option.bind_some, hp_alloc_lt, hp_alloc_eq, hp_set_ne, wrap_small, ups_ap_cons, ups_ap_nil, upd_same, upd_other, env0_ap0, env0_aps, xt_a, xt_b, xt_c, -splice_eq, -stR_cells, stR_box, stR_boxA, stR_row, stR_row0, stR_row1, stR_rowA, stR_rowA0, splice_rowv, splice_rowv0, splice_rowv1, splice_z, splice_n, splice_s, nth_rowv, nth_rowv0, nth_rowv1, rowv_len, h0, hml, hs, hw2, hs2, bo_add_btx, hn1, bts_size, bts_list, hn2, htl, hdl, hlt, M1.blk, M2.blk, M3.blk]
      exact hQ _ ⟨l.take m ++ n.toList ++ l.drop (m + 1), p + 1 + 1 + 1, by simp, by simp only [List.length_append]; omega, by omega, R3, ((N2.dw').al _).tr M3⟩
    · simp (maxSteps := 1000000) (disch := first | assumption | omega | (simp only [World.size_alloc, size_setRow, dw_size]; done) | (simp only [World.size_alloc, size_setRow, dw_size] <;> omega) | (simp only [List.length_set, Array.length_toList, List.length_cons, List.length_nil, List.length_append, bts_size] <;> omega) | (simp only [List.all_cons, List.all_nil, Value.oneCell', Bool.and_self, Bool.and_true]; done)) [-Option.bind_some, hp_alloc_lt, hp_alloc_eq, hp_set_ne, wrap_small, ups_ap_cons, ups_ap_nil, upd_same, upd_other, env0_ap0, env0_aps, xt_a, xt_b, xt_c, -splice_eq, -stR_cells, stR_box, stR_boxA, stR_row, stR_row0, stR_row1, stR_rowA, stR_rowA0, splice_rowv, splice_rowv0, splice_rowv1, splice_z, splice_n, splice_s, nth_rowv, nth_rowv0, nth_rowv1, rowv_len, h0, hml, spec_l20Bent_j1_eq, hlt, M1.blk, M2.blk]
      exact hQ _ ⟨l, p + 1 + 1, rfl, by omega, by omega, R2, N2⟩
end Go.Proofs.YtgdacclgooaodaaGreatDoor.X
