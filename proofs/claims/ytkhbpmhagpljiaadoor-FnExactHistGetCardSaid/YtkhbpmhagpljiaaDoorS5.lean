/- A part of the proof: an evaluator of the model, its laws, and contracts of functions; no condition. -/
import Derived.Test.YtkhbpmhagpljiaaDoorEvJ
import Derived.Test.YtkhbpmhagpljiaaDoorC10
set_option linter.unusedVariables false
set_option linter.unusedSimpArgs false
set_option maxRecDepth 100000
set_option maxHeartbeats 1000000
namespace Go.Proofs.YtkhbpmhagpljiaaDoor.X
open Go Go.Ev Go.RowKit
theorem At.new {w : World} {cs : List Value} {E : TypeId} : At (w.alloc (.cells cs.toArray E)) w.heap.size 0 cs := by
  intro j v hv
  rw [hp_alloc_eq rfl, cellO_some, ← nth_eq, Nat.zero_add]
  simpa using hv
end Go.Proofs.YtkhbpmhagpljiaaDoor.X
set_option linter.unusedVariables false
set_option linter.unusedSimpArgs false
set_option maxRecDepth 100000
set_option maxHeartbeats 1000000
namespace Go.Proofs.YtkhbpmhagpljiaaDoor.X
open Go Go.Ev Go.RowKit
def verZ : Ver := ⟨0, ⟨0, 0⟩, [], ⟨#[]⟩, false⟩
end Go.Proofs.YtkhbpmhagpljiaaDoor.X
set_option linter.unusedVariables false
set_option linter.unusedSimpArgs false
set_option maxRecDepth 100000
set_option maxHeartbeats 1000000
namespace Go.Proofs.YtkhbpmhagpljiaaDoor.X
open Go Go.Ev Go.RowKit
theorem cv_at {x : Int} {b c : Nat} {e : TypeId} {w : World} (h : hp w b = some (.cells #[.int .u8 x] e (0, 0))) : cv P 44 9 (.slice (some ⟨b, 0, none⟩) 1 c) w = some (.string (bts [UInt8.ofNat x.toNat]), w) := by
  rw [← bytesOf_bts]
  exact cv_bytes (e := 5) (ns := [x]) (by kernel_rfl) (by kernel_rfl) (by kernel_rfl) (fun j v hv => by
    rw [h, cellO_some, ← nth_eq, Nat.zero_add]
    exact hv)
theorem spec_l1Dec_m (n : Nat) (hn : n ≤ 4611686018427387904) : ∀ w : World, Ret (EV P 32 #[i64 n] w) fun r => r.1 = .string (bts (decL n)) ∧ Ext w r.2 := by
  induction n using Nat.strongRecOn with
  | _ n ih =>
    intro w
    have hd := decL_len n
    refine Ret.post fun Q hQ => ?_
    by_cases h : n < 10
    · refine Ret.enter plain mixed (spec_l1Dec_fn _ _) (by kernel_rfl) (n := 1) (by kernel_rfl) rfl ?_
      have h8 : IntKind.u8.wrap (48 + (n : Int)) = 48 + n := u8_small (by omega) (by omega)
      have ht : UInt8.ofNat (48 + (n : Int)).toNat = dg n := by unfold dg; congr 1
      simp (maxSteps := 1000000) (disch := first | assumption | omega | (simp only [World.size_alloc, size_setRow, dw_size]; done) | (simp only [World.size_alloc, size_setRow, dw_size] <;> omega) | (simp only [List.length_set, Array.length_toList, List.length_cons, List.length_nil, List.length_append, bts_size] <;> omega) | (simp only [List.all_cons, List.all_nil, Value.oneCell', Bool.and_self, Bool.and_true]; done)) [-Option.bind_some, hp_alloc_lt, hp_alloc_eq, hp_set_ne, wrap_small, ups_ap_cons, ups_ap_nil, upd_same, upd_other, env0_ap0, env0_aps, xt_a, xt_b, xt_c, nk_ptr, -splice_eq, -stR_cells, stR_box, stR_boxA, stR_row, stR_row0, stR_row1, stR_rowA, stR_rowA0, splice_rowv, splice_rowv0, splice_rowv1, splice_z, splice_n, splice_s, nth_rowv, nth_rowv0, nth_rowv1, rowv_len, show ¬ (n : Int) < -9223372036854775807 by omega, show ¬ (n : Int) < 0 by omega, show (n : Int) < 10 by omega, h8]
      have hc := cv_at (x := 48 + (n : Int)) (b := w.heap.size) (c := 1) (e := 5) (w := w.alloc (.cells #[.int .u8 (48 + (n : Int))] 5)) (hp_alloc_eq rfl)
      rw [ht, ← decL_lt h] at hc
      simp (maxSteps := 1000000) (disch := first | assumption | omega | (simp only [World.size_alloc, size_setRow, dw_size]; done) | (simp only [World.size_alloc, size_setRow, dw_size] <;> omega) | (simp only [List.length_set, Array.length_toList, List.length_cons, List.length_nil, List.length_append, bts_size] <;> omega) | (simp only [List.all_cons, List.all_nil, Value.oneCell', Bool.and_self, Bool.and_true]; done)) [-Option.bind_some, hp_alloc_lt, hp_alloc_eq, hp_set_ne, wrap_small, ups_ap_cons, ups_ap_nil, upd_same, upd_other, env0_ap0, env0_aps, xt_a, xt_b, xt_c, nk_ptr, -splice_eq, -stR_cells, stR_box, stR_boxA, stR_row, stR_row0, stR_row1, stR_rowA, stR_rowA0, splice_rowv, splice_rowv0, splice_rowv1, splice_z, splice_n, splice_s, nth_rowv, nth_rowv0, nth_rowv1, rowv_len, hc]
      exact hQ _ ⟨rfl, by (repeat (first | exact Ext.rfl | assumption | (refine Ext.al ?_ _) | (refine Ext.dw ?_) | (refine Ext.set ?_ (by first | omega | (simp only [World.size_alloc, size_setRow, dw_size]; omega)) _) | (refine Ext.tr ?_ (by assumption))))⟩
    · have hq : (n : Int).tdiv 10 = ((n / 10 : Nat) : Int) := tdiv_nat n 10
      have hm : (n : Int).tmod 10 = ((n % 10 : Nat) : Int) := tmod_nat n 10
      have h8 : IntKind.u8.wrap (48 + ((n % 10 : Nat) : Int)) = 48 + ((n % 10 : Nat) : Int) := u8_small (by omega) (by omega)
      have ht : UInt8.ofNat (48 + ((n % 10 : Nat) : Int)).toNat = dg (n % 10) := by unfold dg; congr 1
      have hl := decL_len (n / 10)
      have hdg := decL_ge h
      have hih := ih (n / 10) (by omega) (by omega)
      have hm10 : n % 10 < 10 := Nat.mod_lt _ (by omega)
      have hqn : n / 10 ≤ n := Nat.div_le_self _ _
      generalize n / 10 = q at *
      generalize n % 10 = m at *
      refine Ret.enter plain mixed (spec_l1Dec_fn _ _) (by kernel_rfl) (n := 1) (by kernel_rfl) rfl ?_
      simp (maxSteps := 1000000) (disch := first | assumption | omega | (simp only [World.size_alloc, size_setRow, dw_size]; done) | (simp only [World.size_alloc, size_setRow, dw_size] <;> omega) | (simp only [List.length_set, Array.length_toList, List.length_cons, List.length_nil, List.length_append, bts_size] <;> omega) | (simp only [List.all_cons, List.all_nil, Value.oneCell', Bool.and_self, Bool.and_true]; done)) [-Option.bind_some, hp_alloc_lt, hp_alloc_eq, hp_set_ne, wrap_small, ups_ap_cons, ups_ap_nil, upd_same, upd_other, env0_ap0, env0_aps, xt_a, xt_b, xt_c, nk_ptr, -splice_eq, -stR_cells, stR_box, stR_boxA, stR_row, stR_row0, stR_row1, stR_rowA, stR_rowA0, splice_rowv, splice_rowv0, splice_rowv1, splice_z, splice_n, splice_s, nth_rowv, nth_rowv0, nth_rowv1, rowv_len, show ¬ (n : Int) < -9223372036854775807 by omega, show ¬ (n : Int) < 0 by omega, show ¬ (n : Int) < 10 by omega]
      refine spec_l1Dec_a1_any _ _ ?_
      simp (maxSteps := 1000000) (disch := first | assumption | omega | (simp only [World.size_alloc, size_setRow, dw_size]; done) | (simp only [World.size_alloc, size_setRow, dw_size] <;> omega) | (simp only [List.length_set, Array.length_toList, List.length_cons, List.length_nil, List.length_append, bts_size] <;> omega) | (simp only [List.all_cons, List.all_nil, Value.oneCell', Bool.and_self, Bool.and_true]; done)) [-Option.bind_some, hp_alloc_lt, hp_alloc_eq, hp_set_ne, wrap_small, ups_ap_cons, ups_ap_nil, upd_same, upd_other, env0_ap0, env0_aps, xt_a, xt_b, xt_c, nk_ptr, -splice_eq, -stR_cells, stR_box, stR_boxA, stR_row, stR_row0, stR_row1, stR_rowA, stR_rowA0, splice_rowv, splice_rowv0, splice_rowv1, splice_z, splice_n, splice_s, nth_rowv, nth_rowv0, nth_rowv1, rowv_len, bo_quo, bo_rem, hq, hm, h8]
      constructor
      · refine Ret.mono (hih _) ?_
        rintro ⟨_, w1⟩ ⟨rfl, E1⟩
        try dsimp only at E1
        have zE1 := E1.size
        try simp only [World.size_alloc, size_setRow, dw_size] at zE1
        simp (maxSteps := 1000000) (disch := first | assumption | omega | (simp only [World.size_alloc, size_setRow, dw_size]; done) | (simp only [World.size_alloc, size_setRow, dw_size] <;> omega) | (simp only [List.length_set, Array.length_toList, List.length_cons, List.length_nil, List.length_append, bts_size] <;> omega) | (simp only [List.all_cons, List.all_nil, Value.oneCell', Bool.and_self, Bool.and_true]; done)) [-Option.bind_some, hp_alloc_lt, hp_alloc_eq, hp_set_ne, wrap_small, ups_ap_cons, ups_ap_nil, upd_same, upd_other, env0_ap0, env0_aps, xt_a, xt_b, xt_c, nk_ptr, -splice_eq, -stR_cells, stR_box, stR_boxA, stR_row, stR_row0, stR_row1, stR_rowA, stR_rowA0, splice_rowv, splice_rowv0, splice_rowv1, splice_z, splice_n, splice_s, nth_rowv, nth_rowv0, nth_rowv1, rowv_len, bo_quo, bo_rem, hq, hm, h8, E1.blk]
        have hc := cv_at (x := 48 + (m : Int)) (b := w1.heap.size) (c := 1) (e := 5) (w := w1.alloc (.cells #[.int .u8 (48 + (m : Int))] 5)) (hp_alloc_eq rfl)
        rw [ht] at hc
        simp (maxSteps := 1000000) (disch := first | assumption | omega | (simp only [World.size_alloc, size_setRow, dw_size]; done) | (simp only [World.size_alloc, size_setRow, dw_size] <;> omega) | (simp only [List.length_set, Array.length_toList, List.length_cons, List.length_nil, List.length_append, bts_size] <;> omega) | (simp only [List.all_cons, List.all_nil, Value.oneCell', Bool.and_self, Bool.and_true]; done)) [-Option.bind_some, hp_alloc_lt, hp_alloc_eq, hp_set_ne, wrap_small, ups_ap_cons, ups_ap_nil, upd_same, upd_other, env0_ap0, env0_aps, xt_a, xt_b, xt_c, nk_ptr, -splice_eq, -stR_cells, stR_box, stR_boxA, stR_row, stR_row0, stR_row1, stR_rowA, stR_rowA0, splice_rowv, splice_rowv0, splice_rowv1, splice_z, splice_n, splice_s, nth_rowv, nth_rowv0, nth_rowv1, rowv_len, hc, bo_add_btx, bts_list, bts_size, ← hdg, spec_l1Dec_j1_eq, E1.blk]
        exact hQ _ ⟨rfl, by (repeat (first | exact Ext.rfl | assumption | (refine Ext.al ?_ _) | (refine Ext.dw ?_) | (refine Ext.set ?_ (by first | omega | (simp only [World.size_alloc, size_setRow, dw_size]; omega)) _) | (refine Ext.tr ?_ (by assumption))))⟩
      · have hc0 : ∀ w' : World, hp w' w.heap.size = some (.cells #[.int .u8 (48 + (m : Int))] 5 (0, 0)) → cv P 44 9 (.slice (some ⟨w.heap.size, 0, none⟩) 1 1) w' = some (.string (bts [dg m]), w') := by
          intro w' hx
          have := cv_at (x := 48 + (m : Int)) (c := 1) hx
          rwa [ht] at this
        have hc := hc0 ((dw w).alloc (.cells #[.int .u8 (48 + (m : Int))] 5)) (hp_alloc_eq rfl)
        simp (maxSteps := 1000000) (disch := first | assumption | omega | (simp only [World.size_alloc, size_setRow, dw_size]; done) | (simp only [World.size_alloc, size_setRow, dw_size] <;> omega) | (simp only [List.length_set, Array.length_toList, List.length_cons, List.length_nil, List.length_append, bts_size] <;> omega) | (simp only [List.all_cons, List.all_nil, Value.oneCell', Bool.and_self, Bool.and_true]; done)) [-Option.bind_some, hp_alloc_lt, hp_alloc_eq, hp_set_ne, wrap_small, ups_ap_cons, ups_ap_nil, upd_same, upd_other, env0_ap0, env0_aps, xt_a, xt_b, xt_c, nk_ptr, -splice_eq, -stR_cells, stR_box, stR_boxA, stR_row, stR_row0, stR_row1, stR_rowA, stR_rowA0, splice_rowv, splice_rowv0, splice_rowv1, splice_z, splice_n, splice_s, nth_rowv, nth_rowv0, nth_rowv1, rowv_len, bo_quo, bo_rem, hq, hm, h8, hc]
        refine Ret.mono (hih _) ?_
        rintro ⟨_, w1⟩ ⟨rfl, E1⟩
        try dsimp only at E1
        have zE1 := E1.size
        try simp only [World.size_alloc, size_setRow, dw_size] at zE1
        have hc1 := hc0 w1 (by first | assumption | rfl | (simp (maxSteps := 1000000) (disch := first | assumption | omega | (simp only [World.size_alloc, size_setRow, dw_size]; done) | (simp only [World.size_alloc, size_setRow, dw_size] <;> omega) | (simp only [List.length_set, Array.length_toList, List.length_cons, List.length_nil, List.length_append, bts_size] <;> omega) | (simp only [List.all_cons, List.all_nil, Value.oneCell', Bool.and_self, Bool.and_true]; done)) [-Option.bind_some, hp_alloc_lt, hp_alloc_eq, hp_set_ne, wrap_small, ups_ap_cons, ups_ap_nil, upd_same, upd_other, env0_ap0, env0_aps, xt_a, xt_b, xt_c, nk_ptr, -splice_eq, -stR_cells, stR_box, stR_boxA, stR_row, stR_row0, stR_row1, stR_rowA, stR_rowA0, splice_rowv, splice_rowv0, splice_rowv1, splice_z, splice_n, splice_s, nth_rowv, nth_rowv0, nth_rowv1, rowv_len, E1.blk]; done))
        simp (maxSteps := 1000000) (disch := first | assumption | omega | (simp only [World.size_alloc, size_setRow, dw_size]; done) | (simp only [World.size_alloc, size_setRow, dw_size] <;> omega) | (simp only [List.length_set, Array.length_toList, List.length_cons, List.length_nil, List.length_append, bts_size] <;> omega) | (simp only [List.all_cons, List.all_nil, Value.oneCell', Bool.and_self, Bool.and_true]; done)) [-Option.bind_some, hp_alloc_lt, hp_alloc_eq, hp_set_ne, wrap_small, ups_ap_cons, ups_ap_nil, upd_same, upd_other, env0_ap0, env0_aps, xt_a, xt_b, xt_c, nk_ptr, -splice_eq, -stR_cells, stR_box, stR_boxA, stR_row, stR_row0, stR_row1, stR_rowA, stR_rowA0, splice_rowv, splice_rowv0, splice_rowv1, splice_z, splice_n, splice_s, nth_rowv, nth_rowv0, nth_rowv1, rowv_len, bo_quo, bo_rem, hq, hm, h8, hc1, bo_add_btx, bts_list, bts_size, ← hdg, spec_l1Dec_j1_eq, E1.blk]
        exact hQ _ ⟨rfl, by (repeat (first | exact Ext.rfl | assumption | (refine Ext.al ?_ _) | (refine Ext.dw ?_) | (refine Ext.set ?_ (by first | omega | (simp only [World.size_alloc, size_setRow, dw_size]; omega)) _) | (refine Ext.tr ?_ (by assumption))))⟩
end Go.Proofs.YtkhbpmhagpljiaaDoor.X
set_option linter.unusedVariables false
set_option linter.unusedSimpArgs false
set_option maxRecDepth 100000
set_option maxHeartbeats 1000000
namespace Go.Proofs.YtkhbpmhagpljiaaDoor.X
open Go Go.Ev Go.RowKit
theorem tagOk_rng {t : Tag} (h : tagOk t = true) : (0 ≤ t.t ∧ t.t ≤ 999) ∧ (0 ≤ t.p ∧ t.p ≤ 2) := by
  simp only [tagOk, Bool.or_eq_true, Bool.and_eq_true, beq_iff_eq, decide_eq_true_eq] at h
  omega
theorem tagL_len {t : Tag} (h : tagOk t = true) : (tagL t).length ≤ 2000 := by
  have := tagOk_rng h
  have h1 := decL_len t.t.toNat
  have h2 := decL_len t.p.toNat
  simp only [tagL, List.length_append, List.length_cons]
  omega
theorem spec_l1Put_m {t : Tag} (ht : tagOk t = true) (w : World) : Ret (EV P 33 #[t.v] w) fun r => r.1 = .string (bts (tagL t)) ∧ Ext w r.2 := by
  have hr := tagOk_rng ht
  obtain ⟨a, ha⟩ : ∃ a : Nat, t.t = a := ⟨t.t.toNat, by omega⟩
  obtain ⟨b, hb⟩ : ∃ b : Nat, t.p = b := ⟨t.p.toNat, by omega⟩
  have h1 := decL_len a
  have h2 := decL_len b
  have e : tagL t = decL a ++ [46] ++ decL b := by rw [tagL, ha, hb]; simp
  rw [e]
  refine Ret.post fun Q hQ => ?_
  refine Ret.enter plain mixed (spec_l1Put_fn _ _) (by kernel_rfl) (n := 1) (by kernel_rfl) rfl ?_
  simp (maxSteps := 1000000) (disch := first | assumption | omega | (simp only [World.size_alloc, size_setRow, dw_size]; done) | (simp only [World.size_alloc, size_setRow, dw_size] <;> omega) | (simp only [List.length_set, Array.length_toList, List.length_cons, List.length_nil, List.length_append, bts_size] <;> omega) | (simp only [List.all_cons, List.all_nil, Value.oneCell', Bool.and_self, Bool.and_true]; done)) [-Option.bind_some, hp_alloc_lt, hp_alloc_eq, hp_set_ne, wrap_small, ups_ap_cons, ups_ap_nil, upd_same, upd_other, env0_ap0, env0_aps, xt_a, xt_b, xt_c, nk_ptr, -splice_eq, -stR_cells, stR_box, stR_boxA, stR_row, stR_row0, stR_row1, stR_rowA, stR_rowA0, splice_rowv, splice_rowv0, splice_rowv1, splice_z, splice_n, splice_s, nth_rowv, nth_rowv0, nth_rowv1, rowv_len, ha, hb]
  refine Ret.bind (spec_l1Dec_m a (by omega) _) ?_
  rintro ⟨_, w1⟩ ⟨rfl, E1⟩
  try dsimp only at E1
  have zE1 := E1.size
  try simp only [World.size_alloc, size_setRow, dw_size] at zE1
  simp (maxSteps := 1000000) (disch := first | assumption | omega | (simp only [World.size_alloc, size_setRow, dw_size]; done) | (simp only [World.size_alloc, size_setRow, dw_size] <;> omega) | (simp only [List.length_set, Array.length_toList, List.length_cons, List.length_nil, List.length_append, bts_size] <;> omega) | (simp only [List.all_cons, List.all_nil, Value.oneCell', Bool.and_self, Bool.and_true]; done)) [-Option.bind_some, hp_alloc_lt, hp_alloc_eq, hp_set_ne, wrap_small, ups_ap_cons, ups_ap_nil, upd_same, upd_other, env0_ap0, env0_aps, xt_a, xt_b, xt_c, nk_ptr, -splice_eq, -stR_cells, stR_box, stR_boxA, stR_row, stR_row0, stR_row1, stR_rowA, stR_rowA0, splice_rowv, splice_rowv0, splice_rowv1, splice_z, splice_n, splice_s, nth_rowv, nth_rowv0, nth_rowv1, rowv_len, mk_bts, bo_add_btx, bts_list, E1.blk]
  refine Ret.bind (spec_l1Dec_m b (by omega) _) ?_
  rintro ⟨_, w2⟩ ⟨rfl, E2⟩
  try dsimp only at E2
  have zE2 := E2.size
  try simp only [World.size_alloc, size_setRow, dw_size] at zE2
  simp (maxSteps := 1000000) (disch := first | assumption | omega | (simp only [World.size_alloc, size_setRow, dw_size]; done) | (simp only [World.size_alloc, size_setRow, dw_size] <;> omega) | (simp only [List.length_set, Array.length_toList, List.length_cons, List.length_nil, List.length_append, bts_size] <;> omega) | (simp only [List.all_cons, List.all_nil, Value.oneCell', Bool.and_self, Bool.and_true]; done)) [-Option.bind_some, hp_alloc_lt, hp_alloc_eq, hp_set_ne, wrap_small, ups_ap_cons, ups_ap_nil, upd_same, upd_other, env0_ap0, env0_aps, xt_a, xt_b, xt_c, nk_ptr, -splice_eq, -stR_cells, stR_box, stR_boxA, stR_row, stR_row0, stR_row1, stR_rowA, stR_rowA0, splice_rowv, splice_rowv0, splice_rowv1, splice_z, splice_n, splice_s, nth_rowv, nth_rowv0, nth_rowv1, rowv_len, mk_bts, bo_add_btx, bts_list, E1.blk, E2.blk]
  exact hQ _ ⟨by simp, by (repeat (first | exact Ext.rfl | assumption | (refine Ext.al ?_ _) | (refine Ext.dw ?_) | (refine Ext.set ?_ (by first | omega | (simp only [World.size_alloc, size_setRow, dw_size]; omega)) _) | (refine Ext.tr ?_ (by assumption))))⟩
end Go.Proofs.YtkhbpmhagpljiaaDoor.X
