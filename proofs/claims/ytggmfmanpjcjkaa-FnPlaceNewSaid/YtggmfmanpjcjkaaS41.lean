/- A part of the proof: an evaluator of the model, its laws, and contracts of functions; no condition. -/
import Derived.Test.YtggmfmanpjcjkaaEvX
import Derived.Test.YtggmfmanpjcjkaaEvO
import Derived.Test.YtggmfmanpjcjkaaS19
set_option linter.unusedVariables false
set_option linter.unusedSimpArgs false
set_option maxRecDepth 100000
set_option maxHeartbeats 1000000
namespace Go.Proofs.Ytggmfmanpjcjkaa.X
open Go Go.Ev Go.RowKit
abbrev tVerSS : Lay (List (List Ver)) := LVerSS 76 78 22
abbrev tPlace : Lay PlaceD := LPlace 76 78 73 22
end Go.Proofs.Ytggmfmanpjcjkaa.X
set_option linter.unusedVariables false
set_option linter.unusedSimpArgs false
set_option maxRecDepth 100000
set_option maxHeartbeats 1000000
namespace Go.Proofs.Ytggmfmanpjcjkaa.X
open Go Go.Ev Go.RowKit
def placeZ : PlaceD := ⟨0, 0, [], [], [], false⟩
def placeNewB (me nodes : Int) : Bool := (decide (0 ≤ me) && decide (me ≤ 2)) && (decide (1 ≤ nodes) && decide (nodes ≤ 4))
def placeNewP (me nodes : Int) : PlaceD := if placeNewB me nodes then ⟨me, 0, chainNewP nodes, [], List.replicate 3 [], false⟩ else placeZ
theorem placeZ_O (w : World) : O tPlace (fun _ => False) w [i64 0, i64 0, .slice none 0 0, .slice none 0 0, .slice none 0 0, .bool false] placeZ :=
  (O.place_mk (p := placeZ) (S1 := fun _ => False) (S2 := fun _ => False) (S3 := fun _ => False) O.nil O.nil O.nil (fun _ _ h => h.elim) (fun _ _ h => h.elim) (fun _ _ h => h.elim)).wide fun b h _ => h.elim id fun h => h.elim id id
theorem spec_l4New_r {me nodes : Int} {g : Nat} {e : Env} {w : World} (hb : placeNewB me nodes = true) (e0 : e 0 = i64 me) (e1 : e 1 = i64 nodes) (e4 : e 4 = pt g 0) (X1 : hp w g = some (.cells #[i64 0, i64 0, .slice none 0 0, .slice none 0 0, .slice none 0 0, .bool false] 34 (0, 0))) :
    Ret (spec_l4New_a1 e w) fun r => ∃ ds, r.1 = .agg ds.toArray ∧ O tPlace (In w.heap.size r.2.heap.size) r.2 ds (placeNewP me nodes) ∧ Mod (fun b => b = g) w r.2 := by
  have ep : placeNewP me nodes = ⟨me, 0, chainNewP nodes, [], List.replicate 3 [], false⟩ := by rw [placeNewP, if_pos hb]
  have y1 := hp_lt X1
  rw [ep]
  refine Ret.post fun Q hQ => ?_
  refine spec_l4New_a1_any _ _ ?_
  simp (maxSteps := 1000000) (disch := first | assumption | omega | (simp only [World.size_alloc, size_setRow, dw_size]; done) | (simp only [World.size_alloc, size_setRow, dw_size] <;> omega) | (simp only [List.length_set, Array.length_toList, List.length_cons, List.length_nil, List.length_append, bts_size] <;> omega) | (simp only [List.all_cons, List.all_nil, Value.oneCell', Bool.and_self, Bool.and_true]; done)) [-Option.bind_some, hp_alloc_lt, hp_alloc_eq, hp_set_ne, wrap_small, ups_ap_cons, ups_ap_nil, upd_same, upd_other, env0_ap0, env0_aps, xt_a, xt_b, xt_c, -splice_eq, -stR_cells, stR_box, stR_boxA, stR_row, stR_row0, stR_row1, stR_rowA, stR_rowA0, splice_rowv, splice_rowv0, splice_rowv1, splice_z, splice_n, splice_s, nth_rowv, nth_rowv0, nth_rowv1, rowv_len, e0, e1, e4, X1]
  constructor
  · skip
    refine Ret.mono (spec_ChainNew_n nodes) ?_
    rintro ⟨_, w1⟩ ⟨a1, c1, rfl, o1, E1⟩
    try dsimp only at a1 c1 o1 E1
    have zE1 := E1.size
    try simp only [World.size_alloc, size_setRow, dw_size] at zE1
    simp (maxSteps := 1000000) (disch := first | assumption | omega | (simp only [World.size_alloc, size_setRow, dw_size]; done) | (simp only [World.size_alloc, size_setRow, dw_size] <;> omega) | (simp only [List.length_set, Array.length_toList, List.length_cons, List.length_nil, List.length_append, bts_size] <;> omega) | (simp only [List.all_cons, List.all_nil, Value.oneCell', Bool.and_self, Bool.and_true]; done)) [-Option.bind_some, hp_alloc_lt, hp_alloc_eq, hp_set_ne, wrap_small, ups_ap_cons, ups_ap_nil, upd_same, upd_other, env0_ap0, env0_aps, xt_a, xt_b, xt_c, -splice_eq, -stR_cells, stR_box, stR_boxA, stR_row, stR_row0, stR_row1, stR_rowA, stR_rowA0, splice_rowv, splice_rowv0, splice_rowv1, splice_z, splice_n, splice_s, nth_rowv, nth_rowv0, nth_rowv1, rowv_len, e0, e1, e4, X1, E1.blk]
    refine Ret.mono (O.make (L := tVers) (mx := 5864062014805) (n := 3) (x0 := ([] : List Ver)) el_32 zz_22 rfl (by decide) (fun w => O.nil) (by decide) (by decide) (by decide)) ?_
    rintro ⟨_, w2⟩ ⟨rfl, o2, z2, E2⟩
    have zE2 := E2.size
    try simp only [World.size_alloc, size_setRow, dw_size] at zE2
    try dsimp only at o2 z2 E2
    have Y1 : hp w2 g = hp w g := (E2.blk (by omega)).trans ((E1.blk (by simp only [dw_size]; omega)).trans (hp_dw _ _))
    simp (maxSteps := 1000000) (disch := first | assumption | omega | (simp only [World.size_alloc, size_setRow, dw_size]; done) | (simp only [World.size_alloc, size_setRow, dw_size] <;> omega) | (simp only [List.length_set, Array.length_toList, List.length_cons, List.length_nil, List.length_append, bts_size] <;> omega) | (simp only [List.all_cons, List.all_nil, Value.oneCell', Bool.and_self, Bool.and_true]; done)) [-Option.bind_some, hp_alloc_lt, hp_alloc_eq, hp_set_ne, wrap_small, ups_ap_cons, ups_ap_nil, upd_same, upd_other, env0_ap0, env0_aps, xt_a, xt_b, xt_c, -splice_eq, -stR_cells, stR_box, stR_boxA, stR_row, stR_row0, stR_row1, stR_rowA, stR_rowA0, splice_rowv, splice_rowv0, splice_rowv1, splice_z, splice_n, splice_s, nth_rowv, nth_rowv0, nth_rowv1, rowv_len, e0, e1, e4, Y1, X1, spec_l4New_j1_eq, E1.blk, E2.blk]
    refine hQ _ ⟨[_, _, _, _, _, _], rfl, ((O.place_mk (p := ⟨me, 0, chainNewP nodes, [], List.replicate 3 [], false⟩) (S2 := fun _ => False) (o1.keep (fun b hS hb => (hp_set_ne (by simp only [In, dw_size] at hS; omega)).trans (E2.blk hb))) O.nil (o2.keep (fun b hS hb => hp_set_ne (by omega))) (fun _ _ _ h => h) (fun b _ h h' => by simp only [In] at h; omega) (fun _ _ h => h.elim))).wide ?_, (Mod.of (show Ext w w2 from ((dw_ext w).tr E1).tr E2) (fun b => b = g)).set' (.inr rfl) _⟩
    rintro b (h | h | h) hb
    · simp only [In, size_setRow, dw_size] at *
      omega
    · exact h.elim
    · simp only [In, size_setRow, dw_size] at *
      omega
  · skip
    refine Ret.mono (O.make (L := tVers) (mx := 5864062014805) (n := 3) (x0 := ([] : List Ver)) el_32 zz_22 rfl (by decide) (fun w => O.nil) (by decide) (by decide) (by decide)) ?_
    rintro ⟨_, w2⟩ ⟨rfl, o2, z2, E2⟩
    have zE2 := E2.size
    try simp only [World.size_alloc, size_setRow, dw_size] at zE2
    try dsimp only at o2 z2 E2
    rw [dw_size] at z2
    simp (maxSteps := 1000000) (disch := first | assumption | omega | (simp only [World.size_alloc, size_setRow, dw_size]; done) | (simp only [World.size_alloc, size_setRow, dw_size] <;> omega) | (simp only [List.length_set, Array.length_toList, List.length_cons, List.length_nil, List.length_append, bts_size] <;> omega) | (simp only [List.all_cons, List.all_nil, Value.oneCell', Bool.and_self, Bool.and_true]; done)) [-Option.bind_some, hp_alloc_lt, hp_alloc_eq, hp_set_ne, wrap_small, ups_ap_cons, ups_ap_nil, upd_same, upd_other, env0_ap0, env0_aps, xt_a, xt_b, xt_c, -splice_eq, -stR_cells, stR_box, stR_boxA, stR_row, stR_row0, stR_row1, stR_rowA, stR_rowA0, splice_rowv, splice_rowv0, splice_rowv1, splice_z, splice_n, splice_s, nth_rowv, nth_rowv0, nth_rowv1, rowv_len, e0, e1, e4, X1, E2.blk]
    refine Ret.mono (spec_ChainNew_n nodes) ?_
    rintro ⟨_, w1⟩ ⟨a1, c1, rfl, o1, E1⟩
    try dsimp only at a1 c1 o1 E1
    have zE1 := E1.size
    try simp only [World.size_alloc, size_setRow, dw_size] at zE1
    have Y1 : hp w1 g = hp w g := (E1.blk (by omega)).trans ((E2.blk (by simp only [dw_size]; omega)).trans (hp_dw _ _))
    have zE1' := E1.size
    simp (maxSteps := 1000000) (disch := first | assumption | omega | (simp only [World.size_alloc, size_setRow, dw_size]; done) | (simp only [World.size_alloc, size_setRow, dw_size] <;> omega) | (simp only [List.length_set, Array.length_toList, List.length_cons, List.length_nil, List.length_append, bts_size] <;> omega) | (simp only [List.all_cons, List.all_nil, Value.oneCell', Bool.and_self, Bool.and_true]; done)) [-Option.bind_some, hp_alloc_lt, hp_alloc_eq, hp_set_ne, wrap_small, ups_ap_cons, ups_ap_nil, upd_same, upd_other, env0_ap0, env0_aps, xt_a, xt_b, xt_c, -splice_eq, -stR_cells, stR_box, stR_boxA, stR_row, stR_row0, stR_row1, stR_rowA, stR_rowA0, splice_rowv, splice_rowv0, splice_rowv1, splice_z, splice_n, splice_s, nth_rowv, nth_rowv0, nth_rowv1, rowv_len, e0, e1, e4, Y1, X1, spec_l4New_j1_eq, E2.blk, E1.blk]
    refine hQ _ ⟨[_, _, _, _, _, _], rfl, ((O.place_mk (p := ⟨me, 0, chainNewP nodes, [], List.replicate 3 [], false⟩) (S2 := fun _ => False) (o1.keep (fun b hS hb => hp_set_ne (by simp only [In] at hS; omega))) O.nil (o2.keep (fun b hS hb => (hp_set_ne (by rw [dw_size] at hS; omega)).trans (E1.blk hb))) (fun _ _ _ h => h) (fun b _ h h' => by rw [dw_size] at h'; simp only [In] at h; omega) (fun _ _ h => h.elim))).wide ?_, (Mod.of (show Ext w w1 from (dw_ext w).tr (E2.tr E1)) (fun b => b = g)).set' (.inr rfl) _⟩
    rintro b (h | h | h) hb
    · simp only [In, size_setRow, dw_size] at *
      omega
    · exact h.elim
    · simp only [In, size_setRow, dw_size] at *
      omega
theorem impl_PlaceNew_r {me nodes : Int} {g : Nat} {e : Env} {w : World} (hb : placeNewB me nodes = true) (e0 : e 0 = i64 me) (e1 : e 1 = i64 nodes) (e4 : e 4 = pt g 0) (X1 : hp w g = some (.cells #[i64 0, i64 0, .slice none 0 0, .slice none 0 0, .slice none 0 0, .bool false] 34 (0, 0))) :
    Ret (impl_PlaceNew_a1 e w) fun r => ∃ ds, r.1 = .agg ds.toArray ∧ O tPlace (In w.heap.size r.2.heap.size) r.2 ds (placeNewP me nodes) ∧ Mod (fun b => b = g) w r.2 := by
  have ep : placeNewP me nodes = ⟨me, 0, chainNewP nodes, [], List.replicate 3 [], false⟩ := by rw [placeNewP, if_pos hb]
  have y1 := hp_lt X1
  rw [ep]
  refine Ret.post fun Q hQ => ?_
  refine impl_PlaceNew_a1_any _ _ ?_
  simp (maxSteps := 1000000) (disch := first | assumption | omega | (simp only [World.size_alloc, size_setRow, dw_size]; done) | (simp only [World.size_alloc, size_setRow, dw_size] <;> omega) | (simp only [List.length_set, Array.length_toList, List.length_cons, List.length_nil, List.length_append, bts_size] <;> omega) | (simp only [List.all_cons, List.all_nil, Value.oneCell', Bool.and_self, Bool.and_true]; done)) [-Option.bind_some, hp_alloc_lt, hp_alloc_eq, hp_set_ne, wrap_small, ups_ap_cons, ups_ap_nil, upd_same, upd_other, env0_ap0, env0_aps, xt_a, xt_b, xt_c, -splice_eq, -stR_cells, stR_box, stR_boxA, stR_row, stR_row0, stR_row1, stR_rowA, stR_rowA0, splice_rowv, splice_rowv0, splice_rowv1, splice_z, splice_n, splice_s, nth_rowv, nth_rowv0, nth_rowv1, rowv_len, e0, e1, e4, X1]
  constructor
  · skip
    refine Ret.mono (impl_ChainNew_n nodes) ?_
    rintro ⟨_, w1⟩ ⟨a1, c1, rfl, o1, E1⟩
    try dsimp only at a1 c1 o1 E1
    have zE1 := E1.size
    try simp only [World.size_alloc, size_setRow, dw_size] at zE1
    simp (maxSteps := 1000000) (disch := first | assumption | omega | (simp only [World.size_alloc, size_setRow, dw_size]; done) | (simp only [World.size_alloc, size_setRow, dw_size] <;> omega) | (simp only [List.length_set, Array.length_toList, List.length_cons, List.length_nil, List.length_append, bts_size] <;> omega) | (simp only [List.all_cons, List.all_nil, Value.oneCell', Bool.and_self, Bool.and_true]; done)) [-Option.bind_some, hp_alloc_lt, hp_alloc_eq, hp_set_ne, wrap_small, ups_ap_cons, ups_ap_nil, upd_same, upd_other, env0_ap0, env0_aps, xt_a, xt_b, xt_c, -splice_eq, -stR_cells, stR_box, stR_boxA, stR_row, stR_row0, stR_row1, stR_rowA, stR_rowA0, splice_rowv, splice_rowv0, splice_rowv1, splice_z, splice_n, splice_s, nth_rowv, nth_rowv0, nth_rowv1, rowv_len, e0, e1, e4, X1, E1.blk]
    refine Ret.mono (O.make (L := tVers) (mx := 5864062014805) (n := 3) (x0 := ([] : List Ver)) el_32 zz_22 rfl (by decide) (fun w => O.nil) (by decide) (by decide) (by decide)) ?_
    rintro ⟨_, w2⟩ ⟨rfl, o2, z2, E2⟩
    have zE2 := E2.size
    try simp only [World.size_alloc, size_setRow, dw_size] at zE2
    try dsimp only at o2 z2 E2
    have Y1 : hp w2 g = hp w g := (E2.blk (by omega)).trans ((E1.blk (by simp only [dw_size]; omega)).trans (hp_dw _ _))
    simp (maxSteps := 1000000) (disch := first | assumption | omega | (simp only [World.size_alloc, size_setRow, dw_size]; done) | (simp only [World.size_alloc, size_setRow, dw_size] <;> omega) | (simp only [List.length_set, Array.length_toList, List.length_cons, List.length_nil, List.length_append, bts_size] <;> omega) | (simp only [List.all_cons, List.all_nil, Value.oneCell', Bool.and_self, Bool.and_true]; done)) [-Option.bind_some, hp_alloc_lt, hp_alloc_eq, hp_set_ne, wrap_small, ups_ap_cons, ups_ap_nil, upd_same, upd_other, env0_ap0, env0_aps, xt_a, xt_b, xt_c, -splice_eq, -stR_cells, stR_box, stR_boxA, stR_row, stR_row0, stR_row1, stR_rowA, stR_rowA0, splice_rowv, splice_rowv0, splice_rowv1, splice_z, splice_n, splice_s, nth_rowv, nth_rowv0, nth_rowv1, rowv_len, e0, e1, e4, Y1, X1, impl_PlaceNew_j1_eq, E1.blk, E2.blk]
    refine hQ _ ⟨[_, _, _, _, _, _], rfl, ((O.place_mk (p := ⟨me, 0, chainNewP nodes, [], List.replicate 3 [], false⟩) (S2 := fun _ => False) (o1.keep (fun b hS hb => (hp_set_ne (by simp only [In, dw_size] at hS; omega)).trans (E2.blk hb))) O.nil (o2.keep (fun b hS hb => hp_set_ne (by omega))) (fun _ _ _ h => h) (fun b _ h h' => by simp only [In] at h; omega) (fun _ _ h => h.elim))).wide ?_, (Mod.of (show Ext w w2 from ((dw_ext w).tr E1).tr E2) (fun b => b = g)).set' (.inr rfl) _⟩
    rintro b (h | h | h) hb
    · simp only [In, size_setRow, dw_size] at *
      omega
    · exact h.elim
    · simp only [In, size_setRow, dw_size] at *
      omega
  · skip
    refine Ret.mono (O.make (L := tVers) (mx := 5864062014805) (n := 3) (x0 := ([] : List Ver)) el_32 zz_22 rfl (by decide) (fun w => O.nil) (by decide) (by decide) (by decide)) ?_
    rintro ⟨_, w2⟩ ⟨rfl, o2, z2, E2⟩
    have zE2 := E2.size
    try simp only [World.size_alloc, size_setRow, dw_size] at zE2
    try dsimp only at o2 z2 E2
    rw [dw_size] at z2
    simp (maxSteps := 1000000) (disch := first | assumption | omega | (simp only [World.size_alloc, size_setRow, dw_size]; done) | (simp only [World.size_alloc, size_setRow, dw_size] <;> omega) | (simp only [List.length_set, Array.length_toList, List.length_cons, List.length_nil, List.length_append, bts_size] <;> omega) | (simp only [List.all_cons, List.all_nil, Value.oneCell', Bool.and_self, Bool.and_true]; done)) [-Option.bind_some, hp_alloc_lt, hp_alloc_eq, hp_set_ne, wrap_small, ups_ap_cons, ups_ap_nil, upd_same, upd_other, env0_ap0, env0_aps, xt_a, xt_b, xt_c, -splice_eq, -stR_cells, stR_box, stR_boxA, stR_row, stR_row0, stR_row1, stR_rowA, stR_rowA0, splice_rowv, splice_rowv0, splice_rowv1, splice_z, splice_n, splice_s, nth_rowv, nth_rowv0, nth_rowv1, rowv_len, e0, e1, e4, X1, E2.blk]
    refine Ret.mono (impl_ChainNew_n nodes) ?_
    rintro ⟨_, w1⟩ ⟨a1, c1, rfl, o1, E1⟩
    try dsimp only at a1 c1 o1 E1
    have zE1 := E1.size
    try simp only [World.size_alloc, size_setRow, dw_size] at zE1
    have Y1 : hp w1 g = hp w g := (E1.blk (by omega)).trans ((E2.blk (by simp only [dw_size]; omega)).trans (hp_dw _ _))
    have zE1' := E1.size
    simp (maxSteps := 1000000) (disch := first | assumption | omega | (simp only [World.size_alloc, size_setRow, dw_size]; done) | (simp only [World.size_alloc, size_setRow, dw_size] <;> omega) | (simp only [List.length_set, Array.length_toList, List.length_cons, List.length_nil, List.length_append, bts_size] <;> omega) | (simp only [List.all_cons, List.all_nil, Value.oneCell', Bool.and_self, Bool.and_true]; done)) [-Option.bind_some, hp_alloc_lt, hp_alloc_eq, hp_set_ne, wrap_small, ups_ap_cons, ups_ap_nil, upd_same, upd_other, env0_ap0, env0_aps, xt_a, xt_b, xt_c, -splice_eq, -stR_cells, stR_box, stR_boxA, stR_row, stR_row0, stR_row1, stR_rowA, stR_rowA0, splice_rowv, splice_rowv0, splice_rowv1, splice_z, splice_n, splice_s, nth_rowv, nth_rowv0, nth_rowv1, rowv_len, e0, e1, e4, Y1, X1, impl_PlaceNew_j1_eq, E2.blk, E1.blk]
    refine hQ _ ⟨[_, _, _, _, _, _], rfl, ((O.place_mk (p := ⟨me, 0, chainNewP nodes, [], List.replicate 3 [], false⟩) (S2 := fun _ => False) (o1.keep (fun b hS hb => hp_set_ne (by simp only [In] at hS; omega))) O.nil (o2.keep (fun b hS hb => (hp_set_ne (by rw [dw_size] at hS; omega)).trans (E1.blk hb))) (fun _ _ _ h => h) (fun b _ h h' => by rw [dw_size] at h'; simp only [In] at h; omega) (fun _ _ h => h.elim))).wide ?_, (Mod.of (show Ext w w1 from (dw_ext w).tr (E2.tr E1)) (fun b => b = g)).set' (.inr rfl) _⟩
    rintro b (h | h | h) hb
    · simp only [In, size_setRow, dw_size] at *
      omega
    · exact h.elim
    · simp only [In, size_setRow, dw_size] at *
      omega
theorem spec_l4New_n (me nodes : Int) (hb : placeNewB me nodes = true) {w : World} : Ret (EV P 30 #[i64 me, i64 nodes] w) fun r => ∃ ds, r.1 = .agg ds.toArray ∧ O tPlace (In w.heap.size r.2.heap.size) r.2 ds (placeNewP me nodes) ∧ Ext w r.2 := by
  refine Ret.post fun Q hQ => ?_
  refine Ret.enter plain mixed (spec_l4New_fn _ _ _) (by kernel_rfl) (n := 2) (by kernel_rfl) rfl ?_
  simp (maxSteps := 1000000) (disch := first | assumption | omega | (simp only [World.size_alloc, size_setRow, dw_size]; done) | (simp only [World.size_alloc, size_setRow, dw_size] <;> omega) | (simp only [List.length_set, Array.length_toList, List.length_cons, List.length_nil, List.length_append, bts_size] <;> omega) | (simp only [List.all_cons, List.all_nil, Value.oneCell', Bool.and_self, Bool.and_true]; done)) [-Option.bind_some, hp_alloc_lt, hp_alloc_eq, hp_set_ne, wrap_small, ups_ap_cons, ups_ap_nil, upd_same, upd_other, env0_ap0, env0_aps, xt_a, xt_b, xt_c, -splice_eq, -stR_cells, stR_box, stR_boxA, stR_row, stR_row0, stR_row1, stR_rowA, stR_rowA0, splice_rowv, splice_rowv0, splice_rowv1, splice_z, splice_n, splice_s, nth_rowv, nth_rowv0, nth_rowv1, rowv_len]
  refine Ret.mono (spec_l4New_r (g := w.heap.size) hb rfl rfl rfl (by first | assumption | rfl | (simp (maxSteps := 1000000) (disch := first | assumption | omega | (simp only [World.size_alloc, size_setRow, dw_size]; done) | (simp only [World.size_alloc, size_setRow, dw_size] <;> omega) | (simp only [List.length_set, Array.length_toList, List.length_cons, List.length_nil, List.length_append, bts_size] <;> omega) | (simp only [List.all_cons, List.all_nil, Value.oneCell', Bool.and_self, Bool.and_true]; done)) [-Option.bind_some, hp_alloc_lt, hp_alloc_eq, hp_set_ne, wrap_small, ups_ap_cons, ups_ap_nil, upd_same, upd_other, env0_ap0, env0_aps, xt_a, xt_b, xt_c, -splice_eq, -stR_cells, stR_box, stR_boxA, stR_row, stR_row0, stR_row1, stR_rowA, stR_rowA0, splice_rowv, splice_rowv0, splice_rowv1, splice_z, splice_n, splice_s, nth_rowv, nth_rowv0, nth_rowv1, rowv_len]; done))) ?_
  rintro r ⟨ds, h1, h2, h3⟩
  exact hQ _ ⟨ds, h1, h2.wide (fun b h _ => by simp only [In, World.size_alloc] at h; simp only [In]; omega), Mod.after (by (repeat (first | exact Ext.rfl | assumption | (refine Ext.al ?_ _) | (refine Ext.dw ?_) | (refine Ext.set ?_ (by first | omega | (simp only [World.size_alloc, size_setRow, dw_size]; omega)) _) | (refine Ext.tr ?_ (by assumption))))) h3 (fun b h1 h2 => by have h2 : b = w.heap.size := h2; omega)⟩
theorem spec_PlaceNew_n (me nodes : Int) {w : World} : Ret (EV P 12 #[i64 me, i64 nodes] w) fun r => ∃ ds, r.1 = .agg ds.toArray ∧ O tPlace (In w.heap.size r.2.heap.size) r.2 ds (placeNewP me nodes) ∧ Ext w r.2 := by
  refine Ret.post fun Q hQ => ?_
  have neg : placeNewB me nodes = false → placeNewP me nodes = placeZ := fun h => by rw [placeNewP, h]; rfl
  refine Ret.enter plain mixed (spec_PlaceNew_fn _ _ _) (by kernel_rfl) (n := 2) (by kernel_rfl) rfl ?_
  simp (maxSteps := 1000000) (disch := first | assumption | omega | (simp only [World.size_alloc, size_setRow, dw_size]; done) | (simp only [World.size_alloc, size_setRow, dw_size] <;> omega) | (simp only [List.length_set, Array.length_toList, List.length_cons, List.length_nil, List.length_append, bts_size] <;> omega) | (simp only [List.all_cons, List.all_nil, Value.oneCell', Bool.and_self, Bool.and_true]; done)) [-Option.bind_some, hp_alloc_lt, hp_alloc_eq, hp_set_ne, wrap_small, ups_ap_cons, ups_ap_nil, upd_same, upd_other, env0_ap0, env0_aps, xt_a, xt_b, xt_c, -splice_eq, -stR_cells, stR_box, stR_boxA, stR_row, stR_row0, stR_row1, stR_rowA, stR_rowA0, splice_rowv, splice_rowv0, splice_rowv1, splice_z, splice_n, splice_s, nth_rowv, nth_rowv0, nth_rowv1, rowv_len]
  refine Ret.bind (spec_l1In_c _ _ _ _) ?_
  rintro _ rfl
  cases h1 : (decide (0 ≤ me) && decide (me ≤ 2))
  · have hb : placeNewB me nodes = false := by rw [placeNewB, h1]; rfl
    rw [neg hb] at hQ
    simp (maxSteps := 1000000) (disch := first | assumption | omega | (simp only [World.size_alloc, size_setRow, dw_size]; done) | (simp only [World.size_alloc, size_setRow, dw_size] <;> omega) | (simp only [List.length_set, Array.length_toList, List.length_cons, List.length_nil, List.length_append, bts_size] <;> omega) | (simp only [List.all_cons, List.all_nil, Value.oneCell', Bool.and_self, Bool.and_true]; done)) [-Option.bind_some, hp_alloc_lt, hp_alloc_eq, hp_set_ne, wrap_small, ups_ap_cons, ups_ap_nil, upd_same, upd_other, env0_ap0, env0_aps, xt_a, xt_b, xt_c, -splice_eq, -stR_cells, stR_box, stR_boxA, stR_row, stR_row0, stR_row1, stR_rowA, stR_rowA0, splice_rowv, splice_rowv0, splice_rowv1, splice_z, splice_n, splice_s, nth_rowv, nth_rowv0, nth_rowv1, rowv_len]
    exact hQ _ ⟨[_, _, _, _, _, _], rfl, (placeZ_O _).wide fun b h _ => h.elim, by (repeat (first | exact Ext.rfl | assumption | (refine Ext.al ?_ _) | (refine Ext.dw ?_) | (refine Ext.set ?_ (by first | omega | (simp only [World.size_alloc, size_setRow, dw_size]; omega)) _) | (refine Ext.tr ?_ (by assumption))))⟩
  simp (maxSteps := 1000000) (disch := first | assumption | omega | (simp only [World.size_alloc, size_setRow, dw_size]; done) | (simp only [World.size_alloc, size_setRow, dw_size] <;> omega) | (simp only [List.length_set, Array.length_toList, List.length_cons, List.length_nil, List.length_append, bts_size] <;> omega) | (simp only [List.all_cons, List.all_nil, Value.oneCell', Bool.and_self, Bool.and_true]; done)) [-Option.bind_some, hp_alloc_lt, hp_alloc_eq, hp_set_ne, wrap_small, ups_ap_cons, ups_ap_nil, upd_same, upd_other, env0_ap0, env0_aps, xt_a, xt_b, xt_c, -splice_eq, -stR_cells, stR_box, stR_boxA, stR_row, stR_row0, stR_row1, stR_rowA, stR_rowA0, splice_rowv, splice_rowv0, splice_rowv1, splice_z, splice_n, splice_s, nth_rowv, nth_rowv0, nth_rowv1, rowv_len]
  refine Ret.bind (spec_l1In_c _ _ _ _) ?_
  rintro _ rfl
  cases h2 : (decide (1 ≤ nodes) && decide (nodes ≤ 4))
  · have hb : placeNewB me nodes = false := by rw [placeNewB, h2, Bool.and_false]
    rw [neg hb] at hQ
    simp (maxSteps := 1000000) (disch := first | assumption | omega | (simp only [World.size_alloc, size_setRow, dw_size]; done) | (simp only [World.size_alloc, size_setRow, dw_size] <;> omega) | (simp only [List.length_set, Array.length_toList, List.length_cons, List.length_nil, List.length_append, bts_size] <;> omega) | (simp only [List.all_cons, List.all_nil, Value.oneCell', Bool.and_self, Bool.and_true]; done)) [-Option.bind_some, hp_alloc_lt, hp_alloc_eq, hp_set_ne, wrap_small, ups_ap_cons, ups_ap_nil, upd_same, upd_other, env0_ap0, env0_aps, xt_a, xt_b, xt_c, -splice_eq, -stR_cells, stR_box, stR_boxA, stR_row, stR_row0, stR_row1, stR_rowA, stR_rowA0, splice_rowv, splice_rowv0, splice_rowv1, splice_z, splice_n, splice_s, nth_rowv, nth_rowv0, nth_rowv1, rowv_len]
    exact hQ _ ⟨[_, _, _, _, _, _], rfl, (placeZ_O _).wide fun b h _ => h.elim, by (repeat (first | exact Ext.rfl | assumption | (refine Ext.al ?_ _) | (refine Ext.dw ?_) | (refine Ext.set ?_ (by first | omega | (simp only [World.size_alloc, size_setRow, dw_size]; omega)) _) | (refine Ext.tr ?_ (by assumption))))⟩
  have hb : placeNewB me nodes = true := by rw [placeNewB, h1, h2]; rfl
  simp (maxSteps := 1000000) (disch := first | assumption | omega | (simp only [World.size_alloc, size_setRow, dw_size]; done) | (simp only [World.size_alloc, size_setRow, dw_size] <;> omega) | (simp only [List.length_set, Array.length_toList, List.length_cons, List.length_nil, List.length_append, bts_size] <;> omega) | (simp only [List.all_cons, List.all_nil, Value.oneCell', Bool.and_self, Bool.and_true]; done)) [-Option.bind_some, hp_alloc_lt, hp_alloc_eq, hp_set_ne, wrap_small, ups_ap_cons, ups_ap_nil, upd_same, upd_other, env0_ap0, env0_aps, xt_a, xt_b, xt_c, -splice_eq, -stR_cells, stR_box, stR_boxA, stR_row, stR_row0, stR_row1, stR_rowA, stR_rowA0, splice_rowv, splice_rowv0, splice_rowv1, splice_z, splice_n, splice_s, nth_rowv, nth_rowv0, nth_rowv1, rowv_len]
  refine Ret.bind (spec_l4New_n me nodes hb) ?_
  rintro ⟨_, w1⟩ ⟨ds, rfl, o1, E1⟩
  try dsimp only at ds o1 E1
  have zE1 := E1.size
  try simp only [World.size_alloc, size_setRow, dw_size] at zE1
  have zo := O.place_un o1
  obtain ⟨a1, c1, a2, c2, a3, c3, S1, S2, S3, rfl, _⟩ := zo
  have Y1 : hp w1 w.heap.size = _ := (E1.blk (by simp)).trans (by first | assumption | rfl | (simp (maxSteps := 1000000) (disch := first | assumption | omega | (simp only [World.size_alloc, size_setRow, dw_size]; done) | (simp only [World.size_alloc, size_setRow, dw_size] <;> omega) | (simp only [List.length_set, Array.length_toList, List.length_cons, List.length_nil, List.length_append, bts_size] <;> omega) | (simp only [List.all_cons, List.all_nil, Value.oneCell', Bool.and_self, Bool.and_true]; done)) [-Option.bind_some, hp_alloc_lt, hp_alloc_eq, hp_set_ne, wrap_small, ups_ap_cons, ups_ap_nil, upd_same, upd_other, env0_ap0, env0_aps, xt_a, xt_b, xt_c, -splice_eq, -stR_cells, stR_box, stR_boxA, stR_row, stR_row0, stR_row1, stR_rowA, stR_rowA0, splice_rowv, splice_rowv0, splice_rowv1, splice_z, splice_n, splice_s, nth_rowv, nth_rowv0, nth_rowv1, rowv_len, E1.blk]; done))
  simp (maxSteps := 1000000) (disch := first | assumption | omega | (simp only [World.size_alloc, size_setRow, dw_size]; done) | (simp only [World.size_alloc, size_setRow, dw_size] <;> omega) | (simp only [List.length_set, Array.length_toList, List.length_cons, List.length_nil, List.length_append, bts_size] <;> omega) | (simp only [List.all_cons, List.all_nil, Value.oneCell', Bool.and_self, Bool.and_true]; done)) [-Option.bind_some, hp_alloc_lt, hp_alloc_eq, hp_set_ne, wrap_small, ups_ap_cons, ups_ap_nil, upd_same, upd_other, env0_ap0, env0_aps, xt_a, xt_b, xt_c, -splice_eq, -stR_cells, stR_box, stR_boxA, stR_row, stR_row0, stR_row1, stR_rowA, stR_rowA0, splice_rowv, splice_rowv0, splice_rowv1, splice_z, splice_n, splice_s, nth_rowv, nth_rowv0, nth_rowv1, rowv_len, Y1, E1.blk]
  refine hQ _ ⟨[_, _, _, _, _, _], rfl, (o1.keep (fun b hS hb => hp_set_ne (by simp only [In, World.size_alloc] at hS; omega))).wide (fun b h _ => by simp only [In, World.size_alloc, size_setRow] at *; omega), by (repeat (first | exact Ext.rfl | assumption | (refine Ext.al ?_ _) | (refine Ext.dw ?_) | (refine Ext.set ?_ (by first | omega | (simp only [World.size_alloc, size_setRow, dw_size]; omega)) _) | (refine Ext.tr ?_ (by assumption))))⟩
theorem impl_PlaceNew_n (me nodes : Int) {w : World} : Ret (EV P 13 #[i64 me, i64 nodes] w) fun r => ∃ ds, r.1 = .agg ds.toArray ∧ O tPlace (In w.heap.size r.2.heap.size) r.2 ds (placeNewP me nodes) ∧ Ext w r.2 := by
  refine Ret.post fun Q hQ => ?_
  have neg : placeNewB me nodes = false → placeNewP me nodes = placeZ := fun h => by rw [placeNewP, h]; rfl
  refine Ret.enter plain mixed (impl_PlaceNew_fn _ _ _) (by kernel_rfl) (n := 2) (by kernel_rfl) rfl ?_
  simp (maxSteps := 1000000) (disch := first | assumption | omega | (simp only [World.size_alloc, size_setRow, dw_size]; done) | (simp only [World.size_alloc, size_setRow, dw_size] <;> omega) | (simp only [List.length_set, Array.length_toList, List.length_cons, List.length_nil, List.length_append, bts_size] <;> omega) | (simp only [List.all_cons, List.all_nil, Value.oneCell', Bool.and_self, Bool.and_true]; done)) [-Option.bind_some, hp_alloc_lt, hp_alloc_eq, hp_set_ne, wrap_small, ups_ap_cons, ups_ap_nil, upd_same, upd_other, env0_ap0, env0_aps, xt_a, xt_b, xt_c, -splice_eq, -stR_cells, stR_box, stR_boxA, stR_row, stR_row0, stR_row1, stR_rowA, stR_rowA0, splice_rowv, splice_rowv0, splice_rowv1, splice_z, splice_n, splice_s, nth_rowv, nth_rowv0, nth_rowv1, rowv_len]
  refine Ret.bind (impl_placeOk_c _ _) ?_
  rintro _ rfl
  cases h1 : (decide (0 ≤ me) && decide (me ≤ 2))
  · have hb : placeNewB me nodes = false := by rw [placeNewB, h1]; rfl
    rw [neg hb] at hQ
    simp (maxSteps := 1000000) (disch := first | assumption | omega | (simp only [World.size_alloc, size_setRow, dw_size]; done) | (simp only [World.size_alloc, size_setRow, dw_size] <;> omega) | (simp only [List.length_set, Array.length_toList, List.length_cons, List.length_nil, List.length_append, bts_size] <;> omega) | (simp only [List.all_cons, List.all_nil, Value.oneCell', Bool.and_self, Bool.and_true]; done)) [-Option.bind_some, hp_alloc_lt, hp_alloc_eq, hp_set_ne, wrap_small, ups_ap_cons, ups_ap_nil, upd_same, upd_other, env0_ap0, env0_aps, xt_a, xt_b, xt_c, -splice_eq, -stR_cells, stR_box, stR_boxA, stR_row, stR_row0, stR_row1, stR_rowA, stR_rowA0, splice_rowv, splice_rowv0, splice_rowv1, splice_z, splice_n, splice_s, nth_rowv, nth_rowv0, nth_rowv1, rowv_len]
    exact hQ _ ⟨[_, _, _, _, _, _], rfl, (placeZ_O _).wide fun b h _ => h.elim, by (repeat (first | exact Ext.rfl | assumption | (refine Ext.al ?_ _) | (refine Ext.dw ?_) | (refine Ext.set ?_ (by first | omega | (simp only [World.size_alloc, size_setRow, dw_size]; omega)) _) | (refine Ext.tr ?_ (by assumption))))⟩
  simp (maxSteps := 1000000) (disch := first | assumption | omega | (simp only [World.size_alloc, size_setRow, dw_size]; done) | (simp only [World.size_alloc, size_setRow, dw_size] <;> omega) | (simp only [List.length_set, Array.length_toList, List.length_cons, List.length_nil, List.length_append, bts_size] <;> omega) | (simp only [List.all_cons, List.all_nil, Value.oneCell', Bool.and_self, Bool.and_true]; done)) [-Option.bind_some, hp_alloc_lt, hp_alloc_eq, hp_set_ne, wrap_small, ups_ap_cons, ups_ap_nil, upd_same, upd_other, env0_ap0, env0_aps, xt_a, xt_b, xt_c, -splice_eq, -stR_cells, stR_box, stR_boxA, stR_row, stR_row0, stR_row1, stR_rowA, stR_rowA0, splice_rowv, splice_rowv0, splice_rowv1, splice_z, splice_n, splice_s, nth_rowv, nth_rowv0, nth_rowv1, rowv_len]
  refine Ret.bind (impl_nodesOk_c _ _) ?_
  rintro _ rfl
  cases h2 : (decide (1 ≤ nodes) && decide (nodes ≤ 4))
  · have hb : placeNewB me nodes = false := by rw [placeNewB, h2, Bool.and_false]
    rw [neg hb] at hQ
    simp (maxSteps := 1000000) (disch := first | assumption | omega | (simp only [World.size_alloc, size_setRow, dw_size]; done) | (simp only [World.size_alloc, size_setRow, dw_size] <;> omega) | (simp only [List.length_set, Array.length_toList, List.length_cons, List.length_nil, List.length_append, bts_size] <;> omega) | (simp only [List.all_cons, List.all_nil, Value.oneCell', Bool.and_self, Bool.and_true]; done)) [-Option.bind_some, hp_alloc_lt, hp_alloc_eq, hp_set_ne, wrap_small, ups_ap_cons, ups_ap_nil, upd_same, upd_other, env0_ap0, env0_aps, xt_a, xt_b, xt_c, -splice_eq, -stR_cells, stR_box, stR_boxA, stR_row, stR_row0, stR_row1, stR_rowA, stR_rowA0, splice_rowv, splice_rowv0, splice_rowv1, splice_z, splice_n, splice_s, nth_rowv, nth_rowv0, nth_rowv1, rowv_len]
    exact hQ _ ⟨[_, _, _, _, _, _], rfl, (placeZ_O _).wide fun b h _ => h.elim, by (repeat (first | exact Ext.rfl | assumption | (refine Ext.al ?_ _) | (refine Ext.dw ?_) | (refine Ext.set ?_ (by first | omega | (simp only [World.size_alloc, size_setRow, dw_size]; omega)) _) | (refine Ext.tr ?_ (by assumption))))⟩
  have hb : placeNewB me nodes = true := by rw [placeNewB, h1, h2]; rfl
  simp (maxSteps := 1000000) (disch := first | assumption | omega | (simp only [World.size_alloc, size_setRow, dw_size]; done) | (simp only [World.size_alloc, size_setRow, dw_size] <;> omega) | (simp only [List.length_set, Array.length_toList, List.length_cons, List.length_nil, List.length_append, bts_size] <;> omega) | (simp only [List.all_cons, List.all_nil, Value.oneCell', Bool.and_self, Bool.and_true]; done)) [-Option.bind_some, hp_alloc_lt, hp_alloc_eq, hp_set_ne, wrap_small, ups_ap_cons, ups_ap_nil, upd_same, upd_other, env0_ap0, env0_aps, xt_a, xt_b, xt_c, -splice_eq, -stR_cells, stR_box, stR_boxA, stR_row, stR_row0, stR_row1, stR_rowA, stR_rowA0, splice_rowv, splice_rowv0, splice_rowv1, splice_z, splice_n, splice_s, nth_rowv, nth_rowv0, nth_rowv1, rowv_len]
  refine Ret.mono (impl_PlaceNew_r (me := me) (nodes := nodes) (g := w.heap.size) hb rfl rfl rfl (by first | assumption | rfl | (simp (maxSteps := 1000000) (disch := first | assumption | omega | (simp only [World.size_alloc, size_setRow, dw_size]; done) | (simp only [World.size_alloc, size_setRow, dw_size] <;> omega) | (simp only [List.length_set, Array.length_toList, List.length_cons, List.length_nil, List.length_append, bts_size] <;> omega) | (simp only [List.all_cons, List.all_nil, Value.oneCell', Bool.and_self, Bool.and_true]; done)) [-Option.bind_some, hp_alloc_lt, hp_alloc_eq, hp_set_ne, wrap_small, ups_ap_cons, ups_ap_nil, upd_same, upd_other, env0_ap0, env0_aps, xt_a, xt_b, xt_c, -splice_eq, -stR_cells, stR_box, stR_boxA, stR_row, stR_row0, stR_row1, stR_rowA, stR_rowA0, splice_rowv, splice_rowv0, splice_rowv1, splice_z, splice_n, splice_s, nth_rowv, nth_rowv0, nth_rowv1, rowv_len]; done))) ?_
  rintro r ⟨ds, h1, h2, h3⟩
  exact hQ _ ⟨ds, h1, h2.wide (fun b h _ => by simp only [In, World.size_alloc] at h; simp only [In]; omega), Mod.after (by (repeat (first | exact Ext.rfl | assumption | (refine Ext.al ?_ _) | (refine Ext.dw ?_) | (refine Ext.set ?_ (by first | omega | (simp only [World.size_alloc, size_setRow, dw_size]; omega)) _) | (refine Ext.tr ?_ (by assumption))))) h3 (fun b h1 h2 => by have h2 : b = w.heap.size := h2; omega)⟩
end Go.Proofs.Ytggmfmanpjcjkaa.X
