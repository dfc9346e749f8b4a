/- A part of the proof: an evaluator of the model, its laws, and contracts of functions; no condition. -/
import Derived.Test.YtcafhepclddcaaaH24
set_option linter.unusedVariables false
set_option linter.unusedSimpArgs false
set_option maxRecDepth 100000
set_option maxHeartbeats 1000000
namespace Go.Proofs.Ytcafhepclddcaaa.X
open Go Go.Ev Go.RowKit
theorem there_lt {xs : List ByteArray} {s : ByteArray} (h : thereP xs s = true) : posP xs s < xs.length := by
  unfold thereP at h
  split at h
  · rename_i x hx
    exact (List.getElem?_eq_some_iff.1 hx).1
  · cases h
theorem impl_RingDrop_m {a : Option Addr} {n c : Nat} {S : Nat → Prop} {xs : List ByteArray} {s : ByteArray} {w : World} (ha : D tStrs S w [.slice a n c] xs) :
    Ret (EV P 45 #[.agg #[.slice a n c], .string s] w) fun r => ∃ a2 c2, r.1 = .tuple #[.agg #[.slice a2 (ringDropP xs s).1.length c2], .bool (ringDropP xs s).2] ∧ O tStrs (In w.heap.size r.2.heap.size) r.2 [.slice a2 (ringDropP xs s).1.length c2] (ringDropP xs s).1 ∧ Ext w r.2 := by
  obtain ⟨rfl, hm, _⟩ := ha.n
  refine Ret.post fun Q hQ => ?_
  refine Ret.enter plain mixed (impl_RingDrop_fn _ _ _) (by kernel_rfl) (n := 2) (by kernel_rfl) rfl ?_
  simp (maxSteps := 1000000) (disch := first | assumption | omega | (simp only [World.size_alloc, size_setRow, dw_size]; done) | (simp only [World.size_alloc, size_setRow, dw_size] <;> omega) | (simp only [List.length_set, Array.length_toList, List.length_cons, List.length_nil, List.length_append, bts_size] <;> omega) | (simp only [List.all_cons, List.all_nil, Value.oneCell', Bool.and_self, Bool.and_true]; done)) [-Option.bind_some, hp_alloc_lt, hp_alloc_eq, hp_set_ne, wrap_small, ups_ap_cons, ups_ap_nil, upd_same, upd_other, env0_ap0, env0_aps, xt_a, xt_b, xt_c, -splice_eq, -stR_cells, stR_box, stR_boxA, stR_row, stR_row0, stR_row1, stR_rowA, stR_rowA0, splice_rowv, splice_rowv0, splice_rowv1, splice_z, splice_n, splice_s, nth_rowv, nth_rowv0, nth_rowv1, rowv_len]
  refine Ret.bind (impl_RingOk_m (ha.ext (by (repeat (first | exact Ext.rfl | assumption | (refine Ext.al ?_ _) | (refine Ext.dw ?_) | (refine Ext.set ?_ (by first | omega | (simp only [World.size_alloc, size_setRow, dw_size]; omega)) _) | (refine Ext.tr ?_ (by assumption))))))) ?_
  rintro ⟨_, w1⟩ ⟨rfl, E1⟩
  have zE1 := E1.size
  try simp only [World.size_alloc, size_setRow, dw_size] at zE1
  try dsimp only at E1
  have zE1 := E1.size
  simp only [World.size_alloc] at zE1
  have X0 : hp w1 w.heap.size = some (.cells #[.slice a xs.length c] 55 (0, 0)) := (E1.blk (by simp; omega)).trans (by first | assumption | rfl | (simp (maxSteps := 1000000) (disch := first | assumption | omega | (simp only [World.size_alloc, size_setRow, dw_size]; done) | (simp only [World.size_alloc, size_setRow, dw_size] <;> omega) | (simp only [List.length_set, Array.length_toList, List.length_cons, List.length_nil, List.length_append, bts_size] <;> omega) | (simp only [List.all_cons, List.all_nil, Value.oneCell', Bool.and_self, Bool.and_true]; done)) [-Option.bind_some, hp_alloc_lt, hp_alloc_eq, hp_set_ne, wrap_small, ups_ap_cons, ups_ap_nil, upd_same, upd_other, env0_ap0, env0_aps, xt_a, xt_b, xt_c, -splice_eq, -stR_cells, stR_box, stR_boxA, stR_row, stR_row0, stR_row1, stR_rowA, stR_rowA0, splice_rowv, splice_rowv0, splice_rowv1, splice_z, splice_n, splice_s, nth_rowv, nth_rowv0, nth_rowv1, rowv_len, E1.blk]; done))
  have X1 : hp w1 (w.heap.size + 1) = some (.cells #[.slice none 0 0] 55 (0, 0)) := (E1.blk (by simp)).trans (by first | assumption | rfl | (simp (maxSteps := 1000000) (disch := first | assumption | omega | (simp only [World.size_alloc, size_setRow, dw_size]; done) | (simp only [World.size_alloc, size_setRow, dw_size] <;> omega) | (simp only [List.length_set, Array.length_toList, List.length_cons, List.length_nil, List.length_append, bts_size] <;> omega) | (simp only [List.all_cons, List.all_nil, Value.oneCell', Bool.and_self, Bool.and_true]; done)) [-Option.bind_some, hp_alloc_lt, hp_alloc_eq, hp_set_ne, wrap_small, ups_ap_cons, ups_ap_nil, upd_same, upd_other, env0_ap0, env0_aps, xt_a, xt_b, xt_c, -splice_eq, -stR_cells, stR_box, stR_boxA, stR_row, stR_row0, stR_row1, stR_rowA, stR_rowA0, splice_rowv, splice_rowv0, splice_rowv1, splice_z, splice_n, splice_s, nth_rowv, nth_rowv0, nth_rowv1, rowv_len, E1.blk, X0]; done))
  have F1 : Ext w w1 := by (repeat (first | exact Ext.rfl | assumption | (refine Ext.al ?_ _) | (refine Ext.dw ?_) | (refine Ext.set ?_ (by first | omega | (simp only [World.size_alloc, size_setRow, dw_size]; omega)) _) | (refine Ext.tr ?_ (by assumption))))
  cases hr : ringP xs
  · rw [show ringDropP xs s = ([], false) by simp [ringDropP, hr]] at hQ
    simp (maxSteps := 1000000) (disch := first | assumption | omega | (simp only [World.size_alloc, size_setRow, dw_size]; done) | (simp only [World.size_alloc, size_setRow, dw_size] <;> omega) | (simp only [List.length_set, Array.length_toList, List.length_cons, List.length_nil, List.length_append, bts_size] <;> omega) | (simp only [List.all_cons, List.all_nil, Value.oneCell', Bool.and_self, Bool.and_true]; done)) [-Option.bind_some, hp_alloc_lt, hp_alloc_eq, hp_set_ne, wrap_small, ups_ap_cons, ups_ap_nil, upd_same, upd_other, env0_ap0, env0_aps, xt_a, xt_b, xt_c, -splice_eq, -stR_cells, stR_box, stR_boxA, stR_row, stR_row0, stR_row1, stR_rowA, stR_rowA0, splice_rowv, splice_rowv0, splice_rowv1, splice_z, splice_n, splice_s, nth_rowv, nth_rowv0, nth_rowv1, rowv_len, hr, X0, X1, E1.blk, X0, X1]
    exact hQ _ ⟨none, 0, rfl, O.nil, by (repeat (first | exact Ext.rfl | assumption | (refine Ext.al ?_ _) | (refine Ext.dw ?_) | (refine Ext.set ?_ (by first | omega | (simp only [World.size_alloc, size_setRow, dw_size]; omega)) _) | (refine Ext.tr ?_ (by assumption))))⟩
  · have hr' := hr
    simp only [ringP, Bool.and_eq_true, decide_eq_true_eq] at hr'
    simp (maxSteps := 1000000) (disch := first | assumption | omega | (simp only [World.size_alloc, size_setRow, dw_size]; done) | (simp only [World.size_alloc, size_setRow, dw_size] <;> omega) | (simp only [List.length_set, Array.length_toList, List.length_cons, List.length_nil, List.length_append, bts_size] <;> omega) | (simp only [List.all_cons, List.all_nil, Value.oneCell', Bool.and_self, Bool.and_true]; done)) [-Option.bind_some, hp_alloc_lt, hp_alloc_eq, hp_set_ne, wrap_small, ups_ap_cons, ups_ap_nil, upd_same, upd_other, env0_ap0, env0_aps, xt_a, xt_b, xt_c, -splice_eq, -stR_cells, stR_box, stR_boxA, stR_row, stR_row0, stR_row1, stR_rowA, stR_rowA0, splice_rowv, splice_rowv0, splice_rowv1, splice_z, splice_n, splice_s, nth_rowv, nth_rowv0, nth_rowv1, rowv_len, hr, X0, X1, E1.blk, X0, X1]
    refine Ret.bind (BinarySearch_string_m (s := s) (ha.ext F1) hr) ?_
    rintro ⟨_, w2⟩ ⟨rfl, E2⟩
    have zE2 := E2.size
    try simp only [World.size_alloc, size_setRow, dw_size] at zE2
    try dsimp only at E2
    have zE2 := E2.size
    have F2 : Ext w w2 := by (repeat (first | exact Ext.rfl | assumption | (refine Ext.al ?_ _) | (refine Ext.dw ?_) | (refine Ext.set ?_ (by first | omega | (simp only [World.size_alloc, size_setRow, dw_size]; omega)) _) | (refine Ext.tr ?_ (by assumption))))
    have X0 := (E2.blk (b := w.heap.size) (by omega)).trans X0
    have X1 := (E2.blk (b := w.heap.size + 1) (by omega)).trans X1
    cases ht : thereP xs s
    · rw [show ringDropP xs s = (xs, false) by simp [ringDropP, hr, ht]] at hQ
      simp (maxSteps := 1000000) (disch := first | assumption | omega | (simp only [World.size_alloc, size_setRow, dw_size]; done) | (simp only [World.size_alloc, size_setRow, dw_size] <;> omega) | (simp only [List.length_set, Array.length_toList, List.length_cons, List.length_nil, List.length_append, bts_size] <;> omega) | (simp only [List.all_cons, List.all_nil, Value.oneCell', Bool.and_self, Bool.and_true]; done)) [-Option.bind_some, hp_alloc_lt, hp_alloc_eq, hp_set_ne, wrap_small, ups_ap_cons, ups_ap_nil, upd_same, upd_other, env0_ap0, env0_aps, xt_a, xt_b, xt_c, -splice_eq, -stR_cells, stR_box, stR_boxA, stR_row, stR_row0, stR_row1, stR_rowA, stR_rowA0, splice_rowv, splice_rowv0, splice_rowv1, splice_z, splice_n, splice_s, nth_rowv, nth_rowv0, nth_rowv1, rowv_len, ht, X0, X1, E1.blk, X0, X1, E2.blk, X0, X1]
      refine Ret.bind (impl_Ring_copied_m (ha.ext F2)) ?_
      rintro ⟨_, w3⟩ ⟨a3, c3, rfl, o3, E3⟩
      have zE3 := E3.size
      try simp only [World.size_alloc, size_setRow, dw_size] at zE3
      try dsimp only at o3 E3
      have zE3 := E3.size
      have X1 := (E3.blk (b := w.heap.size + 1) (by omega)).trans X1
      simp (maxSteps := 1000000) (disch := first | assumption | omega | (simp only [World.size_alloc, size_setRow, dw_size]; done) | (simp only [World.size_alloc, size_setRow, dw_size] <;> omega) | (simp only [List.length_set, Array.length_toList, List.length_cons, List.length_nil, List.length_append, bts_size] <;> omega) | (simp only [List.all_cons, List.all_nil, Value.oneCell', Bool.and_self, Bool.and_true]; done)) [-Option.bind_some, hp_alloc_lt, hp_alloc_eq, hp_set_ne, wrap_small, ups_ap_cons, ups_ap_nil, upd_same, upd_other, env0_ap0, env0_aps, xt_a, xt_b, xt_c, -splice_eq, -stR_cells, stR_box, stR_boxA, stR_row, stR_row0, stR_row1, stR_rowA, stR_rowA0, splice_rowv, splice_rowv0, splice_rowv1, splice_z, splice_n, splice_s, nth_rowv, nth_rowv0, nth_rowv1, rowv_len, X1, E1.blk, X0, X1, E2.blk, X0, X1, E3.blk, X1]
      exact hQ _ ⟨a3, c3, rfl, O.wide (o3.keep (by intro b hS hb; (try dsimp only at hS); (try simp only [In, World.size_alloc, size_setRow, dw_size] at hS hb); first | rfl | (simp (disch := first | assumption | omega | (simp only [World.size_alloc, size_setRow, dw_size]; omega) | (simp only [World.size_alloc, size_setRow, dw_size, In]; omega)) only [E1.blk, E2.blk, E3.blk, hp_alloc_lt, hp_set_ne, hp_dw]; done))) (by intro b h1 h2; (try dsimp only at h1); (try simp only [In, World.size_alloc, size_setRow, dw_size] at *); omega), by (repeat (first | exact Ext.rfl | assumption | (refine Ext.al ?_ _) | (refine Ext.dw ?_) | (refine Ext.set ?_ (by first | omega | (simp only [World.size_alloc, size_setRow, dw_size]; omega)) _) | (refine Ext.tr ?_ (by assumption))))⟩
    · have hlt := there_lt ht
      rw [show ringDropP xs s = (xs.take (posP xs s) ++ xs.drop (posP xs s + 1), true) by simp [ringDropP, hr, ht]] at hQ
      have hl : (xs.take (posP xs s) ++ xs.drop (posP xs s + 1)).length = xs.length - 1 := by simp; omega
      rw [hl] at hQ
      simp (maxSteps := 1000000) (disch := first | assumption | omega | (simp only [World.size_alloc, size_setRow, dw_size]; done) | (simp only [World.size_alloc, size_setRow, dw_size] <;> omega) | (simp only [List.length_set, Array.length_toList, List.length_cons, List.length_nil, List.length_append, bts_size] <;> omega) | (simp only [List.all_cons, List.all_nil, Value.oneCell', Bool.and_self, Bool.and_true]; done)) [-Option.bind_some, hp_alloc_lt, hp_alloc_eq, hp_set_ne, wrap_small, ups_ap_cons, ups_ap_nil, upd_same, upd_other, env0_ap0, env0_aps, xt_a, xt_b, xt_c, -splice_eq, -stR_cells, stR_box, stR_boxA, stR_row, stR_row0, stR_row1, stR_rowA, stR_rowA0, splice_rowv, splice_rowv0, splice_rowv1, splice_z, splice_n, splice_s, nth_rowv, nth_rowv0, nth_rowv1, rowv_len, ht, X0, X1, E1.blk, X0, X1, E2.blk, X0, X1, hlt]
      refine Ret.bind (slices_Clone_string_m (ha.ext F2)) ?_
      rintro ⟨_, w3⟩ ⟨a3, c3, rfl, o3, E3⟩
      try dsimp only at a3 c3 o3 E3
      have zE3 := E3.size
      try simp only [World.size_alloc, size_setRow, dw_size] at zE3
      have X1 := (E3.blk (b := w.heap.size + 1) (by omega)).trans X1
      obtain ⟨g, rfl, hSg, hgl, hraw⟩ := o3.raw (by omega)
      simp only [In] at hSg
      simp (maxSteps := 1000000) (disch := first | assumption | omega | (simp only [World.size_alloc, size_setRow, dw_size]; done) | (simp only [World.size_alloc, size_setRow, dw_size] <;> omega) | (simp only [List.length_set, Array.length_toList, List.length_cons, List.length_nil, List.length_append, bts_size] <;> omega) | (simp only [List.all_cons, List.all_nil, Value.oneCell', Bool.and_self, Bool.and_true]; done)) [-Option.bind_some, hp_alloc_lt, hp_alloc_eq, hp_set_ne, wrap_small, ups_ap_cons, ups_ap_nil, upd_same, upd_other, env0_ap0, env0_aps, xt_a, xt_b, xt_c, -splice_eq, -stR_cells, stR_box, stR_boxA, stR_row, stR_row0, stR_row1, stR_rowA, stR_rowA0, splice_rowv, splice_rowv0, splice_rowv1, splice_z, splice_n, splice_s, nth_rowv, nth_rowv0, nth_rowv1, rowv_len, E1.blk, X0, X1, E2.blk, X0, X1, hlt, E3.blk, X1]
      refine Ret.bind (slices_Delete_string_m hraw hlt) ?_
      rintro ⟨_, w4⟩ ⟨rfl, r4, M4⟩
      have zM4 := M4.size
      try simp only [World.size_alloc, size_setRow, dw_size] at zM4
      try dsimp only at r4 M4
      have zM4 := M4.size
      have F4 : Ext w w4 := Mod.after (a := w) (F2.tr E3) M4 (by intro x hx h; omega)
      have X4 : hp w4 (w.heap.size + 1) = some (.cells #[.slice none 0 0] 55 (0, 0)) := (M4.blk (w.heap.size + 1) (by omega) (by omega)).trans X1
      have o4 := r4.o (mx := 8796093021952) (by rw [hl]; omega)
      obtain ⟨k1, k2, k3⟩ := o4.clip
      rw [hl] at k1 k3 ⊢
      refine Ret.bind (slices_Clip_string_m k1 k2) ?_
      rintro ⟨_, w5⟩ h5
      simp only [Prod.mk.injEq] at h5
      obtain ⟨rfl, rfl⟩ := h5
      simp (maxSteps := 1000000) (disch := first | assumption | omega | (simp only [World.size_alloc, size_setRow, dw_size]; done) | (simp only [World.size_alloc, size_setRow, dw_size] <;> omega) | (simp only [List.length_set, Array.length_toList, List.length_cons, List.length_nil, List.length_append, bts_size] <;> omega) | (simp only [List.all_cons, List.all_nil, Value.oneCell', Bool.and_self, Bool.and_true]; done)) [-Option.bind_some, hp_alloc_lt, hp_alloc_eq, hp_set_ne, wrap_small, ups_ap_cons, ups_ap_nil, upd_same, upd_other, env0_ap0, env0_aps, xt_a, xt_b, xt_c, -splice_eq, -stR_cells, stR_box, stR_boxA, stR_row, stR_row0, stR_row1, stR_rowA, stR_rowA0, splice_rowv, splice_rowv0, splice_rowv1, splice_z, splice_n, splice_s, nth_rowv, nth_rowv0, nth_rowv1, rowv_len, X4, E1.blk, X0, X1, E2.blk, X0, X1, hlt, E3.blk, X1, M4.blk, X4]
      refine hQ _ ⟨some ⟨g, 0, none⟩, xs.length - 1, rfl, O.wide (k3.keep (fun b hb hl => hp_set_ne ?_)) ?_, by (repeat (first | exact Ext.rfl | assumption | (refine Ext.al ?_ _) | (refine Ext.dw ?_) | (refine Ext.set ?_ (by first | omega | (simp only [World.size_alloc, size_setRow, dw_size]; omega)) _) | (refine Ext.tr ?_ (by assumption))))⟩
      · have hb : b = g := hb
        omega
      · intro b hb hl
        have hb : b = g := hb
        simp only [In, size_setRow] at *
        omega
end Go.Proofs.Ytcafhepclddcaaa.X
set_option linter.unusedVariables false
set_option linter.unusedSimpArgs false
set_option maxRecDepth 100000
set_option maxHeartbeats 1000000
namespace Go.Proofs.Ytcafhepclddcaaa.X
open Go Go.Ev Go.RowKit
/-- A part of a row of texts, behind one's own. -/
theorem app_part {c n : Nat} {a1 : Option Addr} {n1 c1 : Nat} {S S1 : Nat → Prop} {xs ys : List ByteArray} {a : Option Addr} {w : World} (ho : O tStrs S w [.slice a1 n1 c1] ys) (ha : D tStrs S1 w [.slice a n c] xs) (hl : ys.length + xs.length ≤ 1000) :
    Ret (b_append P #[51, 51] 51 #[.slice a1 n1 c1, .slice a n c] w) fun r => ∃ a' c', r.1 = .slice a' (ys.length + xs.length) c' ∧ O tStrs (fun b => S b ∨ In w.heap.size r.2.heap.size b) r.2 [.slice a' (ys.length + xs.length) c'] (ys ++ xs) ∧ Mod S w r.2 := by
  refine Ret.mono (O.appD (L := LStr) (mx := 8796093021952) flat_str el_51 zz_9 rfl (by decide) ho ha (by omega) (by decide) (by decide)) ?_
  rintro ⟨_, w1⟩ ⟨a', c', rfl, o1, M1⟩
  have zM1 := M1.size
  try simp only [World.size_alloc, size_setRow, dw_size] at zM1
  exact ⟨a', c', rfl, o1, M1⟩
end Go.Proofs.Ytcafhepclddcaaa.X
set_option linter.unusedVariables false
set_option linter.unusedSimpArgs false
set_option maxRecDepth 100000
set_option maxHeartbeats 1000000
namespace Go.Proofs.Ytcafhepclddcaaa.X
open Go Go.Ev Go.RowKit
theorem spec_RingDrop_m {a : Option Addr} {n c : Nat} {S : Nat → Prop} {xs : List ByteArray} {s : ByteArray} {w : World} (ha : D tStrs S w [.slice a n c] xs) (hc : n ≤ c) :
    Ret (EV P 44 #[.agg #[.slice a n c], .string s] w) fun r => ∃ a2 c2, r.1 = .tuple #[.agg #[.slice a2 (ringDropP xs s).1.length c2], .bool (ringDropP xs s).2] ∧ O tStrs (In w.heap.size r.2.heap.size) r.2 [.slice a2 (ringDropP xs s).1.length c2] (ringDropP xs s).1 ∧ Ext w r.2 := by
  obtain ⟨rfl, hm, _⟩ := ha.n
  have hle := posP_le xs s
  obtain ⟨k, hk⟩ : ∃ k, k = posP xs s := ⟨_, rfl⟩
  have hlt : (xs.take k).length = k := by simp; omega
  have hDt : D tStrs S w [.slice a (xs.take k).length c] (xs.take k) := by rw [hlt]; exact ha.take (by omega)
  obtain ⟨a', hsd, hDd⟩ := dropS_d (P := P) el_51 (k := k) ha hc (by omega)
  have hst : ∀ w, sl P 51 (.slice a xs.length c) none (some (i64 k)) none w = some (.slice a (xs.take k).length c, w) := fun w => by
    rw [hlt]
    simpa using sl_h (P := P) el_51 (a := a) (len := xs.length) (cap := c) (n := (k : Int)) (by omega) (by omega) w
  have hld : (xs.drop k).length = xs.length - k := by simp
  have hDt' : D tStrs S w [.slice a k c] (xs.take k) := ha.take (by omega)
  have hsd' : ∀ w, sl P 51 (.slice a xs.length c) (some (i64 k)) none none w = some (.slice a' (xs.length - k) (c - k), w) := fun w => by rw [← hld]; exact hsd w
  have hDd' : D tStrs S w [.slice a' (xs.length - k) (c - k)] (xs.drop k) := by rw [← hld]; exact hDd
  refine Ret.post fun Q hQ => ?_
  refine Ret.enter plain mixed (spec_RingDrop_fn _ _ _) (by kernel_rfl) (n := 2) (by kernel_rfl) rfl ?_
  simp (maxSteps := 1000000) (disch := first | assumption | omega | (simp only [World.size_alloc, size_setRow, dw_size]; done) | (simp only [World.size_alloc, size_setRow, dw_size] <;> omega) | (simp only [List.length_set, Array.length_toList, List.length_cons, List.length_nil, List.length_append, bts_size] <;> omega) | (simp only [List.all_cons, List.all_nil, Value.oneCell', Bool.and_self, Bool.and_true]; done)) [-Option.bind_some, hp_alloc_lt, hp_alloc_eq, hp_set_ne, wrap_small, ups_ap_cons, ups_ap_nil, upd_same, upd_other, env0_ap0, env0_aps, xt_a, xt_b, xt_c, -splice_eq, -stR_cells, stR_box, stR_boxA, stR_row, stR_row0, stR_row1, stR_rowA, stR_rowA0, splice_rowv, splice_rowv0, splice_rowv1, splice_z, splice_n, splice_s, nth_rowv, nth_rowv0, nth_rowv1, rowv_len, hlt]
  refine Ret.bind (spec_l10Ok_m (ha.ext (by (repeat (first | exact Ext.rfl | assumption | (refine Ext.al ?_ _) | (refine Ext.dw ?_) | (refine Ext.set ?_ (by first | omega | (simp only [World.size_alloc, size_setRow, dw_size]; omega)) _) | (refine Ext.tr ?_ (by assumption))))))) ?_
  rintro ⟨_, w1⟩ ⟨rfl, E1⟩
  have zE1 := E1.size
  try simp only [World.size_alloc, size_setRow, dw_size] at zE1
  try dsimp only at E1
  have zE1 := E1.size
  simp only [World.size_alloc] at zE1
  have X0 : hp w1 w.heap.size = some (.cells #[.slice a xs.length c] 55 (0, 0)) := (E1.blk (by simp; omega)).trans (by first | assumption | rfl | (simp (maxSteps := 1000000) (disch := first | assumption | omega | (simp only [World.size_alloc, size_setRow, dw_size]; done) | (simp only [World.size_alloc, size_setRow, dw_size] <;> omega) | (simp only [List.length_set, Array.length_toList, List.length_cons, List.length_nil, List.length_append, bts_size] <;> omega) | (simp only [List.all_cons, List.all_nil, Value.oneCell', Bool.and_self, Bool.and_true]; done)) [-Option.bind_some, hp_alloc_lt, hp_alloc_eq, hp_set_ne, wrap_small, ups_ap_cons, ups_ap_nil, upd_same, upd_other, env0_ap0, env0_aps, xt_a, xt_b, xt_c, -splice_eq, -stR_cells, stR_box, stR_boxA, stR_row, stR_row0, stR_row1, stR_rowA, stR_rowA0, splice_rowv, splice_rowv0, splice_rowv1, splice_z, splice_n, splice_s, nth_rowv, nth_rowv0, nth_rowv1, rowv_len, hlt, E1.blk]; done))
  have X1 : hp w1 (w.heap.size + 1) = some (.cells #[.slice none 0 0] 55 (0, 0)) := (E1.blk (by simp)).trans (by first | assumption | rfl | (simp (maxSteps := 1000000) (disch := first | assumption | omega | (simp only [World.size_alloc, size_setRow, dw_size]; done) | (simp only [World.size_alloc, size_setRow, dw_size] <;> omega) | (simp only [List.length_set, Array.length_toList, List.length_cons, List.length_nil, List.length_append, bts_size] <;> omega) | (simp only [List.all_cons, List.all_nil, Value.oneCell', Bool.and_self, Bool.and_true]; done)) [-Option.bind_some, hp_alloc_lt, hp_alloc_eq, hp_set_ne, wrap_small, ups_ap_cons, ups_ap_nil, upd_same, upd_other, env0_ap0, env0_aps, xt_a, xt_b, xt_c, -splice_eq, -stR_cells, stR_box, stR_boxA, stR_row, stR_row0, stR_row1, stR_rowA, stR_rowA0, splice_rowv, splice_rowv0, splice_rowv1, splice_z, splice_n, splice_s, nth_rowv, nth_rowv0, nth_rowv1, rowv_len, hlt, E1.blk, X0]; done))
  have F1 : Ext w w1 := by (repeat (first | exact Ext.rfl | assumption | (refine Ext.al ?_ _) | (refine Ext.dw ?_) | (refine Ext.set ?_ (by first | omega | (simp only [World.size_alloc, size_setRow, dw_size]; omega)) _) | (refine Ext.tr ?_ (by assumption))))
  cases hr : ringP xs
  · rw [show ringDropP xs s = ([], false) by simp [ringDropP, hr]] at hQ
    simp (maxSteps := 1000000) (disch := first | assumption | omega | (simp only [World.size_alloc, size_setRow, dw_size]; done) | (simp only [World.size_alloc, size_setRow, dw_size] <;> omega) | (simp only [List.length_set, Array.length_toList, List.length_cons, List.length_nil, List.length_append, bts_size] <;> omega) | (simp only [List.all_cons, List.all_nil, Value.oneCell', Bool.and_self, Bool.and_true]; done)) [-Option.bind_some, hp_alloc_lt, hp_alloc_eq, hp_set_ne, wrap_small, ups_ap_cons, ups_ap_nil, upd_same, upd_other, env0_ap0, env0_aps, xt_a, xt_b, xt_c, -splice_eq, -stR_cells, stR_box, stR_boxA, stR_row, stR_row0, stR_row1, stR_rowA, stR_rowA0, splice_rowv, splice_rowv0, splice_rowv1, splice_z, splice_n, splice_s, nth_rowv, nth_rowv0, nth_rowv1, rowv_len, hr, X0, X1, hlt, E1.blk, X0, X1]
    exact hQ _ ⟨none, 0, rfl, O.nil, by (repeat (first | exact Ext.rfl | assumption | (refine Ext.al ?_ _) | (refine Ext.dw ?_) | (refine Ext.set ?_ (by first | omega | (simp only [World.size_alloc, size_setRow, dw_size]; omega)) _) | (refine Ext.tr ?_ (by assumption))))⟩
  · have hr' := hr
    simp only [ringP, Bool.and_eq_true, decide_eq_true_eq] at hr'
    simp (maxSteps := 1000000) (disch := first | assumption | omega | (simp only [World.size_alloc, size_setRow, dw_size]; done) | (simp only [World.size_alloc, size_setRow, dw_size] <;> omega) | (simp only [List.length_set, Array.length_toList, List.length_cons, List.length_nil, List.length_append, bts_size] <;> omega) | (simp only [List.all_cons, List.all_nil, Value.oneCell', Bool.and_self, Bool.and_true]; done)) [-Option.bind_some, hp_alloc_lt, hp_alloc_eq, hp_set_ne, wrap_small, ups_ap_cons, ups_ap_nil, upd_same, upd_other, env0_ap0, env0_aps, xt_a, xt_b, xt_c, -splice_eq, -stR_cells, stR_box, stR_boxA, stR_row, stR_row0, stR_row1, stR_rowA, stR_rowA0, splice_rowv, splice_rowv0, splice_rowv1, splice_z, splice_n, splice_s, nth_rowv, nth_rowv0, nth_rowv1, rowv_len, hr, X0, X1, hlt, E1.blk, X0, X1]
    refine Ret.bind (spec_l10At_m (s := s) (ha.ext F1)) ?_
    rintro ⟨_, w2⟩ ⟨rfl, E2⟩
    have zE2 := E2.size
    try simp only [World.size_alloc, size_setRow, dw_size] at zE2
    try dsimp only at E2
    have zE2 := E2.size
    have F2 : Ext w w2 := by (repeat (first | exact Ext.rfl | assumption | (refine Ext.al ?_ _) | (refine Ext.dw ?_) | (refine Ext.set ?_ (by first | omega | (simp only [World.size_alloc, size_setRow, dw_size]; omega)) _) | (refine Ext.tr ?_ (by assumption))))
    have X0 := (E2.blk (b := w.heap.size) (by omega)).trans X0
    have X1 := (E2.blk (b := w.heap.size + 1) (by omega)).trans X1
    simp only [← hk]
    simp (maxSteps := 1000000) (disch := first | assumption | omega | (simp only [World.size_alloc, size_setRow, dw_size]; done) | (simp only [World.size_alloc, size_setRow, dw_size] <;> omega) | (simp only [List.length_set, Array.length_toList, List.length_cons, List.length_nil, List.length_append, bts_size] <;> omega) | (simp only [List.all_cons, List.all_nil, Value.oneCell', Bool.and_self, Bool.and_true]; done)) [-Option.bind_some, hp_alloc_lt, hp_alloc_eq, hp_set_ne, wrap_small, ups_ap_cons, ups_ap_nil, upd_same, upd_other, env0_ap0, env0_aps, xt_a, xt_b, xt_c, -splice_eq, -stR_cells, stR_box, stR_boxA, stR_row, stR_row0, stR_row1, stR_rowA, stR_rowA0, splice_rowv, splice_rowv0, splice_rowv1, splice_z, splice_n, splice_s, nth_rowv, nth_rowv0, nth_rowv1, rowv_len, X0, X1, hst, hlt, E1.blk, X0, X1, E2.blk, X0, X1]
    refine Ret.bind (app_part (O.empty (g := w2.heap.size) (by first | assumption | rfl | (simp (maxSteps := 1000000) (disch := first | assumption | omega | (simp only [World.size_alloc, size_setRow, dw_size]; done) | (simp only [World.size_alloc, size_setRow, dw_size] <;> omega) | (simp only [List.length_set, Array.length_toList, List.length_cons, List.length_nil, List.length_append, bts_size] <;> omega) | (simp only [List.all_cons, List.all_nil, Value.oneCell', Bool.and_self, Bool.and_true]; done)) [-Option.bind_some, hp_alloc_lt, hp_alloc_eq, hp_set_ne, wrap_small, ups_ap_cons, ups_ap_nil, upd_same, upd_other, env0_ap0, env0_aps, xt_a, xt_b, xt_c, -splice_eq, -stR_cells, stR_box, stR_boxA, stR_row, stR_row0, stR_row1, stR_rowA, stR_rowA0, splice_rowv, splice_rowv0, splice_rowv1, splice_z, splice_n, splice_s, nth_rowv, nth_rowv0, nth_rowv1, rowv_len, hlt, E1.blk, X0, X1, E2.blk, X0, X1]; done))) (hDt'.ext (F2.al _)) (by simp; omega)) ?_
    rintro ⟨_, w3⟩ ⟨a3, c3, rfl, o3, M3⟩
    have zM3 := M3.size
    try simp only [World.size_alloc, size_setRow, dw_size] at zM3
    try dsimp only at o3 M3
    have zM3 := M3.size
    simp only [World.size_alloc, List.nil_append, List.length_nil, Nat.zero_add, hlt] at o3 zM3 ⊢
    have F3 : Ext w w3 := Mod.after (a := w) (F2.al (.cells #[] 9 (0, 0))) M3 (by intro x hx h; omega)
    have X0 : hp w3 w.heap.size = some (.cells #[.slice a xs.length c] 55 (0, 0)) := (M3.blk w.heap.size (by simp; omega) (by omega)).trans ((hp_alloc_lt (by omega)).trans X0)
    have X1 : hp w3 (w.heap.size + 1) = some (.cells #[.slice none 0 0] 55 (0, 0)) := (M3.blk (w.heap.size + 1) (by simp; omega) (by omega)).trans ((hp_alloc_lt (by omega)).trans X1)
    have o3 := o3.wide (S' := fun b => w2.heap.size ≤ b ∧ b < w3.heap.size) (fun b hb hl => by rcases hb with hb | hb <;> simp only [In] at * <;> omega)
    have hsame : ringDropP xs s = (xs, false) → Ret ((b_append P #[51, 51] 51 #[.slice a3 k c3, .slice a' (xs.length - k) (c - k)] w3).bind fun r44 => (bd P 55 #[(0, r44.1)] r44.2).bind fun r45 => (stR P 55 1 (w.heap.size + 1) 0 r45.1 r45.2 (hp r45.2 (w.heap.size + 1))).bind fun r46 => ((ldL P 55 (w.heap.size + 1) 0 r46.2 (consO (cellO (hp r46.2 (w.heap.size + 1)) 0) (some []))).bind fun r48 => ifP (r48.2 = r46.2) (some r48.1)).bind fun v49 => some (.tuple #[v49, .bool false], r46.2)) Q := by
      intro hP
      rw [hP] at hQ
      refine Ret.bind (app_part o3 (hDd'.ext F3) (by rw [hlt, hld]; omega)) ?_
      rintro ⟨_, w4⟩ ⟨a4, c4, rfl, o4, M4⟩
      have zM4 := M4.size
      try simp only [World.size_alloc, size_setRow, dw_size] at zM4
      try dsimp only at o4 M4
      have zM4 := M4.size
      have F4 : Ext w w4 := Mod.after (a := w) F3 M4 (by intro x hx h; omega)
      have X4 : hp w4 (w.heap.size + 1) = some (.cells #[.slice none 0 0] 55 (0, 0)) := (M4.blk (w.heap.size + 1) (by omega) (by omega)).trans X1
      rw [hlt, hld, show k + (xs.length - k) = xs.length by omega, List.take_append_drop] at o4
      rw [hlt, hld, show k + (xs.length - k) = xs.length by omega]
      simp (maxSteps := 1000000) (disch := first | assumption | omega | (simp only [World.size_alloc, size_setRow, dw_size]; done) | (simp only [World.size_alloc, size_setRow, dw_size] <;> omega) | (simp only [List.length_set, Array.length_toList, List.length_cons, List.length_nil, List.length_append, bts_size] <;> omega) | (simp only [List.all_cons, List.all_nil, Value.oneCell', Bool.and_self, Bool.and_true]; done)) [-Option.bind_some, hp_alloc_lt, hp_alloc_eq, hp_set_ne, wrap_small, ups_ap_cons, ups_ap_nil, upd_same, upd_other, env0_ap0, env0_aps, xt_a, xt_b, xt_c, -splice_eq, -stR_cells, stR_box, stR_boxA, stR_row, stR_row0, stR_row1, stR_rowA, stR_rowA0, splice_rowv, splice_rowv0, splice_rowv1, splice_z, splice_n, splice_s, nth_rowv, nth_rowv0, nth_rowv1, rowv_len, X4, hlt, E1.blk, X0, X1, E2.blk, X0, X1, M3.blk, M4.blk, X4]
      refine hQ _ ⟨a4, c4, rfl, O.wide (o4.keep (fun b hb hl => hp_set_ne ?_)) ?_, by (repeat (first | exact Ext.rfl | assumption | (refine Ext.al ?_ _) | (refine Ext.dw ?_) | (refine Ext.set ?_ (by first | omega | (simp only [World.size_alloc, size_setRow, dw_size]; omega)) _) | (refine Ext.tr ?_ (by assumption))))⟩
      · rcases hb with hb | hb <;> (try simp only [In] at hb) <;> omega
      · intro b hb hl
        simp only [In, size_setRow] at *
        omega
    cases ht : thereP xs s
    · simp (maxSteps := 1000000) (disch := first | assumption | omega | (simp only [World.size_alloc, size_setRow, dw_size]; done) | (simp only [World.size_alloc, size_setRow, dw_size] <;> omega) | (simp only [List.length_set, Array.length_toList, List.length_cons, List.length_nil, List.length_append, bts_size] <;> omega) | (simp only [List.all_cons, List.all_nil, Value.oneCell', Bool.and_self, Bool.and_true]; done)) [-Option.bind_some, hp_alloc_lt, hp_alloc_eq, hp_set_ne, wrap_small, ups_ap_cons, ups_ap_nil, upd_same, upd_other, env0_ap0, env0_aps, xt_a, xt_b, xt_c, -splice_eq, -stR_cells, stR_box, stR_boxA, stR_row, stR_row0, stR_row1, stR_rowA, stR_rowA0, splice_rowv, splice_rowv0, splice_rowv1, splice_z, splice_n, splice_s, nth_rowv, nth_rowv0, nth_rowv1, rowv_len, ht, X0, X1, hsd', hlt, E1.blk, X0, X1, E2.blk, X0, X1, M3.blk]
      exact hsame (by simp [ringDropP, hr, ht])
    · have hltk := there_lt ht
      obtain ⟨a'', hse, hDe⟩ := dropS_d (P := P) el_51 (k := k + 1) ha hc (by omega)
      have hle1 : (xs.drop (k + 1)).length = xs.length - (k + 1) := by simp
      rw [hle1] at hDe
      have hse' : ∀ w, sl P 51 (.slice a xs.length c) (some (i64 ((k : Int) + 1))) none none w = some (.slice a'' (xs.length - (k + 1)) (c - (k + 1)), w) := fun w => by rw [← hle1]; exact hse w
      rw [show ringDropP xs s = (xs.take k ++ xs.drop (k + 1), true) by simp [ringDropP, hr, ht, hk]] at hQ
      have hl : (xs.take k ++ xs.drop (k + 1)).length = xs.length - 1 := by simp; omega
      rw [hl] at hQ
      simp (maxSteps := 1000000) (disch := first | assumption | omega | (simp only [World.size_alloc, size_setRow, dw_size]; done) | (simp only [World.size_alloc, size_setRow, dw_size] <;> omega) | (simp only [List.length_set, Array.length_toList, List.length_cons, List.length_nil, List.length_append, bts_size] <;> omega) | (simp only [List.all_cons, List.all_nil, Value.oneCell', Bool.and_self, Bool.and_true]; done)) [-Option.bind_some, hp_alloc_lt, hp_alloc_eq, hp_set_ne, wrap_small, ups_ap_cons, ups_ap_nil, upd_same, upd_other, env0_ap0, env0_aps, xt_a, xt_b, xt_c, -splice_eq, -stR_cells, stR_box, stR_boxA, stR_row, stR_row0, stR_row1, stR_rowA, stR_rowA0, splice_rowv, splice_rowv0, splice_rowv1, splice_z, splice_n, splice_s, nth_rowv, nth_rowv0, nth_rowv1, rowv_len, ht, X0, X1, hse', hlt, E1.blk, X0, X1, E2.blk, X0, X1, M3.blk]
      refine Ret.bind (app_part o3 (hDe.ext F3) (by rw [hlt]; simp; omega)) ?_
      rintro ⟨_, w4⟩ ⟨a4, c4, rfl, o4, M4⟩
      have zM4 := M4.size
      try simp only [World.size_alloc, size_setRow, dw_size] at zM4
      try dsimp only at o4 M4
      have zM4 := M4.size
      have F4 : Ext w w4 := Mod.after (a := w) F3 M4 (by intro x hx h; omega)
      have X4 : hp w4 (w.heap.size + 1) = some (.cells #[.slice none 0 0] 55 (0, 0)) := (M4.blk (w.heap.size + 1) (by omega) (by omega)).trans X1
      have hl4 : (xs.take k).length + (xs.drop (k + 1)).length = xs.length - 1 := by simp; omega
      rw [hl4] at o4 ⊢
      simp (maxSteps := 1000000) (disch := first | assumption | omega | (simp only [World.size_alloc, size_setRow, dw_size]; done) | (simp only [World.size_alloc, size_setRow, dw_size] <;> omega) | (simp only [List.length_set, Array.length_toList, List.length_cons, List.length_nil, List.length_append, bts_size] <;> omega) | (simp only [List.all_cons, List.all_nil, Value.oneCell', Bool.and_self, Bool.and_true]; done)) [-Option.bind_some, hp_alloc_lt, hp_alloc_eq, hp_set_ne, wrap_small, ups_ap_cons, ups_ap_nil, upd_same, upd_other, env0_ap0, env0_aps, xt_a, xt_b, xt_c, -splice_eq, -stR_cells, stR_box, stR_boxA, stR_row, stR_row0, stR_row1, stR_rowA, stR_rowA0, splice_rowv, splice_rowv0, splice_rowv1, splice_z, splice_n, splice_s, nth_rowv, nth_rowv0, nth_rowv1, rowv_len, X4, hlt, E1.blk, X0, X1, E2.blk, X0, X1, M3.blk, M4.blk, X4]
      refine hQ _ ⟨a4, c4, rfl, O.wide (o4.keep (fun b hb hl => hp_set_ne ?_)) ?_, by (repeat (first | exact Ext.rfl | assumption | (refine Ext.al ?_ _) | (refine Ext.dw ?_) | (refine Ext.set ?_ (by first | omega | (simp only [World.size_alloc, size_setRow, dw_size]; omega)) _) | (refine Ext.tr ?_ (by assumption))))⟩
      · rcases hb with hb | hb <;> (try simp only [In] at hb) <;> omega
      · intro b hb hl
        simp only [In, size_setRow] at *
        omega
end Go.Proofs.Ytcafhepclddcaaa.X
