/- A part of the proof: an evaluator of the model, its laws, and contracts of functions; no condition. -/
import Derived.Test.YthicfemhpnnaaaaS6
set_option linter.unusedVariables false
set_option linter.unusedSimpArgs false
set_option maxRecDepth 100000
set_option maxHeartbeats 1000000
namespace Go.Proofs.Ythicfemhpnnaaaa.X
open Go Go.Ev Go.RowKit
def fitsL : List Ver → List Ver → List Ver → Bool
  | s, [], t => sameV s t
  | s, v :: l, t => match s[v.key.toNat]? with
    | some u => tagLess u.tag v.tag && fitsL (s.set v.key.toNat v) l t
    | none => false
theorem impl_Node_fits_n1 {a1 a2 : Option Addr} {c1 c2 c g g2 g5 B : Nat} {S Sw St : Nat → Prop} {wait store : List Ver} {w0 : World} (hok : ∀ v ∈ wait, verOk v = true) (hB : w0.heap.size ≤ B) (hg : B ≤ g)
    (hg2 : w0.heap.size ≤ g2) (hg5 : w0.heap.size ≤ g5) (h2g : g2 < B) (h5 : g5 ≠ g) (hS : ∀ b, S b → b < w0.heap.size ∨ (B ≤ b ∧ b ≠ g5 ∧ b ≠ g)) (hS2 : ∀ b, b < w0.heap.size → S b) :
    ∀ (d k : Nat) (e : Env) (w : World) (s : List Ver), k + d = wait.length → s.length = 4 → e 2 = pt g2 0 → e 5 = pt g5 0 → e 11 = .slice a1 wait.length c1 → e 12 = i64 wait.length → e 13 = i64 k → hp w g2 = some (.cells #[.slice a2 store.length c2, .slice a1 wait.length c1] 59 (0, 0)) → hp w g5 = some (.cells #[.slice (some ⟨g, 0, none⟩) 4 c] 57 (0, 0)) →
    D tVers Sw w0 [.slice a1 wait.length c1] wait → D tVers St w0 [.slice a2 store.length c2] store → Ext w0 w → g < w.heap.size → Row1 tVer 48 S w g s →
    Ret (impl_Node_fits_l1 e w) fun r => r.1 = .bool (fitsL s (wait.drop k) store) ∧ Ext w0 r.2 := by
  intro d
  induction d with
  | zero =>
    intro k e w s hd hs4 e2 e5 e11 e12 e13 X2 X5 ha hb E0 hgw ho
    have zE0 := E0.size
    try simp only [World.size_alloc, size_setRow, dw_size] at zE0
    rw [impl_Node_fits_l1_eq]
    obtain rfl : k = wait.length := by omega
    have y2 := hp_lt X2
    have y5 := hp_lt X5
    rw [List.drop_length]
    have hd0 := ho.d (mx := 1954687338211) (by omega) (by omega) c
    rw [hs4] at hd0
    refine Ret.post fun Q hQ => ?_
    simp (disch := first | assumption | omega | (simp only [World.size_alloc, size_setRow, dw_size]; done) | (simp only [World.size_alloc, size_setRow, dw_size] <;> omega) | (simp only [List.length_set, Array.length_toList, List.length_cons, List.length_nil, List.length_append, bts_size] <;> omega) | (simp only [List.all_cons, List.all_nil, Value.oneCell', Bool.and_self, Bool.and_true]; done)) [-Option.bind_some, hp_alloc_lt, hp_alloc_eq, hp_set_ne, wrap_small, ups_ap_cons, ups_ap_nil, upd_same, upd_other, env0_ap0, env0_aps, xt_a, xt_b, xt_c, -splice_eq, -stR_cells, stR_box, stR_boxA, stR_row, stR_row0, stR_row1, stR_rowA, stR_rowA0, splice_rowv, splice_rowv0, splice_rowv1, splice_z, splice_n, splice_s, nth_rowv, nth_rowv0, nth_rowv1, rowv_len, e2, e5, e11, e12, e13, X2, X5, e2, e5, e11, e12, e13, X2, X5, E0.blk]
    refine Ret.bind (impl_Store_same_m hd0 (hb.ext E0)) ?_
    rintro ⟨_, w1⟩ ⟨rfl, E1⟩
    try dsimp only at E1
    have zE1 := E1.size
    try simp only [World.size_alloc, size_setRow, dw_size] at zE1
    simp (disch := first | assumption | omega | (simp only [World.size_alloc, size_setRow, dw_size]; done) | (simp only [World.size_alloc, size_setRow, dw_size] <;> omega) | (simp only [List.length_set, Array.length_toList, List.length_cons, List.length_nil, List.length_append, bts_size] <;> omega) | (simp only [List.all_cons, List.all_nil, Value.oneCell', Bool.and_self, Bool.and_true]; done)) [-Option.bind_some, hp_alloc_lt, hp_alloc_eq, hp_set_ne, wrap_small, ups_ap_cons, ups_ap_nil, upd_same, upd_other, env0_ap0, env0_aps, xt_a, xt_b, xt_c, -splice_eq, -stR_cells, stR_box, stR_boxA, stR_row, stR_row0, stR_row1, stR_rowA, stR_rowA0, splice_rowv, splice_rowv0, splice_rowv1, splice_z, splice_n, splice_s, nth_rowv, nth_rowv0, nth_rowv1, rowv_len, e2, e5, e11, e12, e13, X2, X5, E0.blk, E1.blk]
    exact hQ _ ⟨rfl, by (repeat (first | exact Ext.rfl | assumption | (refine Ext.al ?_ _) | (refine Ext.dw ?_) | (refine Ext.set ?_ (by first | omega | (simp only [World.size_alloc, size_setRow, dw_size]; omega)) _) | (refine Ext.tr ?_ (by assumption))))⟩
  | succ d ih =>
    intro k e w s hd hs4 e2 e5 e11 e12 e13 X2 X5 ha hb E0 hgw ho
    have zE0 := E0.size
    try simp only [World.size_alloc, size_setRow, dw_size] at zE0
    rw [impl_Node_fits_l1_eq]
    have hlt : k < wait.length := by omega
    obtain ⟨v, hv, hdv⟩ := drop_at hlt
    have hvo := hok v (List.mem_of_getElem? hv)
    have hk := verOk_key hvo
    have h4 : v.key.toNat < s.length := by omega
    obtain ⟨u, hu, _⟩ := drop_at h4
    have hn := ha.n
    have y2 := hp_lt X2
    have y5 := hp_lt X5
    obtain ⟨b1, o1, cs1, rfl, A1, D1, hb1, l1⟩ := ha.lt.at (by decide) hv
    have D1' := D1
    obtain ⟨av, cv, rfl, hq1, ht1⟩ := D.ver.1 D1
    have p0 := A1 0 _ rfl
    have p1 := A1 1 _ rfl
    have p2 := A1 2 _ rfl
    have p3 := A1 3 _ rfl
    have p4 := A1 4 _ rfl
    have p5 := A1 5 _ rfl
    simp only [LVer_n, LTag_n, LNode_n, Nat.add_zero] at p0 p1 p2 p3 p4 p5
    have hd0 := ho.d (mx := 1954687338211) (by omega) (by omega) c
    rw [hs4] at hd0
    obtain ⟨cur, cs, hgr, hle, hcs, D2, put⟩ := ho.row hu
    obtain ⟨au, cu, rfl, hq2, ht2⟩ := D.ver.1 D2
    simp only [LVer_n] at hgr hle put
    rw [hdv]
    have hfl : fitsL s (v :: wait.drop (k + 1)) store = (tagLess u.tag v.tag && fitsL (s.set v.key.toNat v) (wait.drop (k + 1)) store) := by rw [fitsL, hu]
    rw [hfl]
    refine Ret.post fun Q hQ => ?_
    simp (disch := first | assumption | omega | (simp only [World.size_alloc, size_setRow, dw_size]; done) | (simp only [World.size_alloc, size_setRow, dw_size] <;> omega) | (simp only [List.length_set, Array.length_toList, List.length_cons, List.length_nil, List.length_append, bts_size] <;> omega) | (simp only [List.all_cons, List.all_nil, Value.oneCell', Bool.and_self, Bool.and_true]; done)) [-Option.bind_some, hp_alloc_lt, hp_alloc_eq, hp_set_ne, wrap_small, ups_ap_cons, ups_ap_nil, upd_same, upd_other, env0_ap0, env0_aps, xt_a, xt_b, xt_c, -splice_eq, -stR_cells, stR_box, stR_boxA, stR_row, stR_row0, stR_row1, stR_rowA, stR_rowA0, splice_rowv, splice_rowv0, splice_rowv1, splice_z, splice_n, splice_s, nth_rowv, nth_rowv0, nth_rowv1, rowv_len, e2, e5, e11, e12, e13, X2, X5, hlt, ia_55, e2, e5, e11, e12, e13, X2, X5, E0.blk, hlt, p0, p1, p2, p3, p4, p5]
    refine Ret.bind (impl_Store_later_n (hd0.ext (by (repeat (first | exact Ext.rfl | assumption | (refine Ext.al ?_ _) | (refine Ext.dw ?_) | (refine Ext.set ?_ (by first | omega | (simp only [World.size_alloc, size_setRow, dw_size]; omega)) _) | (refine Ext.tr ?_ (by assumption)))))) (D1.ext (by (repeat (first | exact Ext.rfl | assumption | (refine Ext.al ?_ _) | (refine Ext.dw ?_) | (refine Ext.set ?_ (by first | omega | (simp only [World.size_alloc, size_setRow, dw_size]; omega)) _) | (refine Ext.tr ?_ (by assumption)))))) hk.1 hu) ?_
    rintro ⟨_, w1⟩ ⟨rfl, E1⟩
    try dsimp only at E1
    have zE1 := E1.size
    try simp only [World.size_alloc, size_setRow, dw_size] at zE1
    cases hl : tagLess u.tag v.tag
    · rw [hl] at hQ
      simp (disch := first | assumption | omega | (simp only [World.size_alloc, size_setRow, dw_size]; done) | (simp only [World.size_alloc, size_setRow, dw_size] <;> omega) | (simp only [List.length_set, Array.length_toList, List.length_cons, List.length_nil, List.length_append, bts_size] <;> omega) | (simp only [List.all_cons, List.all_nil, Value.oneCell', Bool.and_self, Bool.and_true]; done)) [-Option.bind_some, hp_alloc_lt, hp_alloc_eq, hp_set_ne, wrap_small, ups_ap_cons, ups_ap_nil, upd_same, upd_other, env0_ap0, env0_aps, xt_a, xt_b, xt_c, -splice_eq, -stR_cells, stR_box, stR_boxA, stR_row, stR_row0, stR_row1, stR_rowA, stR_rowA0, splice_rowv, splice_rowv0, splice_rowv1, splice_z, splice_n, splice_s, nth_rowv, nth_rowv0, nth_rowv1, rowv_len, e2, e5, e11, e12, e13, X2, X5, E0.blk, hlt, p0, p1, p2, p3, p4, p5, E1.blk]
      exact hQ _ ⟨rfl, by (repeat (first | exact Ext.rfl | assumption | (refine Ext.al ?_ _) | (refine Ext.dw ?_) | (refine Ext.set ?_ (by first | omega | (simp only [World.size_alloc, size_setRow, dw_size]; omega)) _) | (refine Ext.tr ?_ (by assumption))))⟩
    · rw [hl] at hQ
      simp (disch := first | assumption | omega | (simp only [World.size_alloc, size_setRow, dw_size]; done) | (simp only [World.size_alloc, size_setRow, dw_size] <;> omega) | (simp only [List.length_set, Array.length_toList, List.length_cons, List.length_nil, List.length_append, bts_size] <;> omega) | (simp only [List.all_cons, List.all_nil, Value.oneCell', Bool.and_self, Bool.and_true]; done)) [-Option.bind_some, hp_alloc_lt, hp_alloc_eq, hp_set_ne, wrap_small, ups_ap_cons, ups_ap_nil, upd_same, upd_other, env0_ap0, env0_aps, xt_a, xt_b, xt_c, -splice_eq, -stR_cells, stR_box, stR_boxA, stR_row, stR_row0, stR_row1, stR_rowA, stR_rowA0, splice_rowv, splice_rowv0, splice_rowv1, splice_z, splice_n, splice_s, nth_rowv, nth_rowv0, nth_rowv1, rowv_len, e2, e5, e11, e12, e13, X2, X5, hlt, ia_55, hgr, show v.key < 4 by omega, e2, e5, e11, e12, e13, X2, X5, E0.blk, hlt, p0, p1, p2, p3, p4, p5, E1.blk]
      have E2 : Ext w0 w1 := by (repeat (first | exact Ext.rfl | assumption | (refine Ext.al ?_ _) | (refine Ext.dw ?_) | (refine Ext.set ?_ (by first | omega | (simp only [World.size_alloc, size_setRow, dw_size]; omega)) _) | (refine Ext.tr ?_ (by assumption))))
      have zE2 := E2.size
      try simp only [World.size_alloc, size_setRow, dw_size] at zE2
      refine Ret.mono (ih (k + 1) _ _ (s.set v.key.toNat v) (by omega) (by simpa using hs4) (by first | omega | assumption | rfl | exact congrArg i64 (by omega) | (simp; done) | (simp; omega)) (by first | omega | assumption | rfl | exact congrArg i64 (by omega) | (simp; done) | (simp; omega)) (by first | omega | assumption | rfl | exact congrArg i64 (by omega) | (simp; done) | (simp; omega)) (by first | omega | assumption | rfl | exact congrArg i64 (by omega) | (simp; done) | (simp; omega)) (by first | omega | assumption | rfl | exact congrArg i64 (by omega) | (simp; done) | (simp; omega)) (by first | assumption | rfl | (simp (disch := first | assumption | omega | (simp only [World.size_alloc, size_setRow, dw_size]; done) | (simp only [World.size_alloc, size_setRow, dw_size] <;> omega) | (simp only [List.length_set, Array.length_toList, List.length_cons, List.length_nil, List.length_append, bts_size] <;> omega) | (simp only [List.all_cons, List.all_nil, Value.oneCell', Bool.and_self, Bool.and_true]; done)) [-Option.bind_some, hp_alloc_lt, hp_alloc_eq, hp_set_ne, wrap_small, ups_ap_cons, ups_ap_nil, upd_same, upd_other, env0_ap0, env0_aps, xt_a, xt_b, xt_c, -splice_eq, -stR_cells, stR_box, stR_boxA, stR_row, stR_row0, stR_row1, stR_rowA, stR_rowA0, splice_rowv, splice_rowv0, splice_rowv1, splice_z, splice_n, splice_s, nth_rowv, nth_rowv0, nth_rowv1, rowv_len, X2, e2, e5, e11, e12, e13, X2, X5, E0.blk, hlt, p0, p1, p2, p3, p4, p5, E1.blk, E2.blk]; done)) (by first | assumption | rfl | (simp (disch := first | assumption | omega | (simp only [World.size_alloc, size_setRow, dw_size]; done) | (simp only [World.size_alloc, size_setRow, dw_size] <;> omega) | (simp only [List.length_set, Array.length_toList, List.length_cons, List.length_nil, List.length_append, bts_size] <;> omega) | (simp only [List.all_cons, List.all_nil, Value.oneCell', Bool.and_self, Bool.and_true]; done)) [-Option.bind_some, hp_alloc_lt, hp_alloc_eq, hp_set_ne, wrap_small, ups_ap_cons, ups_ap_nil, upd_same, upd_other, env0_ap0, env0_aps, xt_a, xt_b, xt_c, -splice_eq, -stR_cells, stR_box, stR_boxA, stR_row, stR_row0, stR_row1, stR_rowA, stR_rowA0, splice_rowv, splice_rowv0, splice_rowv1, splice_z, splice_n, splice_s, nth_rowv, nth_rowv0, nth_rowv1, rowv_len, X5, e2, e5, e11, e12, e13, X2, X5, E0.blk, hlt, p0, p1, p2, p3, p4, p5, E1.blk, E2.blk]; done)) ha hb (by (repeat (first | exact Ext.rfl | assumption | (refine Ext.al ?_ _) | (refine Ext.dw ?_) | (refine Ext.set ?_ (by first | omega | (simp only [World.size_alloc, size_setRow, dw_size]; omega)) _) | (refine Ext.tr ?_ (by assumption))))) (by simp only [size_setRow]; omega) ?_) hQ
      refine put _ _ v ((D1.wide (S' := S) fun b h _ => hS2 b h.2).keep (by intro b hS' hb; have := hS b hS'; simp (disch := first | assumption | omega | (simp only [World.size_alloc, size_setRow, dw_size]; omega)) only [E0.blk, E1.blk, hp_alloc_lt, hp_set_ne, hp_dw])) (by first | assumption | rfl | (simp (disch := first | assumption | omega | (simp only [World.size_alloc, size_setRow, dw_size]; done) | (simp only [World.size_alloc, size_setRow, dw_size] <;> omega) | (simp only [List.length_set, Array.length_toList, List.length_cons, List.length_nil, List.length_append, bts_size] <;> omega) | (simp only [List.all_cons, List.all_nil, Value.oneCell', Bool.and_self, Bool.and_true]; done)) [-Option.bind_some, hp_alloc_lt, hp_alloc_eq, hp_set_ne, wrap_small, ups_ap_cons, ups_ap_nil, upd_same, upd_other, env0_ap0, env0_aps, xt_a, xt_b, xt_c, -splice_eq, -stR_cells, stR_box, stR_boxA, stR_row, stR_row0, stR_row1, stR_rowA, stR_rowA0, splice_rowv, splice_rowv0, splice_rowv1, splice_z, splice_n, splice_s, nth_rowv, nth_rowv0, nth_rowv1, rowv_len, hgr, e2, e5, e11, e12, e13, X2, X5, E0.blk, hlt, p0, p1, p2, p3, p4, p5, E1.blk, E2.blk]; done)) ?_
      intro b hb hS'
      have := hS b hS'
      simp (disch := first | assumption | omega | (simp only [World.size_alloc, size_setRow, dw_size]; omega)) only [E1.blk, hp_alloc_lt, hp_set_ne, hp_dw]
theorem impl_Node_fits_m {S1 S2 S3 : Nat → Prop} {a1 a2 b : Option Addr} {c1 c2 n m k d : Nat} {wait store next : List Ver} {w : World} (hok : ∀ v ∈ wait, verOk v = true) (hn4 : next.length = 4) (hs : D tVers S1 w [.slice a1 n c1] store) (hw : D tVers S2 w [.slice a2 m c2] wait) (hx : D tVers S3 w [.slice b k d] next) :
    Ret (EV P 59 #[.agg #[.slice a1 n c1, .slice a2 m c2], .agg #[.slice b k d]] w) fun r => r.1 = .bool (fitsL next wait store) ∧ Ext w r.2 := by
  obtain ⟨rfl, hm, _⟩ := hs.n
  obtain ⟨rfl, hm2, _⟩ := hw.n
  obtain ⟨rfl, hm3, _⟩ := hx.n
  refine Ret.post fun Q hQ => ?_
  refine Ret.enter plain mixed (impl_Node_fits_fn _ _ _) (by kernel_rfl) (n := 2) (by kernel_rfl) rfl ?_
  simp (disch := first | assumption | omega | (simp only [World.size_alloc, size_setRow, dw_size]; done) | (simp only [World.size_alloc, size_setRow, dw_size] <;> omega) | (simp only [List.length_set, Array.length_toList, List.length_cons, List.length_nil, List.length_append, bts_size] <;> omega) | (simp only [List.all_cons, List.all_nil, Value.oneCell', Bool.and_self, Bool.and_true]; done)) [-Option.bind_some, hp_alloc_lt, hp_alloc_eq, hp_set_ne, wrap_small, ups_ap_cons, ups_ap_nil, upd_same, upd_other, env0_ap0, env0_aps, xt_a, xt_b, xt_c, -splice_eq, -stR_cells, stR_box, stR_boxA, stR_row, stR_row0, stR_row1, stR_rowA, stR_rowA0, splice_rowv, splice_rowv0, splice_rowv1, splice_z, splice_n, splice_s, nth_rowv, nth_rowv0, nth_rowv1, rowv_len]
  refine Ret.bind (impl_Store_copied_n (hx.ext (by (repeat (first | exact Ext.rfl | assumption | (refine Ext.al ?_ _) | (refine Ext.dw ?_) | (refine Ext.set ?_ (by first | omega | (simp only [World.size_alloc, size_setRow, dw_size]; omega)) _) | (refine Ext.tr ?_ (by assumption))))))) ?_
  rintro ⟨_, w1⟩ ⟨a3, c3, rfl, o3, E3⟩
  try dsimp only at a3 c3 o3 E3
  have zE3 := E3.size
  try simp only [World.size_alloc, size_setRow, dw_size] at zE3
  rw [hn4] at o3
  obtain ⟨g, cur, cs, S4, rfl, hSg, hgl, hg, _, _, _, _⟩ := o3.row (x := next[0]) (i := 0) (by decide) (List.getElem?_eq_getElem (by omega))
  simp only [In, World.size_alloc] at hSg
  simp (disch := first | assumption | omega | (simp only [World.size_alloc, size_setRow, dw_size]; done) | (simp only [World.size_alloc, size_setRow, dw_size] <;> omega) | (simp only [List.length_set, Array.length_toList, List.length_cons, List.length_nil, List.length_append, bts_size] <;> omega) | (simp only [List.all_cons, List.all_nil, Value.oneCell', Bool.and_self, Bool.and_true]; done)) [-Option.bind_some, hp_alloc_lt, hp_alloc_eq, hp_set_ne, wrap_small, ups_ap_cons, ups_ap_nil, upd_same, upd_other, env0_ap0, env0_aps, xt_a, xt_b, xt_c, -splice_eq, -stR_cells, stR_box, stR_boxA, stR_row, stR_row0, stR_row1, stR_rowA, stR_rowA0, splice_rowv, splice_rowv0, splice_rowv1, splice_z, splice_n, splice_s, nth_rowv, nth_rowv0, nth_rowv1, rowv_len, hn4, E3.blk, hg]
  refine Ret.mono (impl_Node_fits_n1 (c := c3) (g := g) (g2 := w.heap.size) (g5 := w1.heap.size) (B := w.heap.size + 1 + 1) (S := fun b => b < w.heap.size ∨ (In (w.heap.size + 1 + 1) w1.heap.size b ∧ b ≠ g)) (w0 := w) (store := store) (wait := wait) hok (by omega) (by omega) (by omega) (by omega) (by omega) (by omega) (by intro b hb; simp only [In] at hb; omega) (fun b hb => .inl hb) wait.length 0 _ _ next (by omega) hn4 rfl rfl rfl rfl rfl (by first | assumption | rfl | (simp (disch := first | assumption | omega | (simp only [World.size_alloc, size_setRow, dw_size]; done) | (simp only [World.size_alloc, size_setRow, dw_size] <;> omega) | (simp only [List.length_set, Array.length_toList, List.length_cons, List.length_nil, List.length_append, bts_size] <;> omega) | (simp only [List.all_cons, List.all_nil, Value.oneCell', Bool.and_self, Bool.and_true]; done)) [-Option.bind_some, hp_alloc_lt, hp_alloc_eq, hp_set_ne, wrap_small, ups_ap_cons, ups_ap_nil, upd_same, upd_other, env0_ap0, env0_aps, xt_a, xt_b, xt_c, -splice_eq, -stR_cells, stR_box, stR_boxA, stR_row, stR_row0, stR_row1, stR_rowA, stR_rowA0, splice_rowv, splice_rowv0, splice_rowv1, splice_z, splice_n, splice_s, nth_rowv, nth_rowv0, nth_rowv1, rowv_len, E3.blk, hg]; done)) (by first | assumption | rfl | (simp (disch := first | assumption | omega | (simp only [World.size_alloc, size_setRow, dw_size]; done) | (simp only [World.size_alloc, size_setRow, dw_size] <;> omega) | (simp only [List.length_set, Array.length_toList, List.length_cons, List.length_nil, List.length_append, bts_size] <;> omega) | (simp only [List.all_cons, List.all_nil, Value.oneCell', Bool.and_self, Bool.and_true]; done)) [-Option.bind_some, hp_alloc_lt, hp_alloc_eq, hp_set_ne, wrap_small, ups_ap_cons, ups_ap_nil, upd_same, upd_other, env0_ap0, env0_aps, xt_a, xt_b, xt_c, -splice_eq, -stR_cells, stR_box, stR_boxA, stR_row, stR_row0, stR_row1, stR_rowA, stR_rowA0, splice_rowv, splice_rowv0, splice_rowv1, splice_z, splice_n, splice_s, nth_rowv, nth_rowv0, nth_rowv1, rowv_len, E3.blk, hg]; done)) hw hs (by (repeat (first | exact Ext.rfl | assumption | (refine Ext.al ?_ _) | (refine Ext.dw ?_) | (refine Ext.set ?_ (by first | omega | (simp only [World.size_alloc, size_setRow, dw_size]; omega)) _) | (refine Ext.tr ?_ (by assumption))))) (by simp; omega) ?_) ?_
  · refine (o3.row1.wide (S' := fun b => b < w.heap.size ∨ (In (w.heap.size + 1 + 1) w1.heap.size b ∧ b ≠ g)) ?_ ?_).keep ?_
    · intro b h1 h2
      simp only [In, World.size_alloc] at *
      omega
    · intro b h1
      simp only [In] at h1
      omega
    · intro b h1 h2
      simp only [In] at h1
      simp (disch := first | assumption | omega | (simp only [World.size_alloc, size_setRow, dw_size]; omega)) only [hp_alloc_lt, hp_set_ne]
  · rintro r ⟨h1, h2⟩
    exact hQ _ ⟨by rw [h1]; simp, h2⟩
end Go.Proofs.Ythicfemhpnnaaaa.X
