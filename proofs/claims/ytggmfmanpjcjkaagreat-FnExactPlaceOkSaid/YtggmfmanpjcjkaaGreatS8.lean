/- A part of the proof: an evaluator of the model, its laws, and contracts of functions; no condition. -/
import Derived.Test.YtggmfmanpjcjkaaGreatEvK
import Derived.Test.YtggmfmanpjcjkaaGreatS5
set_option linter.unusedVariables false
set_option linter.unusedSimpArgs false
set_option maxRecDepth 100000
set_option maxHeartbeats 1000000
namespace Go.Proofs.YtggmfmanpjcjkaaGreat.X
open Go Go.Ev Go.RowKit
theorem slices_Equal_Tag_n {a b : Option Addr} {c c' : Nat} {S S' : Nat → Prop} {xs ys : List Tag} {w0 : World} (hl : xs.length = ys.length) :
    ∀ (d k : Nat) (e : Env) (w : World), k + d = xs.length → e 0 = .slice a xs.length c → e 1 = .slice b ys.length c' → e 12 = i64 xs.length → e 13 = i64 k → D tTags S w0 [.slice a xs.length c] xs → D tTags S' w0 [.slice b ys.length c'] ys → Ext w0 w →
    Ret (slices_Equal_Tag_l1 e w) fun r => r.1 = .bool (xs.drop k == ys.drop k) ∧ Ext w0 r.2 := by
  intro d
  induction d with
  | zero =>
    intro k e w hd e0 e1 e12 e13 ha hb E0
    have zE0 := E0.size
    try simp only [World.size_alloc, size_setRow, dw_size] at zE0
    rw [slices_Equal_Tag_l1_eq]
    obtain rfl : k = xs.length := by omega
    refine Ret.post fun Q hQ => ?_
    simp (maxSteps := 1000000) (disch := first | assumption | omega | (simp only [World.size_alloc, size_setRow, dw_size]; done) | (simp only [World.size_alloc, size_setRow, dw_size] <;> omega) | (simp only [List.length_set, Array.length_toList, List.length_cons, List.length_nil, List.length_append, bts_size] <;> omega) | (simp only [List.all_cons, List.all_nil, Value.oneCell', Bool.and_self, Bool.and_true]; done)) [-Option.bind_some, hp_alloc_lt, hp_alloc_eq, hp_set_ne, wrap_small, ups_ap_cons, ups_ap_nil, upd_same, upd_other, env0_ap0, env0_aps, xt_a, xt_b, xt_c, -splice_eq, -stR_cells, stR_box, stR_boxA, stR_row, stR_row0, stR_row1, stR_rowA, stR_rowA0, splice_rowv, splice_rowv0, splice_rowv1, splice_z, splice_n, splice_s, nth_rowv, nth_rowv0, nth_rowv1, rowv_len, e0, e1, e12, e13, e0, e1, e12, e13, E0.blk]
    rw [List.drop_length, hl, List.drop_length] at hQ
    exact hQ _ ⟨by simp, E0⟩
  | succ d ih =>
    intro k e w hd e0 e1 e12 e13 ha hb E0
    have zE0 := E0.size
    try simp only [World.size_alloc, size_setRow, dw_size] at zE0
    rw [slices_Equal_Tag_l1_eq]
    have hlt : k < xs.length := by omega
    have hlt2 : k < ys.length := by omega
    obtain ⟨x, hx, hdx⟩ := drop_at hlt
    obtain ⟨y, hy, hdy⟩ := drop_at hlt2
    have hn := ha.n
    obtain ⟨b1, o1, cs1, rfl, A1, D1, _, l1⟩ := (ha.ext E0).at (by decide) hx
    obtain rfl := D.tag.1 D1
    have p0 := A1 0 _ rfl
    have p1 := A1 1 _ rfl
    simp only [LVer_n, LTag_n, LNode_n, Nat.add_zero] at p0 p1
    obtain ⟨b2, o2, cs2, rfl, A2, D2, _, l2⟩ := (hb.ext E0).at (by decide) hy
    obtain rfl := D.tag.1 D2
    have q0 := A2 0 _ rfl
    have q1 := A2 1 _ rfl
    simp only [LVer_n, LTag_n, LNode_n, Nat.add_zero] at q0 q1
    rw [hdx, hdy]
    refine Ret.post fun Q hQ => ?_
    cases hxy : ((x.t == y.t) && (x.p == y.p))
    · have hne : (x :: xs.drop (k + 1) == y :: ys.drop (k + 1)) = false := by
        rw [beq_eq_false_iff_ne]
        intro h
        obtain ⟨rfl, _⟩ := List.cons.inj h
        simp at hxy
      rw [hne] at hQ
      simp (maxSteps := 1000000) (disch := first | assumption | omega | (simp only [World.size_alloc, size_setRow, dw_size]; done) | (simp only [World.size_alloc, size_setRow, dw_size] <;> omega) | (simp only [List.length_set, Array.length_toList, List.length_cons, List.length_nil, List.length_append, bts_size] <;> omega) | (simp only [List.all_cons, List.all_nil, Value.oneCell', Bool.and_self, Bool.and_true]; done)) [-Option.bind_some, hp_alloc_lt, hp_alloc_eq, hp_set_ne, wrap_small, ups_ap_cons, ups_ap_nil, upd_same, upd_other, env0_ap0, env0_aps, xt_a, xt_b, xt_c, -splice_eq, -stR_cells, stR_box, stR_boxA, stR_row, stR_row0, stR_row1, stR_rowA, stR_rowA0, splice_rowv, splice_rowv0, splice_rowv1, splice_z, splice_n, splice_s, nth_rowv, nth_rowv0, nth_rowv1, rowv_len, e0, e1, e12, e13, hlt, ia_60, hxy, e0, e1, e12, e13, E0.blk, hlt, hlt2, p0, p1, q0, q1]
      exact hQ _ ⟨rfl, by (repeat (first | exact Ext.rfl | assumption | (refine Ext.al ?_ _) | (refine Ext.dw ?_) | (refine Ext.set ?_ (by first | omega | (simp only [World.size_alloc, size_setRow, dw_size]; omega)) _) | (refine Ext.tr ?_ (by assumption))))⟩
    · have he : x = y := by
        simp only [Bool.and_eq_true, beq_iff_eq] at hxy
        obtain ⟨xt, xp⟩ := x
        obtain ⟨yt, yp⟩ := y
        simp only [Tag.mk.injEq]
        exact hxy
      subst he
      have hcc : (x :: xs.drop (k + 1) == x :: ys.drop (k + 1)) = (xs.drop (k + 1) == ys.drop (k + 1)) := by simp
      rw [hcc] at hQ
      simp (maxSteps := 1000000) (disch := first | assumption | omega | (simp only [World.size_alloc, size_setRow, dw_size]; done) | (simp only [World.size_alloc, size_setRow, dw_size] <;> omega) | (simp only [List.length_set, Array.length_toList, List.length_cons, List.length_nil, List.length_append, bts_size] <;> omega) | (simp only [List.all_cons, List.all_nil, Value.oneCell', Bool.and_self, Bool.and_true]; done)) [-Option.bind_some, hp_alloc_lt, hp_alloc_eq, hp_set_ne, wrap_small, ups_ap_cons, ups_ap_nil, upd_same, upd_other, env0_ap0, env0_aps, xt_a, xt_b, xt_c, -splice_eq, -stR_cells, stR_box, stR_boxA, stR_row, stR_row0, stR_row1, stR_rowA, stR_rowA0, splice_rowv, splice_rowv0, splice_rowv1, splice_z, splice_n, splice_s, nth_rowv, nth_rowv0, nth_rowv1, rowv_len, e0, e1, e12, e13, hlt, ia_60, hxy, e0, e1, e12, e13, E0.blk, hlt, hlt2, p0, p1, q0, q1]
      exact Ret.mono (ih (k + 1) _ _ (by omega) (by first | omega | assumption | rfl | exact congrArg i64 (by omega) | (simp; done) | (simp; omega)) (by first | omega | assumption | rfl | exact congrArg i64 (by omega) | (simp; done) | (simp; omega)) (by first | omega | assumption | rfl | exact congrArg i64 (by omega) | (simp; done) | (simp; omega)) (by first | omega | assumption | rfl | exact congrArg i64 (by omega) | (simp; done) | (simp; omega)) ha hb (by (repeat (first | exact Ext.rfl | assumption | (refine Ext.al ?_ _) | (refine Ext.dw ?_) | (refine Ext.set ?_ (by first | omega | (simp only [World.size_alloc, size_setRow, dw_size]; omega)) _) | (refine Ext.tr ?_ (by assumption)))))) hQ
theorem slices_Equal_Tag_m {a b : Option Addr} {n m c c' : Nat} {S S' : Nat → Prop} {xs ys : List Tag} {w : World} (ha : D tTags S w [.slice a n c] xs) (hb : D tTags S' w [.slice b m c'] ys) :
    Ret (EV P 101 #[.slice a n c, .slice b m c'] w) fun r => r.1 = .bool (xs == ys) ∧ Ext w r.2 := by
  obtain ⟨rfl, hm, _⟩ := ha.n
  obtain ⟨rfl, hm2, _⟩ := hb.n
  refine Ret.post fun Q hQ => ?_
  refine Ret.enter plain mixed (slices_Equal_Tag_fn _ _ _) (by kernel_rfl) (n := 2) (by kernel_rfl) rfl ?_
  cases hl : ((xs.length : Int) != ys.length)
  · simp (maxSteps := 1000000) (disch := first | assumption | omega | (simp only [World.size_alloc, size_setRow, dw_size]; done) | (simp only [World.size_alloc, size_setRow, dw_size] <;> omega) | (simp only [List.length_set, Array.length_toList, List.length_cons, List.length_nil, List.length_append, bts_size] <;> omega) | (simp only [List.all_cons, List.all_nil, Value.oneCell', Bool.and_self, Bool.and_true]; done)) [-Option.bind_some, hp_alloc_lt, hp_alloc_eq, hp_set_ne, wrap_small, ups_ap_cons, ups_ap_nil, upd_same, upd_other, env0_ap0, env0_aps, xt_a, xt_b, xt_c, -splice_eq, -stR_cells, stR_box, stR_boxA, stR_row, stR_row0, stR_row1, stR_rowA, stR_rowA0, splice_rowv, splice_rowv0, splice_rowv1, splice_z, splice_n, splice_s, nth_rowv, nth_rowv0, nth_rowv1, rowv_len, hl]
    have hl : xs.length = ys.length := by simp only [bne_eq_false_iff_eq] at hl; omega
    refine Ret.mono (slices_Equal_Tag_n hl xs.length 0 _ w (by omega) rfl rfl rfl rfl ha hb Ext.rfl) ?_
    rintro r ⟨h1, h2⟩
    exact hQ _ ⟨by rw [h1]; simp, h2⟩
  · have hne : (xs == ys) = false := by
      rw [beq_eq_false_iff_ne]
      rintro rfl
      simp at hl
    rw [hne] at hQ
    simp (maxSteps := 1000000) (disch := first | assumption | omega | (simp only [World.size_alloc, size_setRow, dw_size]; done) | (simp only [World.size_alloc, size_setRow, dw_size] <;> omega) | (simp only [List.length_set, Array.length_toList, List.length_cons, List.length_nil, List.length_append, bts_size] <;> omega) | (simp only [List.all_cons, List.all_nil, Value.oneCell', Bool.and_self, Bool.and_true]; done)) [-Option.bind_some, hp_alloc_lt, hp_alloc_eq, hp_set_ne, wrap_small, ups_ap_cons, ups_ap_nil, upd_same, upd_other, env0_ap0, env0_aps, xt_a, xt_b, xt_c, -splice_eq, -stR_cells, stR_box, stR_boxA, stR_row, stR_row0, stR_row1, stR_rowA, stR_rowA0, splice_rowv, splice_rowv0, splice_rowv1, splice_z, splice_n, splice_s, nth_rowv, nth_rowv0, nth_rowv1, rowv_len, hl]
    exact hQ _ ⟨rfl, by (repeat (first | exact Ext.rfl | assumption | (refine Ext.al ?_ _) | (refine Ext.dw ?_) | (refine Ext.set ?_ (by first | omega | (simp only [World.size_alloc, size_setRow, dw_size]; omega)) _) | (refine Ext.tr ?_ (by assumption))))⟩
theorem impl_Ver_same_m {S S' : Nat → Prop} {cs ds : List Value} {v u : Ver} {w : World} (ha : D tVer S w cs v) (hb : D tVer S' w ds u) : Ret (EV P 68 #[.agg cs.toArray, .agg ds.toArray] w) fun r => r.1 = .bool (verEq v u) ∧ Ext w r.2 := by
  obtain ⟨a, c, rfl, hp1, ht1⟩ := D.ver.1 ha
  obtain ⟨a', c', rfl, hp2, ht2⟩ := D.ver.1 hb
  refine Ret.post fun Q hQ => ?_
  refine Ret.enter plain mixed (impl_Ver_same_fn _ _ _) (by kernel_rfl) (n := 2) (by kernel_rfl) rfl ?_
  have htt : (v.tag == u.tag) = ((v.tag.t == u.tag.t) && (v.tag.p == u.tag.p)) := by
    obtain ⟨_, ⟨vt, vp⟩, _⟩ := v
    obtain ⟨_, ⟨ut, up⟩, _⟩ := u
    rw [Bool.eq_iff_iff]
    simp
  cases h1 : (v.key == u.key)
  · have : verEq v u = false := by simp [verEq, h1]
    rw [this] at hQ
    simp (maxSteps := 1000000) (disch := first | assumption | omega | (simp only [World.size_alloc, size_setRow, dw_size]; done) | (simp only [World.size_alloc, size_setRow, dw_size] <;> omega) | (simp only [List.length_set, Array.length_toList, List.length_cons, List.length_nil, List.length_append, bts_size] <;> omega) | (simp only [List.all_cons, List.all_nil, Value.oneCell', Bool.and_self, Bool.and_true]; done)) [-Option.bind_some, hp_alloc_lt, hp_alloc_eq, hp_set_ne, wrap_small, ups_ap_cons, ups_ap_nil, upd_same, upd_other, env0_ap0, env0_aps, xt_a, xt_b, xt_c, -splice_eq, -stR_cells, stR_box, stR_boxA, stR_row, stR_row0, stR_row1, stR_rowA, stR_rowA0, splice_rowv, splice_rowv0, splice_rowv1, splice_z, splice_n, splice_s, nth_rowv, nth_rowv0, nth_rowv1, rowv_len, h1]
    exact hQ _ ⟨rfl, by (repeat (first | exact Ext.rfl | assumption | (refine Ext.al ?_ _) | (refine Ext.dw ?_) | (refine Ext.set ?_ (by first | omega | (simp only [World.size_alloc, size_setRow, dw_size]; omega)) _) | (refine Ext.tr ?_ (by assumption))))⟩
  cases h2 : ((v.tag.t == u.tag.t) && (v.tag.p == u.tag.p))
  · have : verEq v u = false := by simp [verEq, htt, h2]
    rw [this] at hQ
    simp (maxSteps := 1000000) (disch := first | assumption | omega | (simp only [World.size_alloc, size_setRow, dw_size]; done) | (simp only [World.size_alloc, size_setRow, dw_size] <;> omega) | (simp only [List.length_set, Array.length_toList, List.length_cons, List.length_nil, List.length_append, bts_size] <;> omega) | (simp only [List.all_cons, List.all_nil, Value.oneCell', Bool.and_self, Bool.and_true]; done)) [-Option.bind_some, hp_alloc_lt, hp_alloc_eq, hp_set_ne, wrap_small, ups_ap_cons, ups_ap_nil, upd_same, upd_other, env0_ap0, env0_aps, xt_a, xt_b, xt_c, -splice_eq, -stR_cells, stR_box, stR_boxA, stR_row, stR_row0, stR_row1, stR_rowA, stR_rowA0, splice_rowv, splice_rowv0, splice_rowv1, splice_z, splice_n, splice_s, nth_rowv, nth_rowv0, nth_rowv1, rowv_len, h1, h2]
    exact hQ _ ⟨rfl, by (repeat (first | exact Ext.rfl | assumption | (refine Ext.al ?_ _) | (refine Ext.dw ?_) | (refine Ext.set ?_ (by first | omega | (simp only [World.size_alloc, size_setRow, dw_size]; omega)) _) | (refine Ext.tr ?_ (by assumption))))⟩
  simp (maxSteps := 1000000) (disch := first | assumption | omega | (simp only [World.size_alloc, size_setRow, dw_size]; done) | (simp only [World.size_alloc, size_setRow, dw_size] <;> omega) | (simp only [List.length_set, Array.length_toList, List.length_cons, List.length_nil, List.length_append, bts_size] <;> omega) | (simp only [List.all_cons, List.all_nil, Value.oneCell', Bool.and_self, Bool.and_true]; done)) [-Option.bind_some, hp_alloc_lt, hp_alloc_eq, hp_set_ne, wrap_small, ups_ap_cons, ups_ap_nil, upd_same, upd_other, env0_ap0, env0_aps, xt_a, xt_b, xt_c, -splice_eq, -stR_cells, stR_box, stR_boxA, stR_row, stR_row0, stR_row1, stR_rowA, stR_rowA0, splice_rowv, splice_rowv0, splice_rowv1, splice_z, splice_n, splice_s, nth_rowv, nth_rowv0, nth_rowv1, rowv_len, h1, h2]
  refine Ret.bind (slices_Equal_Tag_m (hp1.ext (by (repeat (first | exact Ext.rfl | assumption | (refine Ext.al ?_ _) | (refine Ext.dw ?_) | (refine Ext.set ?_ (by first | omega | (simp only [World.size_alloc, size_setRow, dw_size]; omega)) _) | (refine Ext.tr ?_ (by assumption)))))) (hp2.ext (by (repeat (first | exact Ext.rfl | assumption | (refine Ext.al ?_ _) | (refine Ext.dw ?_) | (refine Ext.set ?_ (by first | omega | (simp only [World.size_alloc, size_setRow, dw_size]; omega)) _) | (refine Ext.tr ?_ (by assumption))))))) ?_
  rintro ⟨_, w1⟩ ⟨rfl, E1⟩
  try dsimp only at E1
  have zE1 := E1.size
  try simp only [World.size_alloc, size_setRow, dw_size] at zE1
  cases h3 : (v.past == u.past)
  · have : verEq v u = false := by simp [verEq, h3]
    rw [this] at hQ
    simp (maxSteps := 1000000) (disch := first | assumption | omega | (simp only [World.size_alloc, size_setRow, dw_size]; done) | (simp only [World.size_alloc, size_setRow, dw_size] <;> omega) | (simp only [List.length_set, Array.length_toList, List.length_cons, List.length_nil, List.length_append, bts_size] <;> omega) | (simp only [List.all_cons, List.all_nil, Value.oneCell', Bool.and_self, Bool.and_true]; done)) [-Option.bind_some, hp_alloc_lt, hp_alloc_eq, hp_set_ne, wrap_small, ups_ap_cons, ups_ap_nil, upd_same, upd_other, env0_ap0, env0_aps, xt_a, xt_b, xt_c, -splice_eq, -stR_cells, stR_box, stR_boxA, stR_row, stR_row0, stR_row1, stR_rowA, stR_rowA0, splice_rowv, splice_rowv0, splice_rowv1, splice_z, splice_n, splice_s, nth_rowv, nth_rowv0, nth_rowv1, rowv_len, h3, E1.blk]
    exact hQ _ ⟨rfl, by (repeat (first | exact Ext.rfl | assumption | (refine Ext.al ?_ _) | (refine Ext.dw ?_) | (refine Ext.set ?_ (by first | omega | (simp only [World.size_alloc, size_setRow, dw_size]; omega)) _) | (refine Ext.tr ?_ (by assumption))))⟩
  cases h4 : (v.text.toList == u.text.toList)
  · have : verEq v u = false := by simp [verEq, h4]
    rw [this] at hQ
    simp (maxSteps := 1000000) (disch := first | assumption | omega | (simp only [World.size_alloc, size_setRow, dw_size]; done) | (simp only [World.size_alloc, size_setRow, dw_size] <;> omega) | (simp only [List.length_set, Array.length_toList, List.length_cons, List.length_nil, List.length_append, bts_size] <;> omega) | (simp only [List.all_cons, List.all_nil, Value.oneCell', Bool.and_self, Bool.and_true]; done)) [-Option.bind_some, hp_alloc_lt, hp_alloc_eq, hp_set_ne, wrap_small, ups_ap_cons, ups_ap_nil, upd_same, upd_other, env0_ap0, env0_aps, xt_a, xt_b, xt_c, -splice_eq, -stR_cells, stR_box, stR_boxA, stR_row, stR_row0, stR_row1, stR_rowA, stR_rowA0, splice_rowv, splice_rowv0, splice_rowv1, splice_z, splice_n, splice_s, nth_rowv, nth_rowv0, nth_rowv1, rowv_len, h3, h4, E1.blk]
    exact hQ _ ⟨rfl, by (repeat (first | exact Ext.rfl | assumption | (refine Ext.al ?_ _) | (refine Ext.dw ?_) | (refine Ext.set ?_ (by first | omega | (simp only [World.size_alloc, size_setRow, dw_size]; omega)) _) | (refine Ext.tr ?_ (by assumption))))⟩
  have : verEq v u = (v.gone == u.gone) := by rw [verEq, h1, htt, h2, h3, h4]; simp
  rw [this] at hQ
  simp (maxSteps := 1000000) (disch := first | assumption | omega | (simp only [World.size_alloc, size_setRow, dw_size]; done) | (simp only [World.size_alloc, size_setRow, dw_size] <;> omega) | (simp only [List.length_set, Array.length_toList, List.length_cons, List.length_nil, List.length_append, bts_size] <;> omega) | (simp only [List.all_cons, List.all_nil, Value.oneCell', Bool.and_self, Bool.and_true]; done)) [-Option.bind_some, hp_alloc_lt, hp_alloc_eq, hp_set_ne, wrap_small, ups_ap_cons, ups_ap_nil, upd_same, upd_other, env0_ap0, env0_aps, xt_a, xt_b, xt_c, -splice_eq, -stR_cells, stR_box, stR_boxA, stR_row, stR_row0, stR_row1, stR_rowA, stR_rowA0, splice_rowv, splice_rowv0, splice_rowv1, splice_z, splice_n, splice_s, nth_rowv, nth_rowv0, nth_rowv1, rowv_len, h3, h4, E1.blk]
  exact hQ _ ⟨rfl, by (repeat (first | exact Ext.rfl | assumption | (refine Ext.al ?_ _) | (refine Ext.dw ?_) | (refine Ext.set ?_ (by first | omega | (simp only [World.size_alloc, size_setRow, dw_size]; omega)) _) | (refine Ext.tr ?_ (by assumption))))⟩
def sameV : List Ver → List Ver → Bool
  | x :: xs, y :: ys => verEq x y && sameV xs ys
  | [], [] => true
  | _, _ => false
theorem sameV_iff : ∀ {xs ys : List Ver}, sameV xs ys = true ↔ xs = ys
  | [], [] => by simp [sameV]
  | x :: xs, y :: ys => by simp only [sameV, Bool.and_eq_true, verEq_iff, sameV_iff, List.cons.injEq]
  | [], _ :: _ => by simp [sameV]
  | _ :: _, [] => by simp [sameV]
theorem slices_EqualFunc_Ver_n {a b : Option Addr} {c c' : Nat} {S S' : Nat → Prop} {xs ys : List Ver} {w0 : World} (hl : xs.length = ys.length) :
    ∀ (d k : Nat) (e : Env) (w : World), k + d = xs.length → e 1 = .slice b ys.length c' → e 2 = .func (.func 68) #[] #[] → e 15 = .slice a xs.length c → e 16 = i64 xs.length → e 17 = i64 k → D tVers S w0 [.slice a xs.length c] xs → D tVers S' w0 [.slice b ys.length c'] ys → Ext w0 w →
    Ret (slices_EqualFunc_Ver_l1 e w) fun r => r.1 = .bool (sameV (xs.drop k) (ys.drop k)) ∧ Ext w0 r.2 := by
  intro d
  induction d with
  | zero =>
    intro k e w hd e1 e2 e15 e16 e17 ha hb E0
    have zE0 := E0.size
    try simp only [World.size_alloc, size_setRow, dw_size] at zE0
    rw [slices_EqualFunc_Ver_l1_eq]
    obtain rfl : k = xs.length := by omega
    refine Ret.post fun Q hQ => ?_
    simp (maxSteps := 1000000) (disch := first | assumption | omega | (simp only [World.size_alloc, size_setRow, dw_size]; done) | (simp only [World.size_alloc, size_setRow, dw_size] <;> omega) | (simp only [List.length_set, Array.length_toList, List.length_cons, List.length_nil, List.length_append, bts_size] <;> omega) | (simp only [List.all_cons, List.all_nil, Value.oneCell', Bool.and_self, Bool.and_true]; done)) [-Option.bind_some, hp_alloc_lt, hp_alloc_eq, hp_set_ne, wrap_small, ups_ap_cons, ups_ap_nil, upd_same, upd_other, env0_ap0, env0_aps, xt_a, xt_b, xt_c, -splice_eq, -stR_cells, stR_box, stR_boxA, stR_row, stR_row0, stR_row1, stR_rowA, stR_rowA0, splice_rowv, splice_rowv0, splice_rowv1, splice_z, splice_n, splice_s, nth_rowv, nth_rowv0, nth_rowv1, rowv_len, e1, e2, e15, e16, e17, e1, e2, e15, e16, e17, E0.blk]
    rw [List.drop_length, hl, List.drop_length] at hQ
    exact hQ _ ⟨by simp [sameV], E0⟩
  | succ d ih =>
    intro k e w hd e1 e2 e15 e16 e17 ha hb E0
    have zE0 := E0.size
    try simp only [World.size_alloc, size_setRow, dw_size] at zE0
    rw [slices_EqualFunc_Ver_l1_eq]
    have hlt : k < xs.length := by omega
    have hlt2 : k < ys.length := by omega
    obtain ⟨x, hx, hdx⟩ := drop_at hlt
    obtain ⟨y, hy, hdy⟩ := drop_at hlt2
    have hn := ha.n
    obtain ⟨b1, o1, cs1, rfl, A1, D1, _, l1⟩ := (ha.ext E0).at (by decide) hx
    obtain ⟨a2, c2, rfl, hq1, ht1⟩ := D.ver.1 D1
    have p0 := A1 0 _ rfl
    have p1 := A1 1 _ rfl
    have p2 := A1 2 _ rfl
    have p3 := A1 3 _ rfl
    have p4 := A1 4 _ rfl
    have p5 := A1 5 _ rfl
    simp only [LVer_n, LTag_n, LNode_n, Nat.add_zero] at p0 p1 p2 p3 p4 p5
    obtain ⟨b2, o2, cs2, rfl, A2, D2, _, l2⟩ := (hb.ext E0).at (by decide) hy
    obtain ⟨a3, c3, rfl, hq2, ht2⟩ := D.ver.1 D2
    have q0 := A2 0 _ rfl
    have q1 := A2 1 _ rfl
    have q2 := A2 2 _ rfl
    have q3 := A2 3 _ rfl
    have q4 := A2 4 _ rfl
    have q5 := A2 5 _ rfl
    simp only [LVer_n, LTag_n, LNode_n, Nat.add_zero] at q0 q1 q2 q3 q4 q5
    rw [hdx, hdy]
    refine Ret.post fun Q hQ => ?_
    have hclo : ∀ u v w, clo P (.func (.func 68) #[] #[]) #[u, v] w = EV P 68 #[u, v] w := fun u v w => clo_eq (P := P) (by kernel_rfl) [] [] [u, v] w
    simp (maxSteps := 1000000) (disch := first | assumption | omega | (simp only [World.size_alloc, size_setRow, dw_size]; done) | (simp only [World.size_alloc, size_setRow, dw_size] <;> omega) | (simp only [List.length_set, Array.length_toList, List.length_cons, List.length_nil, List.length_append, bts_size] <;> omega) | (simp only [List.all_cons, List.all_nil, Value.oneCell', Bool.and_self, Bool.and_true]; done)) [-Option.bind_some, hp_alloc_lt, hp_alloc_eq, hp_set_ne, wrap_small, ups_ap_cons, ups_ap_nil, upd_same, upd_other, env0_ap0, env0_aps, xt_a, xt_b, xt_c, -splice_eq, -stR_cells, stR_box, stR_boxA, stR_row, stR_row0, stR_row1, stR_rowA, stR_rowA0, splice_rowv, splice_rowv0, splice_rowv1, splice_z, splice_n, splice_s, nth_rowv, nth_rowv0, nth_rowv1, rowv_len, e1, e2, e15, e16, e17, hlt, ia_47, hclo, e1, e2, e15, e16, e17, E0.blk, hlt, hlt2, p0, p1, p2, p3, p4, p5, q0, q1, q2, q3, q4, q5]
    refine Ret.bind (impl_Ver_same_m (D1.ext (by (repeat (first | exact Ext.rfl | assumption | (refine Ext.al ?_ _) | (refine Ext.dw ?_) | (refine Ext.set ?_ (by first | omega | (simp only [World.size_alloc, size_setRow, dw_size]; omega)) _) | (refine Ext.tr ?_ (by assumption)))))) (D2.ext (by (repeat (first | exact Ext.rfl | assumption | (refine Ext.al ?_ _) | (refine Ext.dw ?_) | (refine Ext.set ?_ (by first | omega | (simp only [World.size_alloc, size_setRow, dw_size]; omega)) _) | (refine Ext.tr ?_ (by assumption))))))) ?_
    rintro ⟨_, w1⟩ ⟨rfl, E1⟩
    try dsimp only at E1
    have zE1 := E1.size
    try simp only [World.size_alloc, size_setRow, dw_size] at zE1
    cases hxy : verEq x y
    · rw [sameV, hxy] at hQ
      simp (maxSteps := 1000000) (disch := first | assumption | omega | (simp only [World.size_alloc, size_setRow, dw_size]; done) | (simp only [World.size_alloc, size_setRow, dw_size] <;> omega) | (simp only [List.length_set, Array.length_toList, List.length_cons, List.length_nil, List.length_append, bts_size] <;> omega) | (simp only [List.all_cons, List.all_nil, Value.oneCell', Bool.and_self, Bool.and_true]; done)) [-Option.bind_some, hp_alloc_lt, hp_alloc_eq, hp_set_ne, wrap_small, ups_ap_cons, ups_ap_nil, upd_same, upd_other, env0_ap0, env0_aps, xt_a, xt_b, xt_c, -splice_eq, -stR_cells, stR_box, stR_boxA, stR_row, stR_row0, stR_row1, stR_rowA, stR_rowA0, splice_rowv, splice_rowv0, splice_rowv1, splice_z, splice_n, splice_s, nth_rowv, nth_rowv0, nth_rowv1, rowv_len, e1, e2, e15, e16, e17, E0.blk, hlt, hlt2, p0, p1, p2, p3, p4, p5, q0, q1, q2, q3, q4, q5, E1.blk]
      exact hQ _ ⟨rfl, by (repeat (first | exact Ext.rfl | assumption | (refine Ext.al ?_ _) | (refine Ext.dw ?_) | (refine Ext.set ?_ (by first | omega | (simp only [World.size_alloc, size_setRow, dw_size]; omega)) _) | (refine Ext.tr ?_ (by assumption))))⟩
    · rw [sameV, hxy] at hQ
      simp (maxSteps := 1000000) (disch := first | assumption | omega | (simp only [World.size_alloc, size_setRow, dw_size]; done) | (simp only [World.size_alloc, size_setRow, dw_size] <;> omega) | (simp only [List.length_set, Array.length_toList, List.length_cons, List.length_nil, List.length_append, bts_size] <;> omega) | (simp only [List.all_cons, List.all_nil, Value.oneCell', Bool.and_self, Bool.and_true]; done)) [-Option.bind_some, hp_alloc_lt, hp_alloc_eq, hp_set_ne, wrap_small, ups_ap_cons, ups_ap_nil, upd_same, upd_other, env0_ap0, env0_aps, xt_a, xt_b, xt_c, -splice_eq, -stR_cells, stR_box, stR_boxA, stR_row, stR_row0, stR_row1, stR_rowA, stR_rowA0, splice_rowv, splice_rowv0, splice_rowv1, splice_z, splice_n, splice_s, nth_rowv, nth_rowv0, nth_rowv1, rowv_len, e1, e2, e15, e16, e17, e1, e2, e15, e16, e17, E0.blk, hlt, hlt2, p0, p1, p2, p3, p4, p5, q0, q1, q2, q3, q4, q5, E1.blk]
      exact Ret.mono (ih (k + 1) _ _ (by omega) (by first | omega | assumption | rfl | exact congrArg i64 (by omega) | (simp; done) | (simp; omega)) (by first | omega | assumption | rfl | exact congrArg i64 (by omega) | (simp; done) | (simp; omega)) (by first | omega | assumption | rfl | exact congrArg i64 (by omega) | (simp; done) | (simp; omega)) (by first | omega | assumption | rfl | exact congrArg i64 (by omega) | (simp; done) | (simp; omega)) (by first | omega | assumption | rfl | exact congrArg i64 (by omega) | (simp; done) | (simp; omega)) ha hb (by (repeat (first | exact Ext.rfl | assumption | (refine Ext.al ?_ _) | (refine Ext.dw ?_) | (refine Ext.set ?_ (by first | omega | (simp only [World.size_alloc, size_setRow, dw_size]; omega)) _) | (refine Ext.tr ?_ (by assumption)))))) hQ
theorem impl_Store_same_m {a b : Option Addr} {n m c c' : Nat} {S S' : Nat → Prop} {xs ys : List Ver} {w : World} (ha : D tVers S w [.slice a n c] xs) (hb : D tVers S' w [.slice b m c'] ys) :
    Ret (EV P 78 #[.agg #[.slice a n c], .agg #[.slice b m c']] w) fun r => r.1 = .bool (sameV xs ys) ∧ Ext w r.2 := by
  obtain ⟨rfl, hm, _⟩ := ha.n
  obtain ⟨rfl, hm2, _⟩ := hb.n
  refine Ret.post fun Q hQ => ?_
  refine Ret.enter plain mixed (impl_Store_same_fn _ _ _) (by kernel_rfl) (n := 2) (by kernel_rfl) rfl ?_
  simp (maxSteps := 1000000) (disch := first | assumption | omega | (simp only [World.size_alloc, size_setRow, dw_size]; done) | (simp only [World.size_alloc, size_setRow, dw_size] <;> omega) | (simp only [List.length_set, Array.length_toList, List.length_cons, List.length_nil, List.length_append, bts_size] <;> omega) | (simp only [List.all_cons, List.all_nil, Value.oneCell', Bool.and_self, Bool.and_true]; done)) [-Option.bind_some, hp_alloc_lt, hp_alloc_eq, hp_set_ne, wrap_small, ups_ap_cons, ups_ap_nil, upd_same, upd_other, env0_ap0, env0_aps, xt_a, xt_b, xt_c, -splice_eq, -stR_cells, stR_box, stR_boxA, stR_row, stR_row0, stR_row1, stR_rowA, stR_rowA0, splice_rowv, splice_rowv0, splice_rowv1, splice_z, splice_n, splice_s, nth_rowv, nth_rowv0, nth_rowv1, rowv_len]
  have key : ∀ w1, Ext w w1 → Ret (EV P 67 #[.slice a xs.length c, .slice b ys.length c', .func (.func 68) #[] #[]] w1) fun r => r.1 = .bool (sameV xs ys) ∧ Ext w r.2 := by
    intro w1 E1
    have zE1 := E1.size
    try simp only [World.size_alloc, size_setRow, dw_size] at zE1
    refine Ret.post fun Q hQ => ?_
    refine Ret.enter plain mixed (slices_EqualFunc_Ver_fn _ _ _ _) (by kernel_rfl) (n := 3) (by kernel_rfl) rfl ?_
    cases hl : ((xs.length : Int) != ys.length)
    · simp (maxSteps := 1000000) (disch := first | assumption | omega | (simp only [World.size_alloc, size_setRow, dw_size]; done) | (simp only [World.size_alloc, size_setRow, dw_size] <;> omega) | (simp only [List.length_set, Array.length_toList, List.length_cons, List.length_nil, List.length_append, bts_size] <;> omega) | (simp only [List.all_cons, List.all_nil, Value.oneCell', Bool.and_self, Bool.and_true]; done)) [-Option.bind_some, hp_alloc_lt, hp_alloc_eq, hp_set_ne, wrap_small, ups_ap_cons, ups_ap_nil, upd_same, upd_other, env0_ap0, env0_aps, xt_a, xt_b, xt_c, -splice_eq, -stR_cells, stR_box, stR_boxA, stR_row, stR_row0, stR_row1, stR_rowA, stR_rowA0, splice_rowv, splice_rowv0, splice_rowv1, splice_z, splice_n, splice_s, nth_rowv, nth_rowv0, nth_rowv1, rowv_len, hl, E1.blk]
      have hl : xs.length = ys.length := by simp only [bne_eq_false_iff_eq] at hl; omega
      refine Ret.mono (slices_EqualFunc_Ver_n hl xs.length 0 _ w1 (by omega) rfl rfl rfl rfl rfl ha hb E1) ?_
      rintro r ⟨h1, h2⟩
      exact hQ _ ⟨by rw [h1]; simp, h2⟩
    · have hne : sameV xs ys = false := by
        rw [Bool.eq_false_iff]
        intro h
        rw [sameV_iff] at h
        subst h
        simp at hl
      rw [hne] at hQ
      simp (maxSteps := 1000000) (disch := first | assumption | omega | (simp only [World.size_alloc, size_setRow, dw_size]; done) | (simp only [World.size_alloc, size_setRow, dw_size] <;> omega) | (simp only [List.length_set, Array.length_toList, List.length_cons, List.length_nil, List.length_append, bts_size] <;> omega) | (simp only [List.all_cons, List.all_nil, Value.oneCell', Bool.and_self, Bool.and_true]; done)) [-Option.bind_some, hp_alloc_lt, hp_alloc_eq, hp_set_ne, wrap_small, ups_ap_cons, ups_ap_nil, upd_same, upd_other, env0_ap0, env0_aps, xt_a, xt_b, xt_c, -splice_eq, -stR_cells, stR_box, stR_boxA, stR_row, stR_row0, stR_row1, stR_rowA, stR_rowA0, splice_rowv, splice_rowv0, splice_rowv1, splice_z, splice_n, splice_s, nth_rowv, nth_rowv0, nth_rowv1, rowv_len, hl, E1.blk]
      exact hQ _ ⟨rfl, by (repeat (first | exact Ext.rfl | assumption | (refine Ext.al ?_ _) | (refine Ext.dw ?_) | (refine Ext.set ?_ (by first | omega | (simp only [World.size_alloc, size_setRow, dw_size]; omega)) _) | (refine Ext.tr ?_ (by assumption))))⟩
  refine Ret.bind (key _ (by (repeat (first | exact Ext.rfl | assumption | (refine Ext.al ?_ _) | (refine Ext.dw ?_) | (refine Ext.set ?_ (by first | omega | (simp only [World.size_alloc, size_setRow, dw_size]; omega)) _) | (refine Ext.tr ?_ (by assumption)))))) ?_
  rintro ⟨_, w2⟩ ⟨rfl, E2⟩
  try dsimp only at E2
  have zE2 := E2.size
  try simp only [World.size_alloc, size_setRow, dw_size] at zE2
  simp (maxSteps := 1000000) (disch := first | assumption | omega | (simp only [World.size_alloc, size_setRow, dw_size]; done) | (simp only [World.size_alloc, size_setRow, dw_size] <;> omega) | (simp only [List.length_set, Array.length_toList, List.length_cons, List.length_nil, List.length_append, bts_size] <;> omega) | (simp only [List.all_cons, List.all_nil, Value.oneCell', Bool.and_self, Bool.and_true]; done)) [-Option.bind_some, hp_alloc_lt, hp_alloc_eq, hp_set_ne, wrap_small, ups_ap_cons, ups_ap_nil, upd_same, upd_other, env0_ap0, env0_aps, xt_a, xt_b, xt_c, -splice_eq, -stR_cells, stR_box, stR_boxA, stR_row, stR_row0, stR_row1, stR_rowA, stR_rowA0, splice_rowv, splice_rowv0, splice_rowv1, splice_z, splice_n, splice_s, nth_rowv, nth_rowv0, nth_rowv1, rowv_len, E2.blk]
  exact hQ _ ⟨rfl, by (repeat (first | exact Ext.rfl | assumption | (refine Ext.al ?_ _) | (refine Ext.dw ?_) | (refine Ext.set ?_ (by first | omega | (simp only [World.size_alloc, size_setRow, dw_size]; omega)) _) | (refine Ext.tr ?_ (by assumption))))⟩
end Go.Proofs.YtggmfmanpjcjkaaGreat.X
set_option linter.unusedVariables false
set_option linter.unusedSimpArgs false
set_option maxRecDepth 100000
set_option maxHeartbeats 1000000
namespace Go.Proofs.YtggmfmanpjcjkaaGreat.X
open Go Go.Ev Go.RowKit
def fitsL : List Ver → List Ver → List Ver → Bool
  | s, [], t => sameV s t
  | s, v :: l, t => match s[v.key.toNat]? with
    | some u => tagLess u.tag v.tag && fitsL (s.set v.key.toNat v) l t
    | none => false
theorem impl_Node_fits_n1 {a1 a2 : Option Addr} {c1 c2 c g g2 g5 B : Nat} {S Sw St : Nat → Prop} {wait store : List Ver} {w0 : World} (hok : ∀ v ∈ wait, verOk v = true) (hB : w0.heap.size ≤ B) (hg : B ≤ g)
    (hg2 : w0.heap.size ≤ g2) (hg5 : w0.heap.size ≤ g5) (h2g : g2 < B) (h5 : g5 ≠ g) (hS : ∀ b, S b → b < w0.heap.size ∨ (B ≤ b ∧ b ≠ g5 ∧ b ≠ g)) (hS2 : ∀ b, b < w0.heap.size → S b) :
    ∀ (d k : Nat) (e : Env) (w : World) (s : List Ver), k + d = wait.length → s.length = 4 → e 2 = pt g2 0 → e 5 = pt g5 0 → e 11 = .slice a1 wait.length c1 → e 12 = i64 wait.length → e 13 = i64 k → hp w g2 = some (.cells #[.slice a2 store.length c2, .slice a1 wait.length c1] 95 (0, 0)) → hp w g5 = some (.cells #[.slice (some ⟨g, 0, none⟩) 4 c] 91 (0, 0)) →
    D tVers Sw w0 [.slice a1 wait.length c1] wait → D tVers St w0 [.slice a2 store.length c2] store → Ext w0 w → g < w.heap.size → Row1 tVer 69 S w g s →
    Ret (impl_Node_fits_l1 e w) fun r => r.1 = .bool (fitsL s (wait.drop k) store) ∧ Ext w0 r.2 := by
  intro d
  induction d with
  | zero =>
    intro k e w s hd hs4 e2 e5 e11 e12 e13 X2 X5 ha hb E0 hgw ho
    have zE0 := E0.size
    try simp only [World.size_alloc, size_setRow, dw_size] at zE0
    rw [impl_Node_fits_l1_eq]
    obtain rfl : k = wait.length := by omega
    have y2 := hp_lt X2
    have y5 := hp_lt X5
    rw [List.drop_length]
    have hd0 := ho.d (mx := 1954687338211) (by omega) (by omega) c
    rw [hs4] at hd0
    refine Ret.post fun Q hQ => ?_
    simp (maxSteps := 1000000) (disch := first | assumption | omega | (simp only [World.size_alloc, size_setRow, dw_size]; done) | (simp only [World.size_alloc, size_setRow, dw_size] <;> omega) | (simp only [List.length_set, Array.length_toList, List.length_cons, List.length_nil, List.length_append, bts_size] <;> omega) | (simp only [List.all_cons, List.all_nil, Value.oneCell', Bool.and_self, Bool.and_true]; done)) [-Option.bind_some, hp_alloc_lt, hp_alloc_eq, hp_set_ne, wrap_small, ups_ap_cons, ups_ap_nil, upd_same, upd_other, env0_ap0, env0_aps, xt_a, xt_b, xt_c, -splice_eq, -stR_cells, stR_box, stR_boxA, stR_row, stR_row0, stR_row1, stR_rowA, stR_rowA0, splice_rowv, splice_rowv0, splice_rowv1, splice_z, splice_n, splice_s, nth_rowv, nth_rowv0, nth_rowv1, rowv_len, e2, e5, e11, e12, e13, X2, X5, e2, e5, e11, e12, e13, X2, X5, E0.blk]
    refine Ret.bind (impl_Store_same_m hd0 (hb.ext E0)) ?_
    rintro ⟨_, w1⟩ ⟨rfl, E1⟩
    try dsimp only at E1
    have zE1 := E1.size
    try simp only [World.size_alloc, size_setRow, dw_size] at zE1
    simp (maxSteps := 1000000) (disch := first | assumption | omega | (simp only [World.size_alloc, size_setRow, dw_size]; done) | (simp only [World.size_alloc, size_setRow, dw_size] <;> omega) | (simp only [List.length_set, Array.length_toList, List.length_cons, List.length_nil, List.length_append, bts_size] <;> omega) | (simp only [List.all_cons, List.all_nil, Value.oneCell', Bool.and_self, Bool.and_true]; done)) [-Option.bind_some, hp_alloc_lt, hp_alloc_eq, hp_set_ne, wrap_small, ups_ap_cons, ups_ap_nil, upd_same, upd_other, env0_ap0, env0_aps, xt_a, xt_b, xt_c, -splice_eq, -stR_cells, stR_box, stR_boxA, stR_row, stR_row0, stR_row1, stR_rowA, stR_rowA0, splice_rowv, splice_rowv0, splice_rowv1, splice_z, splice_n, splice_s, nth_rowv, nth_rowv0, nth_rowv1, rowv_len, e2, e5, e11, e12, e13, X2, X5, E0.blk, E1.blk]
    exact hQ _ ⟨rfl, by (repeat (first | exact Ext.rfl | assumption | (refine Ext.al ?_ _) | (refine Ext.dw ?_) | (refine Ext.set ?_ (by first | omega | (simp only [World.size_alloc, size_setRow, dw_size]; omega)) _) | (refine Ext.tr ?_ (by assumption))))⟩
  | succ d ih =>
    intro k e w s hd hs4 e2 e5 e11 e12 e13 X2 X5 ha hb E0 hgw ho
    have zE0 := E0.size
    try simp only [World.size_alloc, size_setRow, dw_size] at zE0
    rw [impl_Node_fits_l1_eq]
    have hlt : k < wait.length := by omega
    obtain ⟨v, hv, hdv⟩ := drop_at hlt
    have hvo := hok v (List.mem_of_getElem? hv)
    have hk := verOk_key hvo
    have h4 : v.key.toNat < s.length := by omega
    obtain ⟨u, hu, _⟩ := drop_at h4
    have hn := ha.n
    have y2 := hp_lt X2
    have y5 := hp_lt X5
    obtain ⟨b1, o1, cs1, rfl, A1, D1, hb1, l1⟩ := ha.lt.at (by decide) hv
    have D1' := D1
    obtain ⟨av, cv, rfl, hq1, ht1⟩ := D.ver.1 D1
    have p0 := A1 0 _ rfl
    have p1 := A1 1 _ rfl
    have p2 := A1 2 _ rfl
    have p3 := A1 3 _ rfl
    have p4 := A1 4 _ rfl
    have p5 := A1 5 _ rfl
    simp only [LVer_n, LTag_n, LNode_n, Nat.add_zero] at p0 p1 p2 p3 p4 p5
    have hd0 := ho.d (mx := 1954687338211) (by omega) (by omega) c
    rw [hs4] at hd0
    obtain ⟨cur, cs, hgr, hle, hcs, D2, put⟩ := ho.row hu
    obtain ⟨au, cu, rfl, hq2, ht2⟩ := D.ver.1 D2
    simp only [LVer_n] at hgr hle put
    rw [hdv]
    have hfl : fitsL s (v :: wait.drop (k + 1)) store = (tagLess u.tag v.tag && fitsL (s.set v.key.toNat v) (wait.drop (k + 1)) store) := by rw [fitsL, hu]
    rw [hfl]
    refine Ret.post fun Q hQ => ?_
    simp (maxSteps := 1000000) (disch := first | assumption | omega | (simp only [World.size_alloc, size_setRow, dw_size]; done) | (simp only [World.size_alloc, size_setRow, dw_size] <;> omega) | (simp only [List.length_set, Array.length_toList, List.length_cons, List.length_nil, List.length_append, bts_size] <;> omega) | (simp only [List.all_cons, List.all_nil, Value.oneCell', Bool.and_self, Bool.and_true]; done)) [-Option.bind_some, hp_alloc_lt, hp_alloc_eq, hp_set_ne, wrap_small, ups_ap_cons, ups_ap_nil, upd_same, upd_other, env0_ap0, env0_aps, xt_a, xt_b, xt_c, -splice_eq, -stR_cells, stR_box, stR_boxA, stR_row, stR_row0, stR_row1, stR_rowA, stR_rowA0, splice_rowv, splice_rowv0, splice_rowv1, splice_z, splice_n, splice_s, nth_rowv, nth_rowv0, nth_rowv1, rowv_len, e2, e5, e11, e12, e13, X2, X5, hlt, ia_47, e2, e5, e11, e12, e13, X2, X5, E0.blk, hlt, p0, p1, p2, p3, p4, p5]
    refine Ret.bind (impl_Store_later_n (hd0.ext (by (repeat (first | exact Ext.rfl | assumption | (refine Ext.al ?_ _) | (refine Ext.dw ?_) | (refine Ext.set ?_ (by first | omega | (simp only [World.size_alloc, size_setRow, dw_size]; omega)) _) | (refine Ext.tr ?_ (by assumption)))))) (D1.ext (by (repeat (first | exact Ext.rfl | assumption | (refine Ext.al ?_ _) | (refine Ext.dw ?_) | (refine Ext.set ?_ (by first | omega | (simp only [World.size_alloc, size_setRow, dw_size]; omega)) _) | (refine Ext.tr ?_ (by assumption)))))) hk.1 hu) ?_
    rintro ⟨_, w1⟩ ⟨rfl, E1⟩
    try dsimp only at E1
    have zE1 := E1.size
    try simp only [World.size_alloc, size_setRow, dw_size] at zE1
    cases hl : tagLess u.tag v.tag
    · rw [hl] at hQ
      simp (maxSteps := 1000000) (disch := first | assumption | omega | (simp only [World.size_alloc, size_setRow, dw_size]; done) | (simp only [World.size_alloc, size_setRow, dw_size] <;> omega) | (simp only [List.length_set, Array.length_toList, List.length_cons, List.length_nil, List.length_append, bts_size] <;> omega) | (simp only [List.all_cons, List.all_nil, Value.oneCell', Bool.and_self, Bool.and_true]; done)) [-Option.bind_some, hp_alloc_lt, hp_alloc_eq, hp_set_ne, wrap_small, ups_ap_cons, ups_ap_nil, upd_same, upd_other, env0_ap0, env0_aps, xt_a, xt_b, xt_c, -splice_eq, -stR_cells, stR_box, stR_boxA, stR_row, stR_row0, stR_row1, stR_rowA, stR_rowA0, splice_rowv, splice_rowv0, splice_rowv1, splice_z, splice_n, splice_s, nth_rowv, nth_rowv0, nth_rowv1, rowv_len, e2, e5, e11, e12, e13, X2, X5, E0.blk, hlt, p0, p1, p2, p3, p4, p5, E1.blk]
      exact hQ _ ⟨rfl, by (repeat (first | exact Ext.rfl | assumption | (refine Ext.al ?_ _) | (refine Ext.dw ?_) | (refine Ext.set ?_ (by first | omega | (simp only [World.size_alloc, size_setRow, dw_size]; omega)) _) | (refine Ext.tr ?_ (by assumption))))⟩
    · rw [hl] at hQ
      simp (maxSteps := 1000000) (disch := first | assumption | omega | (simp only [World.size_alloc, size_setRow, dw_size]; done) | (simp only [World.size_alloc, size_setRow, dw_size] <;> omega) | (simp only [List.length_set, Array.length_toList, List.length_cons, List.length_nil, List.length_append, bts_size] <;> omega) | (simp only [List.all_cons, List.all_nil, Value.oneCell', Bool.and_self, Bool.and_true]; done)) [-Option.bind_some, hp_alloc_lt, hp_alloc_eq, hp_set_ne, wrap_small, ups_ap_cons, ups_ap_nil, upd_same, upd_other, env0_ap0, env0_aps, xt_a, xt_b, xt_c, -splice_eq, -stR_cells, stR_box, stR_boxA, stR_row, stR_row0, stR_row1, stR_rowA, stR_rowA0, splice_rowv, splice_rowv0, splice_rowv1, splice_z, splice_n, splice_s, nth_rowv, nth_rowv0, nth_rowv1, rowv_len, e2, e5, e11, e12, e13, X2, X5, hlt, ia_47, hgr, show v.key < 4 by omega, e2, e5, e11, e12, e13, X2, X5, E0.blk, hlt, p0, p1, p2, p3, p4, p5, E1.blk]
      have E2 : Ext w0 w1 := by (repeat (first | exact Ext.rfl | assumption | (refine Ext.al ?_ _) | (refine Ext.dw ?_) | (refine Ext.set ?_ (by first | omega | (simp only [World.size_alloc, size_setRow, dw_size]; omega)) _) | (refine Ext.tr ?_ (by assumption))))
      have zE2 := E2.size
      try simp only [World.size_alloc, size_setRow, dw_size] at zE2
      refine Ret.mono (ih (k + 1) _ _ (s.set v.key.toNat v) (by omega) (by simpa using hs4) (by first | omega | assumption | rfl | exact congrArg i64 (by omega) | (simp; done) | (simp; omega)) (by first | omega | assumption | rfl | exact congrArg i64 (by omega) | (simp; done) | (simp; omega)) (by first | omega | assumption | rfl | exact congrArg i64 (by omega) | (simp; done) | (simp; omega)) (by first | omega | assumption | rfl | exact congrArg i64 (by omega) | (simp; done) | (simp; omega)) (by first | omega | assumption | rfl | exact congrArg i64 (by omega) | (simp; done) | (simp; omega)) (by first | assumption | rfl | (simp (maxSteps := 1000000) (disch := first | assumption | omega | (simp only [World.size_alloc, size_setRow, dw_size]; done) | (simp only [World.size_alloc, size_setRow, dw_size] <;> omega) | (simp only [List.length_set, Array.length_toList, List.length_cons, List.length_nil, List.length_append, bts_size] <;> omega) | (simp only [List.all_cons, List.all_nil, Value.oneCell', Bool.and_self, Bool.and_true]; done)) [-Option.bind_some, hp_alloc_lt, hp_alloc_eq, hp_set_ne, wrap_small, ups_ap_cons, ups_ap_nil, upd_same, upd_other, env0_ap0, env0_aps, xt_a, xt_b, xt_c, -splice_eq, -stR_cells, stR_box, stR_boxA, stR_row, stR_row0, stR_row1, stR_rowA, stR_rowA0, splice_rowv, splice_rowv0, splice_rowv1, splice_z, splice_n, splice_s, nth_rowv, nth_rowv0, nth_rowv1, rowv_len, X2, e2, e5, e11, e12, e13, X2, X5, E0.blk, hlt, p0, p1, p2, p3, p4, p5, E1.blk, E2.blk]; done)) (by first | assumption | rfl | (simp (maxSteps := 1000000) (disch := first | assumption | omega | (simp only [World.size_alloc, size_setRow, dw_size]; done) | (simp only [World.size_alloc, size_setRow, dw_size] <;> omega) | (simp only [List.length_set, Array.length_toList, List.length_cons, List.length_nil, List.length_append, bts_size] <;> omega) | (simp only [List.all_cons, List.all_nil, Value.oneCell', Bool.and_self, Bool.and_true]; done)) [-Option.bind_some, hp_alloc_lt, hp_alloc_eq, hp_set_ne, wrap_small, ups_ap_cons, ups_ap_nil, upd_same, upd_other, env0_ap0, env0_aps, xt_a, xt_b, xt_c, -splice_eq, -stR_cells, stR_box, stR_boxA, stR_row, stR_row0, stR_row1, stR_rowA, stR_rowA0, splice_rowv, splice_rowv0, splice_rowv1, splice_z, splice_n, splice_s, nth_rowv, nth_rowv0, nth_rowv1, rowv_len, X5, e2, e5, e11, e12, e13, X2, X5, E0.blk, hlt, p0, p1, p2, p3, p4, p5, E1.blk, E2.blk]; done)) ha hb (by (repeat (first | exact Ext.rfl | assumption | (refine Ext.al ?_ _) | (refine Ext.dw ?_) | (refine Ext.set ?_ (by first | omega | (simp only [World.size_alloc, size_setRow, dw_size]; omega)) _) | (refine Ext.tr ?_ (by assumption))))) (by simp only [size_setRow]; omega) ?_) hQ
      refine put _ _ v ((D1.wide (S' := S) fun b h _ => hS2 b h.2).keep (by intro b hS' hb; have := hS b hS'; simp (disch := first | assumption | omega | (simp only [World.size_alloc, size_setRow, dw_size]; omega)) only [E0.blk, E1.blk, hp_alloc_lt, hp_set_ne, hp_dw])) (by first | assumption | rfl | (simp (maxSteps := 1000000) (disch := first | assumption | omega | (simp only [World.size_alloc, size_setRow, dw_size]; done) | (simp only [World.size_alloc, size_setRow, dw_size] <;> omega) | (simp only [List.length_set, Array.length_toList, List.length_cons, List.length_nil, List.length_append, bts_size] <;> omega) | (simp only [List.all_cons, List.all_nil, Value.oneCell', Bool.and_self, Bool.and_true]; done)) [-Option.bind_some, hp_alloc_lt, hp_alloc_eq, hp_set_ne, wrap_small, ups_ap_cons, ups_ap_nil, upd_same, upd_other, env0_ap0, env0_aps, xt_a, xt_b, xt_c, -splice_eq, -stR_cells, stR_box, stR_boxA, stR_row, stR_row0, stR_row1, stR_rowA, stR_rowA0, splice_rowv, splice_rowv0, splice_rowv1, splice_z, splice_n, splice_s, nth_rowv, nth_rowv0, nth_rowv1, rowv_len, hgr, e2, e5, e11, e12, e13, X2, X5, E0.blk, hlt, p0, p1, p2, p3, p4, p5, E1.blk, E2.blk]; done)) ?_
      intro b hb hS'
      have := hS b hS'
      simp (disch := first | assumption | omega | (simp only [World.size_alloc, size_setRow, dw_size]; omega)) only [E1.blk, hp_alloc_lt, hp_set_ne, hp_dw]
theorem impl_Node_fits_m {S1 S2 S3 : Nat → Prop} {a1 a2 b : Option Addr} {c1 c2 n m k d : Nat} {wait store next : List Ver} {w : World} (hok : ∀ v ∈ wait, verOk v = true) (hn4 : next.length = 4) (hs : D tVers S1 w [.slice a1 n c1] store) (hw : D tVers S2 w [.slice a2 m c2] wait) (hx : D tVers S3 w [.slice b k d] next) :
    Ret (EV P 91 #[.agg #[.slice a1 n c1, .slice a2 m c2], .agg #[.slice b k d]] w) fun r => r.1 = .bool (fitsL next wait store) ∧ Ext w r.2 := by
  obtain ⟨rfl, hm, _⟩ := hs.n
  obtain ⟨rfl, hm2, _⟩ := hw.n
  obtain ⟨rfl, hm3, _⟩ := hx.n
  refine Ret.post fun Q hQ => ?_
  refine Ret.enter plain mixed (impl_Node_fits_fn _ _ _) (by kernel_rfl) (n := 2) (by kernel_rfl) rfl ?_
  simp (maxSteps := 1000000) (disch := first | assumption | omega | (simp only [World.size_alloc, size_setRow, dw_size]; done) | (simp only [World.size_alloc, size_setRow, dw_size] <;> omega) | (simp only [List.length_set, Array.length_toList, List.length_cons, List.length_nil, List.length_append, bts_size] <;> omega) | (simp only [List.all_cons, List.all_nil, Value.oneCell', Bool.and_self, Bool.and_true]; done)) [-Option.bind_some, hp_alloc_lt, hp_alloc_eq, hp_set_ne, wrap_small, ups_ap_cons, ups_ap_nil, upd_same, upd_other, env0_ap0, env0_aps, xt_a, xt_b, xt_c, -splice_eq, -stR_cells, stR_box, stR_boxA, stR_row, stR_row0, stR_row1, stR_rowA, stR_rowA0, splice_rowv, splice_rowv0, splice_rowv1, splice_z, splice_n, splice_s, nth_rowv, nth_rowv0, nth_rowv1, rowv_len]
  refine Ret.bind (impl_Store_copied_n (hx.ext (by (repeat (first | exact Ext.rfl | assumption | (refine Ext.al ?_ _) | (refine Ext.dw ?_) | (refine Ext.set ?_ (by first | omega | (simp only [World.size_alloc, size_setRow, dw_size]; omega)) _) | (refine Ext.tr ?_ (by assumption))))))) ?_
  rintro ⟨_, w1⟩ ⟨a3, c3, rfl, o3, E3⟩
  try dsimp only at a3 c3 o3 E3
  have zE3 := E3.size
  try simp only [World.size_alloc, size_setRow, dw_size] at zE3
  rw [hn4] at o3
  obtain ⟨g, cur, cs, S4, rfl, hSg, hgl, hg, _, _, _, _⟩ := o3.row (x := next[0]) (i := 0) (by decide) (List.getElem?_eq_getElem (by omega))
  simp only [In, World.size_alloc] at hSg
  simp (maxSteps := 1000000) (disch := first | assumption | omega | (simp only [World.size_alloc, size_setRow, dw_size]; done) | (simp only [World.size_alloc, size_setRow, dw_size] <;> omega) | (simp only [List.length_set, Array.length_toList, List.length_cons, List.length_nil, List.length_append, bts_size] <;> omega) | (simp only [List.all_cons, List.all_nil, Value.oneCell', Bool.and_self, Bool.and_true]; done)) [-Option.bind_some, hp_alloc_lt, hp_alloc_eq, hp_set_ne, wrap_small, ups_ap_cons, ups_ap_nil, upd_same, upd_other, env0_ap0, env0_aps, xt_a, xt_b, xt_c, -splice_eq, -stR_cells, stR_box, stR_boxA, stR_row, stR_row0, stR_row1, stR_rowA, stR_rowA0, splice_rowv, splice_rowv0, splice_rowv1, splice_z, splice_n, splice_s, nth_rowv, nth_rowv0, nth_rowv1, rowv_len, hn4, E3.blk, hg]
  refine Ret.mono (impl_Node_fits_n1 (c := c3) (g := g) (g2 := w.heap.size) (g5 := w1.heap.size) (B := w.heap.size + 1 + 1) (S := fun b => b < w.heap.size ∨ (In (w.heap.size + 1 + 1) w1.heap.size b ∧ b ≠ g)) (w0 := w) (store := store) (wait := wait) hok (by omega) (by omega) (by omega) (by omega) (by omega) (by omega) (by intro b hb; simp only [In] at hb; omega) (fun b hb => .inl hb) wait.length 0 _ _ next (by omega) hn4 rfl rfl rfl rfl rfl (by first | assumption | rfl | (simp (maxSteps := 1000000) (disch := first | assumption | omega | (simp only [World.size_alloc, size_setRow, dw_size]; done) | (simp only [World.size_alloc, size_setRow, dw_size] <;> omega) | (simp only [List.length_set, Array.length_toList, List.length_cons, List.length_nil, List.length_append, bts_size] <;> omega) | (simp only [List.all_cons, List.all_nil, Value.oneCell', Bool.and_self, Bool.and_true]; done)) [-Option.bind_some, hp_alloc_lt, hp_alloc_eq, hp_set_ne, wrap_small, ups_ap_cons, ups_ap_nil, upd_same, upd_other, env0_ap0, env0_aps, xt_a, xt_b, xt_c, -splice_eq, -stR_cells, stR_box, stR_boxA, stR_row, stR_row0, stR_row1, stR_rowA, stR_rowA0, splice_rowv, splice_rowv0, splice_rowv1, splice_z, splice_n, splice_s, nth_rowv, nth_rowv0, nth_rowv1, rowv_len, E3.blk, hg]; done)) (by first | assumption | rfl | (simp (maxSteps := 1000000) (disch := first | assumption | omega | (simp only [World.size_alloc, size_setRow, dw_size]; done) | (simp only [World.size_alloc, size_setRow, dw_size] <;> omega) | (simp only [List.length_set, Array.length_toList, List.length_cons, List.length_nil, List.length_append, bts_size] <;> omega) | (simp only [List.all_cons, List.all_nil, Value.oneCell', Bool.and_self, Bool.and_true]; done)) [-Option.bind_some, hp_alloc_lt, hp_alloc_eq, hp_set_ne, wrap_small, ups_ap_cons, ups_ap_nil, upd_same, upd_other, env0_ap0, env0_aps, xt_a, xt_b, xt_c, -splice_eq, -stR_cells, stR_box, stR_boxA, stR_row, stR_row0, stR_row1, stR_rowA, stR_rowA0, splice_rowv, splice_rowv0, splice_rowv1, splice_z, splice_n, splice_s, nth_rowv, nth_rowv0, nth_rowv1, rowv_len, E3.blk, hg]; done)) hw hs (by (repeat (first | exact Ext.rfl | assumption | (refine Ext.al ?_ _) | (refine Ext.dw ?_) | (refine Ext.set ?_ (by first | omega | (simp only [World.size_alloc, size_setRow, dw_size]; omega)) _) | (refine Ext.tr ?_ (by assumption))))) (by simp; omega) ?_) ?_
  · refine (o3.row1.wide (S' := fun b => b < w.heap.size ∨ (In (w.heap.size + 1 + 1) w1.heap.size b ∧ b ≠ g)) ?_ ?_).keep ?_
    · intro b h1 h2
      simp only [In, World.size_alloc] at *
      omega
    · intro b h1
      simp only [In] at h1
      omega
    · intro b h1 h2
      simp only [In] at h1
      simp (disch := first | assumption | omega | (simp only [World.size_alloc, size_setRow, dw_size]; omega)) only [hp_alloc_lt, hp_set_ne]
  · rintro r ⟨h1, h2⟩
    exact hQ _ ⟨by rw [h1]; simp, h2⟩
end Go.Proofs.YtggmfmanpjcjkaaGreat.X
set_option linter.unusedVariables false
set_option linter.unusedSimpArgs false
set_option maxRecDepth 100000
set_option maxHeartbeats 1000000
namespace Go.Proofs.YtggmfmanpjcjkaaGreat.X
open Go Go.Ev Go.RowKit
theorem storeOk_z {xs : List Ver} (h : storeOk xs = true) {k : Nat} {x : Ver} (hx : xs[k]? = some x) (hz : x.tag = Tag.zero) : x = verZ := by
  simp only [storeOk, Bool.and_eq_true] at h
  have := slots_get xs 0 k x h.1 hx
  rw [slotOk_z hz] at this
  simp only [verNone, noText, Bool.and_eq_true, beq_iff_eq, List.isEmpty_iff, Bool.not_eq_true'] at this
  obtain ⟨h1, h2, h3, h4, h5⟩ := this
  obtain ⟨k, t, p, x, g⟩ := x
  simp only at *
  subst h1 h2 h5
  have h3 : p = [] := List.eq_nil_of_length_eq_zero h3
  subst h3
  have h4 : x = ⟨#[]⟩ := text_ext (by rw [h4, ByteArray.toList_eq])
  subst h4
  rfl
theorem spec_l3SameStore_n {a b : Option Addr} {c c' g2 g3 t2 t3 : Nat} {S S' : Nat → Prop} {xs ys : List Ver} {w0 : World} (hx : storeOk xs = true) (hy : storeOk ys = true) :
    ∀ (d k : Nat) (e : Env) (w : World), k + d = 4 → e 2 = pt g2 0 → e 3 = pt g3 0 → e 5 = i64 k → hp w g2 = some (.cells #[.slice a xs.length c] t2 (0, 0)) → hp w g3 = some (.cells #[.slice b ys.length c'] t3 (0, 0)) → D tVers S w0 [.slice a xs.length c] xs → D tVers S' w0 [.slice b ys.length c'] ys → Ext w0 w →
    Ret (spec_l3SameStore_l1 e w) fun r => r.1 = .bool (sameV (xs.drop k) (ys.drop k)) ∧ Ext w0 r.2 := by
  have hx4 := storeOk_len hx
  have hy4 := storeOk_len hy
  intro d
  induction d with
  | zero =>
    intro k e w hd e2 e3 e5 X2 X3 ha hb E0
    have zE0 := E0.size
    try simp only [World.size_alloc, size_setRow, dw_size] at zE0
    rw [spec_l3SameStore_l1_eq]
    obtain rfl : k = 4 := by omega
    refine Ret.post fun Q hQ => ?_
    simp (maxSteps := 1000000) (disch := first | assumption | omega | (simp only [World.size_alloc, size_setRow, dw_size]; done) | (simp only [World.size_alloc, size_setRow, dw_size] <;> omega) | (simp only [List.length_set, Array.length_toList, List.length_cons, List.length_nil, List.length_append, bts_size] <;> omega) | (simp only [List.all_cons, List.all_nil, Value.oneCell', Bool.and_self, Bool.and_true]; done)) [-Option.bind_some, hp_alloc_lt, hp_alloc_eq, hp_set_ne, wrap_small, ups_ap_cons, ups_ap_nil, upd_same, upd_other, env0_ap0, env0_aps, xt_a, xt_b, xt_c, -splice_eq, -stR_cells, stR_box, stR_boxA, stR_row, stR_row0, stR_row1, stR_rowA, stR_rowA0, splice_rowv, splice_rowv0, splice_rowv1, splice_z, splice_n, splice_s, nth_rowv, nth_rowv0, nth_rowv1, rowv_len, e2, e3, e5, X2, X3, e2, e3, e5, X2, X3, E0.blk]
    rw [List.drop_eq_nil_of_le (by omega), List.drop_eq_nil_of_le (by omega)] at hQ
    exact hQ _ ⟨by simp [sameV], E0⟩
  | succ d ih =>
    intro k e w hd e2 e3 e5 X2 X3 ha hb E0
    have zE0 := E0.size
    try simp only [World.size_alloc, size_setRow, dw_size] at zE0
    rw [spec_l3SameStore_l1_eq]
    have hlt : k < xs.length := by omega
    have hlt2 : k < ys.length := by omega
    obtain ⟨x, hxk, hdx⟩ := drop_at hlt
    obtain ⟨y, hyk, hdy⟩ := drop_at hlt2
    have y2 := hp_lt X2
    have y3 := hp_lt X3
    obtain ⟨b1, o1, cs1, rfl, A1, D1, _, l1⟩ := (ha.ext E0).at (by decide) hxk
    obtain ⟨a2, c2, rfl, hq1, ht1⟩ := D.ver.1 D1
    have p0 := A1 0 _ rfl
    have p1 := A1 1 _ rfl
    have p2 := A1 2 _ rfl
    have p3 := A1 3 _ rfl
    have p4 := A1 4 _ rfl
    have p5 := A1 5 _ rfl
    simp only [LVer_n, LTag_n, LNode_n, Nat.add_zero] at p0 p1 p2 p3 p4 p5
    obtain ⟨b2, o2, cs2, rfl, A2, D2, _, l2⟩ := (hb.ext E0).at (by decide) hyk
    obtain ⟨a3, c3, rfl, hq2, ht2⟩ := D.ver.1 D2
    have q0 := A2 0 _ rfl
    have q1 := A2 1 _ rfl
    have q2 := A2 2 _ rfl
    have q3 := A2 3 _ rfl
    have q4 := A2 4 _ rfl
    have q5 := A2 5 _ rfl
    simp only [LVer_n, LTag_n, LNode_n, Nat.add_zero] at q0 q1 q2 q3 q4 q5
    rw [hdx, hdy, sameV]
    refine Ret.post fun Q hQ => ?_
    cases htt : ((x.tag.t == y.tag.t) && (x.tag.p == y.tag.p))
    · have hne : verEq x y = false := by
        rw [Bool.eq_false_iff]
        intro h
        rw [verEq_iff] at h
        subst h
        simp at htt
      rw [hne] at hQ
      simp (maxSteps := 1000000) (disch := first | assumption | omega | (simp only [World.size_alloc, size_setRow, dw_size]; done) | (simp only [World.size_alloc, size_setRow, dw_size] <;> omega) | (simp only [List.length_set, Array.length_toList, List.length_cons, List.length_nil, List.length_append, bts_size] <;> omega) | (simp only [List.all_cons, List.all_nil, Value.oneCell', Bool.and_self, Bool.and_true]; done)) [-Option.bind_some, hp_alloc_lt, hp_alloc_eq, hp_set_ne, wrap_small, ups_ap_cons, ups_ap_nil, upd_same, upd_other, env0_ap0, env0_aps, xt_a, xt_b, xt_c, -splice_eq, -stR_cells, stR_box, stR_boxA, stR_row, stR_row0, stR_row1, stR_rowA, stR_rowA0, splice_rowv, splice_rowv0, splice_rowv1, splice_z, splice_n, splice_s, nth_rowv, nth_rowv0, nth_rowv1, rowv_len, e2, e3, e5, X2, X3, show (k : Int) < 4 by omega, hlt, hlt2, ia_47, htt, e2, e3, e5, X2, X3, E0.blk, hlt, hlt2, p0, p1, p2, p3, p4, p5, q0, q1, q2, q3, q4, q5]
      exact hQ _ ⟨rfl, by (repeat (first | exact Ext.rfl | assumption | (refine Ext.al ?_ _) | (refine Ext.dw ?_) | (refine Ext.set ?_ (by first | omega | (simp only [World.size_alloc, size_setRow, dw_size]; omega)) _) | (refine Ext.tr ?_ (by assumption))))⟩
    · have hte : x.tag = y.tag := by
        simp only [Bool.and_eq_true, beq_iff_eq] at htt
        cases hxt : x.tag
        cases hyt : y.tag
        rw [hxt, hyt] at htt
        simp only at htt
        rw [htt.1, htt.2]
      rcases storeOk_slot hx hxk with hz | ⟨hv, _, hpos⟩
      · have u1 := storeOk_z hx hxk hz
        have u4 := storeOk_z hy hyk (hte ▸ hz)
        have hxy : verEq x y = true := verEq_iff.2 (by rw [u1, u4])
        have z1 : x.tag.t = 0 := by rw [hz]; rfl
        have z2 : x.tag.p = 0 := by rw [hz]; rfl
        have z3 : y.tag.t = 0 := by rw [← hte]; exact z1
        have z4 : y.tag.p = 0 := by rw [← hte]; exact z2
        rw [hxy] at hQ
        simp (maxSteps := 1000000) (disch := first | assumption | omega | (simp only [World.size_alloc, size_setRow, dw_size]; done) | (simp only [World.size_alloc, size_setRow, dw_size] <;> omega) | (simp only [List.length_set, Array.length_toList, List.length_cons, List.length_nil, List.length_append, bts_size] <;> omega) | (simp only [List.all_cons, List.all_nil, Value.oneCell', Bool.and_self, Bool.and_true]; done)) [-Option.bind_some, hp_alloc_lt, hp_alloc_eq, hp_set_ne, wrap_small, ups_ap_cons, ups_ap_nil, upd_same, upd_other, env0_ap0, env0_aps, xt_a, xt_b, xt_c, -splice_eq, -stR_cells, stR_box, stR_boxA, stR_row, stR_row0, stR_row1, stR_rowA, stR_rowA0, splice_rowv, splice_rowv0, splice_rowv1, splice_z, splice_n, splice_s, nth_rowv, nth_rowv0, nth_rowv1, rowv_len, e2, e3, e5, X2, X3, show (k : Int) < 4 by omega, hlt, hlt2, ia_47, z1, z2, z3, z4, e2, e3, e5, X2, X3, E0.blk, hlt, hlt2, p0, p1, p2, p3, p4, p5, q0, q1, q2, q3, q4, q5]
        exact Ret.mono (ih (k + 1) _ _ (by omega) (by first | omega | assumption | rfl | exact congrArg i64 (by omega) | (simp; done) | (simp; omega)) (by first | omega | assumption | rfl | exact congrArg i64 (by omega) | (simp; done) | (simp; omega)) (by first | omega | assumption | rfl | exact congrArg i64 (by omega) | (simp; done) | (simp; omega)) (by first | assumption | rfl | (simp (maxSteps := 1000000) (disch := first | assumption | omega | (simp only [World.size_alloc, size_setRow, dw_size]; done) | (simp only [World.size_alloc, size_setRow, dw_size] <;> omega) | (simp only [List.length_set, Array.length_toList, List.length_cons, List.length_nil, List.length_append, bts_size] <;> omega) | (simp only [List.all_cons, List.all_nil, Value.oneCell', Bool.and_self, Bool.and_true]; done)) [-Option.bind_some, hp_alloc_lt, hp_alloc_eq, hp_set_ne, wrap_small, ups_ap_cons, ups_ap_nil, upd_same, upd_other, env0_ap0, env0_aps, xt_a, xt_b, xt_c, -splice_eq, -stR_cells, stR_box, stR_boxA, stR_row, stR_row0, stR_row1, stR_rowA, stR_rowA0, splice_rowv, splice_rowv0, splice_rowv1, splice_z, splice_n, splice_s, nth_rowv, nth_rowv0, nth_rowv1, rowv_len, X2, e2, e3, e5, X2, X3, E0.blk, hlt, hlt2, p0, p1, p2, p3, p4, p5, q0, q1, q2, q3, q4, q5]; done)) (by first | assumption | rfl | (simp (maxSteps := 1000000) (disch := first | assumption | omega | (simp only [World.size_alloc, size_setRow, dw_size]; done) | (simp only [World.size_alloc, size_setRow, dw_size] <;> omega) | (simp only [List.length_set, Array.length_toList, List.length_cons, List.length_nil, List.length_append, bts_size] <;> omega) | (simp only [List.all_cons, List.all_nil, Value.oneCell', Bool.and_self, Bool.and_true]; done)) [-Option.bind_some, hp_alloc_lt, hp_alloc_eq, hp_set_ne, wrap_small, ups_ap_cons, ups_ap_nil, upd_same, upd_other, env0_ap0, env0_aps, xt_a, xt_b, xt_c, -splice_eq, -stR_cells, stR_box, stR_boxA, stR_row, stR_row0, stR_row1, stR_rowA, stR_rowA0, splice_rowv, splice_rowv0, splice_rowv1, splice_z, splice_n, splice_s, nth_rowv, nth_rowv0, nth_rowv1, rowv_len, X3, e2, e3, e5, X2, X3, E0.blk, hlt, hlt2, p0, p1, p2, p3, p4, p5, q0, q1, q2, q3, q4, q5]; done)) ha hb (by (repeat (first | exact Ext.rfl | assumption | (refine Ext.al ?_ _) | (refine Ext.dw ?_) | (refine Ext.set ?_ (by first | omega | (simp only [World.size_alloc, size_setRow, dw_size]; omega)) _) | (refine Ext.tr ?_ (by assumption)))))) hQ
      · have hu : verOk y = true := by
          rcases storeOk_slot hy hyk with hz | ⟨hu, _⟩
          · rw [← hte] at hz
            rw [hz] at hpos
            exact absurd hpos (by decide)
          · exact hu
        simp (maxSteps := 1000000) (disch := first | assumption | omega | (simp only [World.size_alloc, size_setRow, dw_size]; done) | (simp only [World.size_alloc, size_setRow, dw_size] <;> omega) | (simp only [List.length_set, Array.length_toList, List.length_cons, List.length_nil, List.length_append, bts_size] <;> omega) | (simp only [List.all_cons, List.all_nil, Value.oneCell', Bool.and_self, Bool.and_true]; done)) [-Option.bind_some, hp_alloc_lt, hp_alloc_eq, hp_set_ne, wrap_small, ups_ap_cons, ups_ap_nil, upd_same, upd_other, env0_ap0, env0_aps, xt_a, xt_b, xt_c, -splice_eq, -stR_cells, stR_box, stR_boxA, stR_row, stR_row0, stR_row1, stR_rowA, stR_rowA0, splice_rowv, splice_rowv0, splice_rowv1, splice_z, splice_n, splice_s, nth_rowv, nth_rowv0, nth_rowv1, rowv_len, e2, e3, e5, X2, X3, show (k : Int) < 4 by omega, hlt, hlt2, ia_47, htt, hpos, e2, e3, e5, X2, X3, E0.blk, hlt, hlt2, p0, p1, p2, p3, p4, p5, q0, q1, q2, q3, q4, q5]
        refine Ret.bind (spec_l2Same_m hv hu (D1.ext (by (repeat (first | exact Ext.rfl | assumption | (refine Ext.al ?_ _) | (refine Ext.dw ?_) | (refine Ext.set ?_ (by first | omega | (simp only [World.size_alloc, size_setRow, dw_size]; omega)) _) | (refine Ext.tr ?_ (by assumption)))))) (D2.ext (by (repeat (first | exact Ext.rfl | assumption | (refine Ext.al ?_ _) | (refine Ext.dw ?_) | (refine Ext.set ?_ (by first | omega | (simp only [World.size_alloc, size_setRow, dw_size]; omega)) _) | (refine Ext.tr ?_ (by assumption))))))) ?_
        rintro ⟨_, w1⟩ ⟨rfl, E1⟩
        try dsimp only at E1
        have zE1 := E1.size
        try simp only [World.size_alloc, size_setRow, dw_size] at zE1
        cases hxy : verEq x y
        · rw [hxy] at hQ
          simp (maxSteps := 1000000) (disch := first | assumption | omega | (simp only [World.size_alloc, size_setRow, dw_size]; done) | (simp only [World.size_alloc, size_setRow, dw_size] <;> omega) | (simp only [List.length_set, Array.length_toList, List.length_cons, List.length_nil, List.length_append, bts_size] <;> omega) | (simp only [List.all_cons, List.all_nil, Value.oneCell', Bool.and_self, Bool.and_true]; done)) [-Option.bind_some, hp_alloc_lt, hp_alloc_eq, hp_set_ne, wrap_small, ups_ap_cons, ups_ap_nil, upd_same, upd_other, env0_ap0, env0_aps, xt_a, xt_b, xt_c, -splice_eq, -stR_cells, stR_box, stR_boxA, stR_row, stR_row0, stR_row1, stR_rowA, stR_rowA0, splice_rowv, splice_rowv0, splice_rowv1, splice_z, splice_n, splice_s, nth_rowv, nth_rowv0, nth_rowv1, rowv_len, e2, e3, e5, X2, X3, E0.blk, hlt, hlt2, p0, p1, p2, p3, p4, p5, q0, q1, q2, q3, q4, q5, E1.blk]
          exact hQ _ ⟨rfl, by (repeat (first | exact Ext.rfl | assumption | (refine Ext.al ?_ _) | (refine Ext.dw ?_) | (refine Ext.set ?_ (by first | omega | (simp only [World.size_alloc, size_setRow, dw_size]; omega)) _) | (refine Ext.tr ?_ (by assumption))))⟩
        · rw [hxy] at hQ
          simp (maxSteps := 1000000) (disch := first | assumption | omega | (simp only [World.size_alloc, size_setRow, dw_size]; done) | (simp only [World.size_alloc, size_setRow, dw_size] <;> omega) | (simp only [List.length_set, Array.length_toList, List.length_cons, List.length_nil, List.length_append, bts_size] <;> omega) | (simp only [List.all_cons, List.all_nil, Value.oneCell', Bool.and_self, Bool.and_true]; done)) [-Option.bind_some, hp_alloc_lt, hp_alloc_eq, hp_set_ne, wrap_small, ups_ap_cons, ups_ap_nil, upd_same, upd_other, env0_ap0, env0_aps, xt_a, xt_b, xt_c, -splice_eq, -stR_cells, stR_box, stR_boxA, stR_row, stR_row0, stR_row1, stR_rowA, stR_rowA0, splice_rowv, splice_rowv0, splice_rowv1, splice_z, splice_n, splice_s, nth_rowv, nth_rowv0, nth_rowv1, rowv_len, e2, e3, e5, X2, X3, e2, e3, e5, X2, X3, E0.blk, hlt, hlt2, p0, p1, p2, p3, p4, p5, q0, q1, q2, q3, q4, q5, E1.blk]
          exact Ret.mono (ih (k + 1) _ _ (by omega) (by first | omega | assumption | rfl | exact congrArg i64 (by omega) | (simp; done) | (simp; omega)) (by first | omega | assumption | rfl | exact congrArg i64 (by omega) | (simp; done) | (simp; omega)) (by first | omega | assumption | rfl | exact congrArg i64 (by omega) | (simp; done) | (simp; omega)) (by first | assumption | rfl | (simp (maxSteps := 1000000) (disch := first | assumption | omega | (simp only [World.size_alloc, size_setRow, dw_size]; done) | (simp only [World.size_alloc, size_setRow, dw_size] <;> omega) | (simp only [List.length_set, Array.length_toList, List.length_cons, List.length_nil, List.length_append, bts_size] <;> omega) | (simp only [List.all_cons, List.all_nil, Value.oneCell', Bool.and_self, Bool.and_true]; done)) [-Option.bind_some, hp_alloc_lt, hp_alloc_eq, hp_set_ne, wrap_small, ups_ap_cons, ups_ap_nil, upd_same, upd_other, env0_ap0, env0_aps, xt_a, xt_b, xt_c, -splice_eq, -stR_cells, stR_box, stR_boxA, stR_row, stR_row0, stR_row1, stR_rowA, stR_rowA0, splice_rowv, splice_rowv0, splice_rowv1, splice_z, splice_n, splice_s, nth_rowv, nth_rowv0, nth_rowv1, rowv_len, X2, e2, e3, e5, X2, X3, E0.blk, hlt, hlt2, p0, p1, p2, p3, p4, p5, q0, q1, q2, q3, q4, q5, E1.blk]; done)) (by first | assumption | rfl | (simp (maxSteps := 1000000) (disch := first | assumption | omega | (simp only [World.size_alloc, size_setRow, dw_size]; done) | (simp only [World.size_alloc, size_setRow, dw_size] <;> omega) | (simp only [List.length_set, Array.length_toList, List.length_cons, List.length_nil, List.length_append, bts_size] <;> omega) | (simp only [List.all_cons, List.all_nil, Value.oneCell', Bool.and_self, Bool.and_true]; done)) [-Option.bind_some, hp_alloc_lt, hp_alloc_eq, hp_set_ne, wrap_small, ups_ap_cons, ups_ap_nil, upd_same, upd_other, env0_ap0, env0_aps, xt_a, xt_b, xt_c, -splice_eq, -stR_cells, stR_box, stR_boxA, stR_row, stR_row0, stR_row1, stR_rowA, stR_rowA0, splice_rowv, splice_rowv0, splice_rowv1, splice_z, splice_n, splice_s, nth_rowv, nth_rowv0, nth_rowv1, rowv_len, X3, e2, e3, e5, X2, X3, E0.blk, hlt, hlt2, p0, p1, p2, p3, p4, p5, q0, q1, q2, q3, q4, q5, E1.blk]; done)) ha hb (by (repeat (first | exact Ext.rfl | assumption | (refine Ext.al ?_ _) | (refine Ext.dw ?_) | (refine Ext.set ?_ (by first | omega | (simp only [World.size_alloc, size_setRow, dw_size]; omega)) _) | (refine Ext.tr ?_ (by assumption)))))) hQ
theorem spec_l3SameStore_m {a b : Option Addr} {n m c c' : Nat} {S S' : Nat → Prop} {xs ys : List Ver} {w : World} (hx : storeOk xs = true) (hy : storeOk ys = true) (ha : D tVers S w [.slice a n c] xs) (hb : D tVers S' w [.slice b m c'] ys) :
    Ret (EV P 142 #[.agg #[.slice a n c], .agg #[.slice b m c']] w) fun r => r.1 = .bool (sameV xs ys) ∧ Ext w r.2 := by
  obtain ⟨rfl, hm, _⟩ := ha.n
  obtain ⟨rfl, hm2, _⟩ := hb.n
  refine Ret.post fun Q hQ => ?_
  refine Ret.enter plain mixed (spec_l3SameStore_fn _ _ _) (by kernel_rfl) (n := 2) (by kernel_rfl) rfl ?_
  simp (maxSteps := 1000000) (disch := first | assumption | omega | (simp only [World.size_alloc, size_setRow, dw_size]; done) | (simp only [World.size_alloc, size_setRow, dw_size] <;> omega) | (simp only [List.length_set, Array.length_toList, List.length_cons, List.length_nil, List.length_append, bts_size] <;> omega) | (simp only [List.all_cons, List.all_nil, Value.oneCell', Bool.and_self, Bool.and_true]; done)) [-Option.bind_some, hp_alloc_lt, hp_alloc_eq, hp_set_ne, wrap_small, ups_ap_cons, ups_ap_nil, upd_same, upd_other, env0_ap0, env0_aps, xt_a, xt_b, xt_c, -splice_eq, -stR_cells, stR_box, stR_boxA, stR_row, stR_row0, stR_row1, stR_rowA, stR_rowA0, splice_rowv, splice_rowv0, splice_rowv1, splice_z, splice_n, splice_s, nth_rowv, nth_rowv0, nth_rowv1, rowv_len]
  refine Ret.mono (spec_l3SameStore_n (g2 := w.heap.size) (g3 := w.heap.size + 1) (t2 := 91) (t3 := 91) hx hy 4 0 _ _ (by omega) rfl rfl rfl (by first | assumption | rfl | (simp (maxSteps := 1000000) (disch := first | assumption | omega | (simp only [World.size_alloc, size_setRow, dw_size]; done) | (simp only [World.size_alloc, size_setRow, dw_size] <;> omega) | (simp only [List.length_set, Array.length_toList, List.length_cons, List.length_nil, List.length_append, bts_size] <;> omega) | (simp only [List.all_cons, List.all_nil, Value.oneCell', Bool.and_self, Bool.and_true]; done)) [-Option.bind_some, hp_alloc_lt, hp_alloc_eq, hp_set_ne, wrap_small, ups_ap_cons, ups_ap_nil, upd_same, upd_other, env0_ap0, env0_aps, xt_a, xt_b, xt_c, -splice_eq, -stR_cells, stR_box, stR_boxA, stR_row, stR_row0, stR_row1, stR_rowA, stR_rowA0, splice_rowv, splice_rowv0, splice_rowv1, splice_z, splice_n, splice_s, nth_rowv, nth_rowv0, nth_rowv1, rowv_len]; done)) (by first | assumption | rfl | (simp (maxSteps := 1000000) (disch := first | assumption | omega | (simp only [World.size_alloc, size_setRow, dw_size]; done) | (simp only [World.size_alloc, size_setRow, dw_size] <;> omega) | (simp only [List.length_set, Array.length_toList, List.length_cons, List.length_nil, List.length_append, bts_size] <;> omega) | (simp only [List.all_cons, List.all_nil, Value.oneCell', Bool.and_self, Bool.and_true]; done)) [-Option.bind_some, hp_alloc_lt, hp_alloc_eq, hp_set_ne, wrap_small, ups_ap_cons, ups_ap_nil, upd_same, upd_other, env0_ap0, env0_aps, xt_a, xt_b, xt_c, -splice_eq, -stR_cells, stR_box, stR_boxA, stR_row, stR_row0, stR_row1, stR_rowA, stR_rowA0, splice_rowv, splice_rowv0, splice_rowv1, splice_z, splice_n, splice_s, nth_rowv, nth_rowv0, nth_rowv1, rowv_len]; done)) ha hb (by (repeat (first | exact Ext.rfl | assumption | (refine Ext.al ?_ _) | (refine Ext.dw ?_) | (refine Ext.set ?_ (by first | omega | (simp only [World.size_alloc, size_setRow, dw_size]; omega)) _) | (refine Ext.tr ?_ (by assumption)))))) ?_
  rintro r ⟨h1, h2⟩
  exact hQ _ ⟨by rw [h1]; simp, h2⟩
theorem slot_ok_of {i : Nat} {v : Ver} (h : verOk v = true) (hk : v.key = i) : slotOk i v = true := by simp [slotOk, h, hk]
theorem slots_set : ∀ (xs : List Ver) (i k : Nat) (v : Ver), slots i xs = true → slotOk (i + k) v = true → slots i (xs.set k v) = true
  | [], i, k, v, h, _ => by simpa using h
  | x :: xs, i, 0, v, h, hv => by
    simp only [slots, Bool.and_eq_true, List.set_cons_zero, Nat.add_zero] at *
    exact ⟨hv, h.2⟩
  | x :: xs, i, k + 1, v, h, hv => by
    simp only [slots, Bool.and_eq_true, List.set_cons_succ] at *
    exact ⟨h.1, slots_set xs (i + 1) k v h.2 (by rwa [show i + 1 + k = i + (k + 1) by omega])⟩
theorem storeOk_set {xs : List Ver} {v : Ver} (h : storeOk xs = true) (hv : verOk v = true) : storeOk (xs.set v.key.toNat v) = true := by
  have hk := verOk_key hv
  simp only [storeOk, Bool.and_eq_true, List.length_set] at *
  exact ⟨slots_set xs 0 _ v h.1 (slot_ok_of hv (by omega)), h.2⟩
theorem spec_l3Next_n {a1 a2 a5 : Option Addr} {c1 c2 c5 g2 g5 B : Nat} {Sw St : Nat → Prop} {wait store : List Ver} {w0 : World} (hok : ∀ v ∈ wait, verOk v = true) (hst : storeOk store = true) (h2 : g2 < B) (h5 : B ≤ g5) (h02 : w0.heap.size ≤ g2) :
    ∀ (d k : Nat) (e : Env) (w : World) (s : List Ver), k + d = wait.length → storeOk s = true → e 2 = pt g2 0 → e 5 = pt g5 0 → e 6 = i64 k → hp w g2 = some (.cells #[.slice a2 store.length c2, .slice a1 wait.length c1] 95 (0, 0)) → hp w g5 = some (.cells #[.slice a5 s.length c5] 91 (0, 0)) →
    D tVers Sw w0 [.slice a1 wait.length c1] wait → D tVers St w0 [.slice a2 store.length c2] store → Ext w0 w → O tVers (fun b => In B w.heap.size b ∧ b ≠ g5) w [.slice a5 s.length c5] s →
    Ret (spec_l3Next_l1 e w) fun r => r.1 = .bool (fitsL s (wait.drop k) store) ∧ Ext w0 r.2 := by
  intro d
  induction d with
  | zero =>
    intro k e w s hd hs e2 e5 e6 X2 X5 ha hb E0 ho
    have zE0 := E0.size
    try simp only [World.size_alloc, size_setRow, dw_size] at zE0
    rw [spec_l3Next_l1_eq]
    obtain rfl : k = wait.length := by omega
    have y2 := hp_lt X2
    have y5 := hp_lt X5
    rw [List.drop_length]
    refine Ret.post fun Q hQ => ?_
    simp (maxSteps := 1000000) (disch := first | assumption | omega | (simp only [World.size_alloc, size_setRow, dw_size]; done) | (simp only [World.size_alloc, size_setRow, dw_size] <;> omega) | (simp only [List.length_set, Array.length_toList, List.length_cons, List.length_nil, List.length_append, bts_size] <;> omega) | (simp only [List.all_cons, List.all_nil, Value.oneCell', Bool.and_self, Bool.and_true]; done)) [-Option.bind_some, hp_alloc_lt, hp_alloc_eq, hp_set_ne, wrap_small, ups_ap_cons, ups_ap_nil, upd_same, upd_other, env0_ap0, env0_aps, xt_a, xt_b, xt_c, -splice_eq, -stR_cells, stR_box, stR_boxA, stR_row, stR_row0, stR_row1, stR_rowA, stR_rowA0, splice_rowv, splice_rowv0, splice_rowv1, splice_z, splice_n, splice_s, nth_rowv, nth_rowv0, nth_rowv1, rowv_len, e2, e5, e6, X2, X5, e2, e5, e6, X2, X5, E0.blk]
    refine Ret.bind (spec_l3SameStore_m hs hst ho.d (hb.ext E0)) ?_
    rintro ⟨_, w1⟩ ⟨rfl, E1⟩
    try dsimp only at E1
    have zE1 := E1.size
    try simp only [World.size_alloc, size_setRow, dw_size] at zE1
    simp (maxSteps := 1000000) (disch := first | assumption | omega | (simp only [World.size_alloc, size_setRow, dw_size]; done) | (simp only [World.size_alloc, size_setRow, dw_size] <;> omega) | (simp only [List.length_set, Array.length_toList, List.length_cons, List.length_nil, List.length_append, bts_size] <;> omega) | (simp only [List.all_cons, List.all_nil, Value.oneCell', Bool.and_self, Bool.and_true]; done)) [-Option.bind_some, hp_alloc_lt, hp_alloc_eq, hp_set_ne, wrap_small, ups_ap_cons, ups_ap_nil, upd_same, upd_other, env0_ap0, env0_aps, xt_a, xt_b, xt_c, -splice_eq, -stR_cells, stR_box, stR_boxA, stR_row, stR_row0, stR_row1, stR_rowA, stR_rowA0, splice_rowv, splice_rowv0, splice_rowv1, splice_z, splice_n, splice_s, nth_rowv, nth_rowv0, nth_rowv1, rowv_len, e2, e5, e6, X2, X5, E0.blk, E1.blk]
    exact hQ _ ⟨rfl, by (repeat (first | exact Ext.rfl | assumption | (refine Ext.al ?_ _) | (refine Ext.dw ?_) | (refine Ext.set ?_ (by first | omega | (simp only [World.size_alloc, size_setRow, dw_size]; omega)) _) | (refine Ext.tr ?_ (by assumption))))⟩
  | succ d ih =>
    intro k e w s hd hs e2 e5 e6 X2 X5 ha hb E0 ho
    have zE0 := E0.size
    try simp only [World.size_alloc, size_setRow, dw_size] at zE0
    rw [spec_l3Next_l1_eq]
    have hlt : k < wait.length := by omega
    obtain ⟨v, hv, hdv⟩ := drop_at hlt
    have hvo := hok v (List.mem_of_getElem? hv)
    have hk := verOk_key hvo
    have hs4 := storeOk_len hs
    have h4 : v.key.toNat < s.length := by omega
    obtain ⟨u, hu, _⟩ := drop_at h4
    have hn := ha.n
    have y2 := hp_lt X2
    have y5 := hp_lt X5
    obtain ⟨b1, o1, cs1, rfl, A1, D1, _, l1⟩ := (ha.ext E0).at (by decide) hv
    have D1' := D1
    obtain ⟨av, cv, rfl, hq1, ht1⟩ := D.ver.1 D1
    have p0 := A1 0 _ rfl
    have p1 := A1 1 _ rfl
    have p2 := A1 2 _ rfl
    have p3 := A1 3 _ rfl
    have p4 := A1 4 _ rfl
    have p5 := A1 5 _ rfl
    simp only [LVer_n, LTag_n, LNode_n, Nat.add_zero] at p0 p1 p2 p3 p4 p5
    obtain ⟨b2, o2, cs2, rfl, A2, D2, _, l2⟩ := ho.d.at (by decide) hu
    obtain ⟨au, cu, rfl, hq2, ht2⟩ := D.ver.1 D2
    have q0 := A2 0 _ rfl
    have q1 := A2 1 _ rfl
    have q2 := A2 2 _ rfl
    have q3 := A2 3 _ rfl
    have q4 := A2 4 _ rfl
    have q5 := A2 5 _ rfl
    simp only [LVer_n, LTag_n, LNode_n, Nat.add_zero] at q0 q1 q2 q3 q4 q5
    rw [hdv]
    have hfl : fitsL s (v :: wait.drop (k + 1)) store = (tagLess u.tag v.tag && fitsL (s.set v.key.toNat v) (wait.drop (k + 1)) store) := by rw [fitsL, hu]
    rw [hfl]
    refine Ret.post fun Q hQ => ?_
    simp (maxSteps := 1000000) (disch := first | assumption | omega | (simp only [World.size_alloc, size_setRow, dw_size]; done) | (simp only [World.size_alloc, size_setRow, dw_size] <;> omega) | (simp only [List.length_set, Array.length_toList, List.length_cons, List.length_nil, List.length_append, bts_size] <;> omega) | (simp only [List.all_cons, List.all_nil, Value.oneCell', Bool.and_self, Bool.and_true]; done)) [-Option.bind_some, hp_alloc_lt, hp_alloc_eq, hp_set_ne, wrap_small, ups_ap_cons, ups_ap_nil, upd_same, upd_other, env0_ap0, env0_aps, xt_a, xt_b, xt_c, -splice_eq, -stR_cells, stR_box, stR_boxA, stR_row, stR_row0, stR_row1, stR_rowA, stR_rowA0, splice_rowv, splice_rowv0, splice_rowv1, splice_z, splice_n, splice_s, nth_rowv, nth_rowv0, nth_rowv1, rowv_len, e2, e5, e6, X2, X5, hlt, ia_47, show v.key < s.length by omega, e2, e5, e6, X2, X5, E0.blk, hlt, p0, p1, p2, p3, p4, p5, q0, q1, q2, q3, q4, q5]
    refine Ret.bind (spec_l1Less_c u.tag v.tag _) ?_
    rintro ⟨_, w1⟩ ⟨rfl, E1⟩
    try dsimp only at E1
    have zE1 := E1.size
    try simp only [World.size_alloc, size_setRow, dw_size] at zE1
    cases hl : tagLess u.tag v.tag
    · rw [hl] at hQ
      simp (maxSteps := 1000000) (disch := first | assumption | omega | (simp only [World.size_alloc, size_setRow, dw_size]; done) | (simp only [World.size_alloc, size_setRow, dw_size] <;> omega) | (simp only [List.length_set, Array.length_toList, List.length_cons, List.length_nil, List.length_append, bts_size] <;> omega) | (simp only [List.all_cons, List.all_nil, Value.oneCell', Bool.and_self, Bool.and_true]; done)) [-Option.bind_some, hp_alloc_lt, hp_alloc_eq, hp_set_ne, wrap_small, ups_ap_cons, ups_ap_nil, upd_same, upd_other, env0_ap0, env0_aps, xt_a, xt_b, xt_c, -splice_eq, -stR_cells, stR_box, stR_boxA, stR_row, stR_row0, stR_row1, stR_rowA, stR_rowA0, splice_rowv, splice_rowv0, splice_rowv1, splice_z, splice_n, splice_s, nth_rowv, nth_rowv0, nth_rowv1, rowv_len, e2, e5, e6, X2, X5, E0.blk, hlt, p0, p1, p2, p3, p4, p5, q0, q1, q2, q3, q4, q5, E1.blk]
      exact hQ _ ⟨rfl, by (repeat (first | exact Ext.rfl | assumption | (refine Ext.al ?_ _) | (refine Ext.dw ?_) | (refine Ext.set ?_ (by first | omega | (simp only [World.size_alloc, size_setRow, dw_size]; omega)) _) | (refine Ext.tr ?_ (by assumption))))⟩
    · rw [hl] at hQ
      simp (maxSteps := 1000000) (disch := first | assumption | omega | (simp only [World.size_alloc, size_setRow, dw_size]; done) | (simp only [World.size_alloc, size_setRow, dw_size] <;> omega) | (simp only [List.length_set, Array.length_toList, List.length_cons, List.length_nil, List.length_append, bts_size] <;> omega) | (simp only [List.all_cons, List.all_nil, Value.oneCell', Bool.and_self, Bool.and_true]; done)) [-Option.bind_some, hp_alloc_lt, hp_alloc_eq, hp_set_ne, wrap_small, ups_ap_cons, ups_ap_nil, upd_same, upd_other, env0_ap0, env0_aps, xt_a, xt_b, xt_c, -splice_eq, -stR_cells, stR_box, stR_boxA, stR_row, stR_row0, stR_row1, stR_rowA, stR_rowA0, splice_rowv, splice_rowv0, splice_rowv1, splice_z, splice_n, splice_s, nth_rowv, nth_rowv0, nth_rowv1, rowv_len, e2, e5, e6, X2, X5, hlt, ia_47, e2, e5, e6, X2, X5, E0.blk, hlt, p0, p1, p2, p3, p4, p5, q0, q1, q2, q3, q4, q5, E1.blk]
      refine Ret.bind (spec_l2Add_n (ho.keep (by intro b hS hb; (try dsimp only at hS); (try simp only [In, World.size_alloc, size_setRow, dw_size] at hS hb); first | rfl | (simp (disch := first | assumption | omega | (simp only [World.size_alloc, size_setRow, dw_size]; omega) | (simp only [World.size_alloc, size_setRow, dw_size, In]; omega)) only [E0.blk, E1.blk, hp_alloc_lt, hp_set_ne, hp_dw]; done))) (D1.ext (by (repeat (first | exact Ext.rfl | assumption | (refine Ext.al ?_ _) | (refine Ext.dw ?_) | (refine Ext.set ?_ (by first | omega | (simp only [World.size_alloc, size_setRow, dw_size]; omega)) _) | (refine Ext.tr ?_ (by assumption)))))) hk.1 h4) ?_
      rintro ⟨_, w2⟩ ⟨rfl, o2, M2⟩
      try dsimp only at o2 M2
      have zM2 := M2.size
      try simp only [World.size_alloc, size_setRow, dw_size] at zM2
      rw [storeAdd_t hu hl] at o2
      have Y2 : hp w2 g2 = hp w g2 := (M2.blk g2 (by (try simp only [In, World.size_alloc, size_setRow, dw_size] at *); omega) (by (try simp only [In, World.size_alloc, size_setRow, dw_size] at *); omega)).trans (by first | assumption | rfl | (simp (maxSteps := 1000000) (disch := first | assumption | omega | (simp only [World.size_alloc, size_setRow, dw_size]; done) | (simp only [World.size_alloc, size_setRow, dw_size] <;> omega) | (simp only [List.length_set, Array.length_toList, List.length_cons, List.length_nil, List.length_append, bts_size] <;> omega) | (simp only [List.all_cons, List.all_nil, Value.oneCell', Bool.and_self, Bool.and_true]; done)) [-Option.bind_some, hp_alloc_lt, hp_alloc_eq, hp_set_ne, wrap_small, ups_ap_cons, ups_ap_nil, upd_same, upd_other, env0_ap0, env0_aps, xt_a, xt_b, xt_c, e2, e5, e6, X2, X5, E0.blk, hlt, p0, p1, p2, p3, p4, p5, q0, q1, q2, q3, q4, q5, E1.blk, M2.blk]; done))
      have Y5 : hp w2 g5 = hp w g5 := (M2.blk g5 (by (try simp only [In, World.size_alloc, size_setRow, dw_size] at *); omega) (by (try simp only [In, World.size_alloc, size_setRow, dw_size] at *); omega)).trans (by first | assumption | rfl | (simp (maxSteps := 1000000) (disch := first | assumption | omega | (simp only [World.size_alloc, size_setRow, dw_size]; done) | (simp only [World.size_alloc, size_setRow, dw_size] <;> omega) | (simp only [List.length_set, Array.length_toList, List.length_cons, List.length_nil, List.length_append, bts_size] <;> omega) | (simp only [List.all_cons, List.all_nil, Value.oneCell', Bool.and_self, Bool.and_true]; done)) [-Option.bind_some, hp_alloc_lt, hp_alloc_eq, hp_set_ne, wrap_small, ups_ap_cons, ups_ap_nil, upd_same, upd_other, env0_ap0, env0_aps, xt_a, xt_b, xt_c, e2, e5, e6, X2, X5, E0.blk, hlt, p0, p1, p2, p3, p4, p5, q0, q1, q2, q3, q4, q5, E1.blk, M2.blk]; done))
      simp (maxSteps := 1000000) (disch := first | assumption | omega | (simp only [World.size_alloc, size_setRow, dw_size]; done) | (simp only [World.size_alloc, size_setRow, dw_size] <;> omega) | (simp only [List.length_set, Array.length_toList, List.length_cons, List.length_nil, List.length_append, bts_size] <;> omega) | (simp only [List.all_cons, List.all_nil, Value.oneCell', Bool.and_self, Bool.and_true]; done)) [-Option.bind_some, hp_alloc_lt, hp_alloc_eq, hp_set_ne, wrap_small, ups_ap_cons, ups_ap_nil, upd_same, upd_other, env0_ap0, env0_aps, xt_a, xt_b, xt_c, -splice_eq, -stR_cells, stR_box, stR_boxA, stR_row, stR_row0, stR_row1, stR_rowA, stR_rowA0, splice_rowv, splice_rowv0, splice_rowv1, splice_z, splice_n, splice_s, nth_rowv, nth_rowv0, nth_rowv1, rowv_len, e2, e5, e6, X2, X5, Y2, Y5, e2, e5, e6, X2, X5, E0.blk, hlt, p0, p1, p2, p3, p4, p5, q0, q1, q2, q3, q4, q5, E1.blk, M2.blk]
      have E3 : Ext w0 w2 := Mod.after (E0.tr (by (repeat (first | exact Ext.rfl | assumption | (refine Ext.al ?_ _) | (refine Ext.dw ?_) | (refine Ext.set ?_ (by first | omega | (simp only [World.size_alloc, size_setRow, dw_size]; omega)) _) | (refine Ext.tr ?_ (by assumption)))))) M2 (by intro x hx h; (try dsimp only at h); (try simp only [In, World.size_alloc, size_setRow, dw_size] at *); omega)
      have zE3 := E3.size
      try simp only [World.size_alloc, size_setRow, dw_size] at zE3
      refine Ret.mono (ih (k + 1) _ _ (s.set v.key.toNat v) (by omega) (storeOk_set hs hvo) (by first | omega | assumption | rfl | exact congrArg i64 (by omega) | (simp; done) | (simp; omega)) (by first | omega | assumption | rfl | exact congrArg i64 (by omega) | (simp; done) | (simp; omega)) (by first | omega | assumption | rfl | exact congrArg i64 (by omega) | (simp; done) | (simp; omega)) (by first | assumption | rfl | (simp (maxSteps := 1000000) (disch := first | assumption | omega | (simp only [World.size_alloc, size_setRow, dw_size]; done) | (simp only [World.size_alloc, size_setRow, dw_size] <;> omega) | (simp only [List.length_set, Array.length_toList, List.length_cons, List.length_nil, List.length_append, bts_size] <;> omega) | (simp only [List.all_cons, List.all_nil, Value.oneCell', Bool.and_self, Bool.and_true]; done)) [-Option.bind_some, hp_alloc_lt, hp_alloc_eq, hp_set_ne, wrap_small, ups_ap_cons, ups_ap_nil, upd_same, upd_other, env0_ap0, env0_aps, xt_a, xt_b, xt_c, -splice_eq, -stR_cells, stR_box, stR_boxA, stR_row, stR_row0, stR_row1, stR_rowA, stR_rowA0, splice_rowv, splice_rowv0, splice_rowv1, splice_z, splice_n, splice_s, nth_rowv, nth_rowv0, nth_rowv1, rowv_len, Y2, X2, e2, e5, e6, X2, X5, E0.blk, hlt, p0, p1, p2, p3, p4, p5, q0, q1, q2, q3, q4, q5, E1.blk, M2.blk, E3.blk]; done)) (by rw [List.length_set]; exact (by first | assumption | rfl | (simp (maxSteps := 1000000) (disch := first | assumption | omega | (simp only [World.size_alloc, size_setRow, dw_size]; done) | (simp only [World.size_alloc, size_setRow, dw_size] <;> omega) | (simp only [List.length_set, Array.length_toList, List.length_cons, List.length_nil, List.length_append, bts_size] <;> omega) | (simp only [List.all_cons, List.all_nil, Value.oneCell', Bool.and_self, Bool.and_true]; done)) [-Option.bind_some, hp_alloc_lt, hp_alloc_eq, hp_set_ne, wrap_small, ups_ap_cons, ups_ap_nil, upd_same, upd_other, env0_ap0, env0_aps, xt_a, xt_b, xt_c, -splice_eq, -stR_cells, stR_box, stR_boxA, stR_row, stR_row0, stR_row1, stR_rowA, stR_rowA0, splice_rowv, splice_rowv0, splice_rowv1, splice_z, splice_n, splice_s, nth_rowv, nth_rowv0, nth_rowv1, rowv_len, Y5, X5, e2, e5, e6, X2, X5, E0.blk, hlt, p0, p1, p2, p3, p4, p5, q0, q1, q2, q3, q4, q5, E1.blk, M2.blk, E3.blk]; done))) ha hb (by (repeat (first | exact Ext.rfl | assumption | (refine Ext.al ?_ _) | (refine Ext.dw ?_) | (refine Ext.set ?_ (by first | omega | (simp only [World.size_alloc, size_setRow, dw_size]; omega)) _) | (refine Ext.tr ?_ (by assumption))))) ?_) hQ
      rw [List.length_set]
      refine ((o2.wide (S' := fun b => In B w2.heap.size b ∧ b ≠ g5) ?_).keep (by intro b hS hb; (try dsimp only at hS); (try simp only [In, World.size_alloc, size_setRow, dw_size] at hS hb); first | rfl | (simp (disch := first | assumption | omega | (simp only [World.size_alloc, size_setRow, dw_size]; omega) | (simp only [World.size_alloc, size_setRow, dw_size, In]; omega)) only [E0.blk, E1.blk, M2.blk, E3.blk, hp_alloc_lt, hp_set_ne, hp_dw]; done))).wide ?_
      · intro b h1 h2
        simp only [In, World.size_alloc, size_setRow, dw_size] at *
        omega
      · intro b h1 h2
        simp only [In, World.size_alloc, size_setRow, dw_size] at *
        omega
def nextOk (a b : CNode) : Bool := storeOk b.store && fitsL b.store a.wait a.store
theorem spec_l3Next_m {S S' : Nat → Prop} {cs ds : List Value} {a b : CNode} {w : World} (hok : ∀ v ∈ a.wait, verOk v = true) (hst : storeOk a.store = true) (ha : D tNode S w cs a) (hb : D tNode S' w ds b) :
    Ret (EV P 112 #[.agg cs.toArray, .agg ds.toArray] w) fun r => r.1 = .bool (nextOk a b) ∧ Ext w r.2 := by
  obtain ⟨a1, c1, a2, c2, rfl, h1, h2⟩ := D.node.1 ha
  obtain ⟨b1, d1, b2, d2, rfl, h3, h4⟩ := D.node.1 hb
  refine Ret.post fun Q hQ => ?_
  refine Ret.enter plain mixed (spec_l3Next_fn _ _ _) (by kernel_rfl) (n := 2) (by kernel_rfl) rfl ?_
  simp (maxSteps := 1000000) (disch := first | assumption | omega | (simp only [World.size_alloc, size_setRow, dw_size]; done) | (simp only [World.size_alloc, size_setRow, dw_size] <;> omega) | (simp only [List.length_set, Array.length_toList, List.length_cons, List.length_nil, List.length_append, bts_size] <;> omega) | (simp only [List.all_cons, List.all_nil, Value.oneCell', Bool.and_self, Bool.and_true]; done)) [-Option.bind_some, hp_alloc_lt, hp_alloc_eq, hp_set_ne, wrap_small, ups_ap_cons, ups_ap_nil, upd_same, upd_other, env0_ap0, env0_aps, xt_a, xt_b, xt_c, -splice_eq, -stR_cells, stR_box, stR_boxA, stR_row, stR_row0, stR_row1, stR_rowA, stR_rowA0, splice_rowv, splice_rowv0, splice_rowv1, splice_z, splice_n, splice_s, nth_rowv, nth_rowv0, nth_rowv1, rowv_len]
  refine Ret.bind (spec_l2StoreOk_c (D.rVers (h3.ext (by (repeat (first | exact Ext.rfl | assumption | (refine Ext.al ?_ _) | (refine Ext.dw ?_) | (refine Ext.set ?_ (by first | omega | (simp only [World.size_alloc, size_setRow, dw_size]; omega)) _) | (refine Ext.tr ?_ (by assumption)))))))) ?_
  rintro ⟨_, w1⟩ ⟨rfl, E1⟩
  try dsimp only at E1
  have zE1 := E1.size
  try simp only [World.size_alloc, size_setRow, dw_size] at zE1
  cases hs : storeOk b.store
  · have : nextOk a b = false := by simp [nextOk, hs]
    rw [this] at hQ
    simp (maxSteps := 1000000) (disch := first | assumption | omega | (simp only [World.size_alloc, size_setRow, dw_size]; done) | (simp only [World.size_alloc, size_setRow, dw_size] <;> omega) | (simp only [List.length_set, Array.length_toList, List.length_cons, List.length_nil, List.length_append, bts_size] <;> omega) | (simp only [List.all_cons, List.all_nil, Value.oneCell', Bool.and_self, Bool.and_true]; done)) [-Option.bind_some, hp_alloc_lt, hp_alloc_eq, hp_set_ne, wrap_small, ups_ap_cons, ups_ap_nil, upd_same, upd_other, env0_ap0, env0_aps, xt_a, xt_b, xt_c, -splice_eq, -stR_cells, stR_box, stR_boxA, stR_row, stR_row0, stR_row1, stR_rowA, stR_rowA0, splice_rowv, splice_rowv0, splice_rowv1, splice_z, splice_n, splice_s, nth_rowv, nth_rowv0, nth_rowv1, rowv_len, E1.blk]
    exact hQ _ ⟨rfl, by (repeat (first | exact Ext.rfl | assumption | (refine Ext.al ?_ _) | (refine Ext.dw ?_) | (refine Ext.set ?_ (by first | omega | (simp only [World.size_alloc, size_setRow, dw_size]; omega)) _) | (refine Ext.tr ?_ (by assumption))))⟩
  have : nextOk a b = fitsL b.store a.wait a.store := by simp [nextOk, hs]
  rw [this] at hQ
  simp (maxSteps := 1000000) (disch := first | assumption | omega | (simp only [World.size_alloc, size_setRow, dw_size]; done) | (simp only [World.size_alloc, size_setRow, dw_size] <;> omega) | (simp only [List.length_set, Array.length_toList, List.length_cons, List.length_nil, List.length_append, bts_size] <;> omega) | (simp only [List.all_cons, List.all_nil, Value.oneCell', Bool.and_self, Bool.and_true]; done)) [-Option.bind_some, hp_alloc_lt, hp_alloc_eq, hp_set_ne, wrap_small, ups_ap_cons, ups_ap_nil, upd_same, upd_other, env0_ap0, env0_aps, xt_a, xt_b, xt_c, -splice_eq, -stR_cells, stR_box, stR_boxA, stR_row, stR_row0, stR_row1, stR_rowA, stR_rowA0, splice_rowv, splice_rowv0, splice_rowv1, splice_z, splice_n, splice_s, nth_rowv, nth_rowv0, nth_rowv1, rowv_len, E1.blk]
  refine Ret.bind (spec_l2CopyStore_n (h3.ext (by (repeat (first | exact Ext.rfl | assumption | (refine Ext.al ?_ _) | (refine Ext.dw ?_) | (refine Ext.set ?_ (by first | omega | (simp only [World.size_alloc, size_setRow, dw_size]; omega)) _) | (refine Ext.tr ?_ (by assumption))))))) ?_
  rintro ⟨_, w2⟩ ⟨a3, c3, rfl, o3, E3⟩
  try dsimp only at a3 c3 o3 E3
  have zE3 := E3.size
  try simp only [World.size_alloc, size_setRow, dw_size] at zE3
  simp (maxSteps := 1000000) (disch := first | assumption | omega | (simp only [World.size_alloc, size_setRow, dw_size]; done) | (simp only [World.size_alloc, size_setRow, dw_size] <;> omega) | (simp only [List.length_set, Array.length_toList, List.length_cons, List.length_nil, List.length_append, bts_size] <;> omega) | (simp only [List.all_cons, List.all_nil, Value.oneCell', Bool.and_self, Bool.and_true]; done)) [-Option.bind_some, hp_alloc_lt, hp_alloc_eq, hp_set_ne, wrap_small, ups_ap_cons, ups_ap_nil, upd_same, upd_other, env0_ap0, env0_aps, xt_a, xt_b, xt_c, -splice_eq, -stR_cells, stR_box, stR_boxA, stR_row, stR_row0, stR_row1, stR_rowA, stR_rowA0, splice_rowv, splice_rowv0, splice_rowv1, splice_z, splice_n, splice_s, nth_rowv, nth_rowv0, nth_rowv1, rowv_len, E1.blk, E3.blk]
  refine Ret.mono (spec_l3Next_n (a5 := a3) (c5 := c3) (g2 := w.heap.size) (g5 := w2.heap.size) (B := w.heap.size + 1 + 1) (w0 := w) hok hst (by omega) (by omega) (by omega) a.wait.length 0 _ _ b.store (by omega) hs rfl rfl rfl (by first | assumption | rfl | (simp (maxSteps := 1000000) (disch := first | assumption | omega | (simp only [World.size_alloc, size_setRow, dw_size]; done) | (simp only [World.size_alloc, size_setRow, dw_size] <;> omega) | (simp only [List.length_set, Array.length_toList, List.length_cons, List.length_nil, List.length_append, bts_size] <;> omega) | (simp only [List.all_cons, List.all_nil, Value.oneCell', Bool.and_self, Bool.and_true]; done)) [-Option.bind_some, hp_alloc_lt, hp_alloc_eq, hp_set_ne, wrap_small, ups_ap_cons, ups_ap_nil, upd_same, upd_other, env0_ap0, env0_aps, xt_a, xt_b, xt_c, -splice_eq, -stR_cells, stR_box, stR_boxA, stR_row, stR_row0, stR_row1, stR_rowA, stR_rowA0, splice_rowv, splice_rowv0, splice_rowv1, splice_z, splice_n, splice_s, nth_rowv, nth_rowv0, nth_rowv1, rowv_len, E1.blk, E3.blk]; done)) (by first | assumption | rfl | (simp (maxSteps := 1000000) (disch := first | assumption | omega | (simp only [World.size_alloc, size_setRow, dw_size]; done) | (simp only [World.size_alloc, size_setRow, dw_size] <;> omega) | (simp only [List.length_set, Array.length_toList, List.length_cons, List.length_nil, List.length_append, bts_size] <;> omega) | (simp only [List.all_cons, List.all_nil, Value.oneCell', Bool.and_self, Bool.and_true]; done)) [-Option.bind_some, hp_alloc_lt, hp_alloc_eq, hp_set_ne, wrap_small, ups_ap_cons, ups_ap_nil, upd_same, upd_other, env0_ap0, env0_aps, xt_a, xt_b, xt_c, -splice_eq, -stR_cells, stR_box, stR_boxA, stR_row, stR_row0, stR_row1, stR_rowA, stR_rowA0, splice_rowv, splice_rowv0, splice_rowv1, splice_z, splice_n, splice_s, nth_rowv, nth_rowv0, nth_rowv1, rowv_len, E1.blk, E3.blk]; done)) h2 h1 (by (repeat (first | exact Ext.rfl | assumption | (refine Ext.al ?_ _) | (refine Ext.dw ?_) | (refine Ext.set ?_ (by first | omega | (simp only [World.size_alloc, size_setRow, dw_size]; omega)) _) | (refine Ext.tr ?_ (by assumption))))) ((o3.keep (by intro b hS hb; (try dsimp only at hS); (try simp only [In, World.size_alloc, size_setRow, dw_size] at hS hb); first | rfl | (simp (disch := first | assumption | omega | (simp only [World.size_alloc, size_setRow, dw_size]; omega) | (simp only [World.size_alloc, size_setRow, dw_size, In]; omega)) only [E1.blk, E3.blk, hp_alloc_lt, hp_set_ne, hp_dw]; done))).wide (by intro b h1 h2; (try dsimp only at h1); (try simp only [In, World.size_alloc, size_setRow, dw_size] at *); omega))) ?_
  rintro r ⟨h1, h2⟩
  exact hQ _ ⟨by rw [h1]; simp, h2⟩
end Go.Proofs.YtggmfmanpjcjkaaGreat.X
