/- A part of the proof: an evaluator of the model, its laws, and contracts of functions; no condition. -/
import Derived.Test.YtgdacclgooaodaaGreatDoorU6
set_option linter.unusedVariables false
set_option linter.unusedSimpArgs false
set_option maxRecDepth 100000
set_option maxHeartbeats 1000000
namespace Go.Proofs.YtgdacclgooaodaaGreatDoor.X
open Go Go.Ev Go.RowKit
theorem l2Get_n {g o c b2 b4 : Nat} {m0 : Int} {t0 : Tag} {ws : List (List UInt8)} {w0 : World} (hws : ws.length = 7) (hx : ∀ x ∈ ws, x.length ≤ 140737488351000) (h2 : w0.heap.size ≤ b2) (h4 : w0.heap.size ≤ b4) (h24 : b2 ≠ b4) (hA : StrAt w0 g o ws)
    (hk0 : ∀ v', verOk v' = true → verWords v' = ws → m0 = v'.key ∧ t0 = v'.tag) :
    ∀ (d k : Nat) (e : Env) (w : World) (acc : List Tag) (a : Option Addr) (q : Nat) (ok : Bool), k + d = 6 → 2 ≤ k → e 0 = .slice (some ⟨g, o, none⟩) 7 c → e 2 = pt b2 0 → e 4 = pt b4 0 → e 6 = .bool ok → e 7 = i64 k → Ext w0 w →
      hp w b2 = some (.cells #[i64 0, i64 0, i64 0, .slice none 0 0, .string ⟨#[]⟩, .bool false] 28 (0, 0)) → hp w b4 = some (.cells #[i64 m0, i64 t0.t, i64 t0.p, .slice a acc.length q, .string ⟨#[]⟩, .bool false] 28 (0, 0)) → acc.length = k - 2 →
      (∀ v', verOk v' = true → verWords v' = ws → ok = true ∧ acc = v'.past.take (k - 2)) → O tTags (fun b => In w0.heap.size w.heap.size b ∧ b ≠ b2 ∧ b ≠ b4) w [.slice a acc.length q] acc →
      Ret (spec_l2Get_l1 e w) fun r => ∃ v ok ds, r.1 = .tuple #[.agg ds.toArray, .bool ok] ∧ O tVer (In w0.heap.size r.2.heap.size) r.2 ds v ∧ (∀ v', verOk v' = true → verWords v' = ws → ok = true ∧ v = v') ∧ Ext w0 r.2 := by
  intro d
  induction d with
  | zero =>
    intro k e w acc a q ok hd hk2 e0 e2 e4 e6 e7 E0 X2 X4 hal hH ho
    have zE0 := E0.size
    try simp only [World.size_alloc, size_setRow, dw_size] at zE0
    rw [spec_l2Get_l1_eq]
    obtain rfl : k = 6 := by omega
    have y2 := hp_lt X2
    have y4 := hp_lt X4
    obtain ⟨x0, x1, x2, x3, x4, x5, y, hy⟩ := len7 hws
    have c6 := cellO_ext E0 (hA 6 y (by rw [hy]; rfl))
    have hyl := hx y (by rw [hy]; simp)
    have hH' : ∀ v', verOk v' = true → verWords v' = ws → ok = true ∧ m0 = v'.key ∧ t0 = v'.tag ∧ acc = v'.past ∧ y = restL v' := by
      intro v' h1 h2
      obtain ⟨a1, a2, a3, a4, a5, a6, a7⟩ := ver_parts h1
      obtain ⟨k1, k2⟩ := hk0 v' h1 h2
      obtain ⟨k3, k4⟩ := hH v' h1 h2
      refine ⟨k3, k1, k2, by rw [k4, List.take_of_length_le (by omega)], ?_⟩
      rw [hy, verWords] at h2
      match hvp : v'.past, a6 with
      | [t1, t2, t3, t4], _ =>
        rw [hvp] at h2
        simp only [List.map_cons, List.map_nil, List.cons_append, List.nil_append, List.cons.injEq, and_true] at h2
        exact h2.2.2.2.2.2.2.symm
    have mk : ∀ (w' : World) (x : List UInt8) (gn : Bool), x.length ≤ 140737488351000 → O tTags (fun b => In w0.heap.size w.heap.size b ∧ b ≠ b2 ∧ b ≠ b4) w' [.slice a acc.length q] acc → w.heap.size ≤ w'.heap.size →
        O tVer (In w0.heap.size w'.heap.size) w' [i64 m0, i64 t0.t, i64 t0.p, .slice a acc.length q, .string (bts x), .bool gn] ⟨m0, t0, acc, bts x, gn⟩ := fun w' x gn hxl ho' hsz =>
      O.ver.2 ⟨a, q, rfl, ho'.wide (fun b hb hl => by have := hb.1; simp only [In] at this ⊢; omega), by show (bts x).size ≤ _; rw [bts_size]; omega⟩
    refine Ret.post fun Q hQ => ?_
    by_cases h45 : y = [45]
    · subst h45
      simp (maxSteps := 1000000) (disch := first | assumption | omega | (simp only [World.size_alloc, size_setRow, dw_size]; done) | (simp only [World.size_alloc, size_setRow, dw_size] <;> omega) | (simp only [List.length_set, Array.length_toList, List.length_cons, List.length_nil, List.length_append, bts_size] <;> omega) | (simp only [List.all_cons, List.all_nil, Value.oneCell', Bool.and_self, Bool.and_true]; done)) [-Option.bind_some, hp_alloc_lt, hp_alloc_eq, hp_set_ne, wrap_small, ups_ap_cons, ups_ap_nil, upd_same, upd_other, env0_ap0, env0_aps, xt_a, xt_b, xt_c, nk_ptr, e0, e2, e4, e6, e7, ia_41, c6, bts_list, X2, X4, e0, e2, e4, e6, e7, E0.blk, X2, X4]
      refine hQ _ ⟨_, ok, [i64 m0, i64 t0.t, i64 t0.p, .slice a acc.length q, .string (bts []), .bool true], rfl, mk _ [] true (by simp) (ho.keep fun b hb hl => by simp only [hp_set_ne hb.2.1, hp_set_ne hb.2.2]) (by simp), fun v' h1 h2 => ?_, by (repeat (first | exact Ext.rfl | assumption | (refine Ext.al ?_ _) | (refine Ext.dw ?_) | (refine Ext.set ?_ (by first | omega | (simp only [World.size_alloc, size_setRow, dw_size]; omega)) _) | (refine Ext.tr ?_ (by assumption))))⟩
      obtain ⟨k1, k2, k3, k4, k5⟩ := hH' v' h1 h2
      obtain ⟨a1, a2, a3, a4, a5, a6, a7⟩ := ver_parts h1
      refine ⟨k1, ?_⟩
      cases hgn : v'.gone
      · rw [restL, hgn] at k5; exact absurd (List.cons.inj k5).1 (by decide)
      · have := a4 hgn
        obtain ⟨vk, vt, vp, vx, vg⟩ := v'
        dsimp only at *
        subst k2 k3 k4 hgn
        simp only [Ver.mk.injEq, true_and, and_true]
        rw [← bts_of vx, this]
    · have h45' : (y == [45]) = false := beq_eq_false_iff_ne.2 h45
      cases hyc : y with
      | nil =>
        subst hyc
        simp (maxSteps := 1000000) (disch := first | assumption | omega | (simp only [World.size_alloc, size_setRow, dw_size]; done) | (simp only [World.size_alloc, size_setRow, dw_size] <;> omega) | (simp only [List.length_set, Array.length_toList, List.length_cons, List.length_nil, List.length_append, bts_size] <;> omega) | (simp only [List.all_cons, List.all_nil, Value.oneCell', Bool.and_self, Bool.and_true]; done)) [-Option.bind_some, hp_alloc_lt, hp_alloc_eq, hp_set_ne, wrap_small, ups_ap_cons, ups_ap_nil, upd_same, upd_other, env0_ap0, env0_aps, xt_a, xt_b, xt_c, nk_ptr, e0, e2, e4, e6, e7, ia_41, c6, bts_list, X2, X4, e0, e2, e4, e6, e7, E0.blk, X2, X4]
        refine hQ _ ⟨_, false, [i64 m0, i64 t0.t, i64 t0.p, .slice a acc.length q, .string (bts []), .bool false], rfl, mk _ [] false (by simp) (ho.keep fun b hb hl => by simp only [hp_set_ne hb.2.1, hp_set_ne hb.2.2]) (by simp), fun v' h1 h2 => ?_, by (repeat (first | exact Ext.rfl | assumption | (refine Ext.al ?_ _) | (refine Ext.dw ?_) | (refine Ext.set ?_ (by first | omega | (simp only [World.size_alloc, size_setRow, dw_size]; omega)) _) | (refine Ext.tr ?_ (by assumption))))⟩
        have k5 := (hH' v' h1 h2).2.2.2.2
        unfold restL at k5
        split at k5 <;> cases k5
      | cons b r =>
        have hne : (y == []) = false := by rw [hyc]; rfl
        have hem : y.isEmpty = false := by rw [hyc]; rfl
        have hix := fun w => ix_bts (P := P) (t := 9) (by kernel_rfl) y (k := .i64) (i := 0) (by decide) (b := b) (by rw [hyc]; rfl) w
        by_cases hb : b = 61
        · have hb' : ((b.toNat : Int) != 61) = false := by rw [hb]; rfl
          have hs1 := fun w => sl_str_from (P := P) (t := 9) (by kernel_rfl) y (i := 1) (by omega) (by rw [hyc, List.length_cons]; omega) w
          rw [show y.drop (1 : Int).toNat = r by rw [hyc]; rfl] at hs1
          have hrl : r.length ≤ y.length := by rw [hyc]; simp
          simp (maxSteps := 1000000) (disch := first | assumption | omega | (simp only [World.size_alloc, size_setRow, dw_size]; done) | (simp only [World.size_alloc, size_setRow, dw_size] <;> omega) | (simp only [List.length_set, Array.length_toList, List.length_cons, List.length_nil, List.length_append, bts_size] <;> omega) | (simp only [List.all_cons, List.all_nil, Value.oneCell', Bool.and_self, Bool.and_true]; done)) [-Option.bind_some, hp_alloc_lt, hp_alloc_eq, hp_set_ne, wrap_small, ups_ap_cons, ups_ap_nil, upd_same, upd_other, env0_ap0, env0_aps, xt_a, xt_b, xt_c, nk_ptr, e0, e2, e4, e6, e7, ia_41, c6, bts_list, h45', hne, hem, hix, hb', hs1, X2, X4, e0, e2, e4, e6, e7, E0.blk, X2, X4]
          refine hQ _ ⟨_, ok, [i64 m0, i64 t0.t, i64 t0.p, .slice a acc.length q, .string (bts r), .bool false], rfl, mk _ r false (by omega) (ho.keep fun b hb hl => by simp only [hp_set_ne hb.2.1, hp_set_ne hb.2.2]) (by simp), fun v' h1 h2 => ?_, by (repeat (first | exact Ext.rfl | assumption | (refine Ext.al ?_ _) | (refine Ext.dw ?_) | (refine Ext.set ?_ (by first | omega | (simp only [World.size_alloc, size_setRow, dw_size]; omega)) _) | (refine Ext.tr ?_ (by assumption))))⟩
          obtain ⟨k1, k2, k3, k4, k5⟩ := hH' v' h1 h2
          refine ⟨k1, ?_⟩
          cases hgn : v'.gone
          · rw [restL, hgn, hyc] at k5
            have k6 := (List.cons.inj k5).2
            obtain ⟨vk, vt, vp, vx, vg⟩ := v'
            dsimp only at *
            subst k2 k3 k4 hgn
            simp only [Ver.mk.injEq, true_and, and_true]
            rw [k6, bts_of]
          · rw [restL, hgn] at k5
            exact absurd k5 h45
        · have hb' : ((b.toNat : Int) != 61) = true := by
            have : (b.toNat : Int) ≠ 61 := fun h => hb (UInt8.toNat_inj.1 (by show b.toNat = 61; omega))
            simpa using this
          simp (maxSteps := 1000000) (disch := first | assumption | omega | (simp only [World.size_alloc, size_setRow, dw_size]; done) | (simp only [World.size_alloc, size_setRow, dw_size] <;> omega) | (simp only [List.length_set, Array.length_toList, List.length_cons, List.length_nil, List.length_append, bts_size] <;> omega) | (simp only [List.all_cons, List.all_nil, Value.oneCell', Bool.and_self, Bool.and_true]; done)) [-Option.bind_some, hp_alloc_lt, hp_alloc_eq, hp_set_ne, wrap_small, ups_ap_cons, ups_ap_nil, upd_same, upd_other, env0_ap0, env0_aps, xt_a, xt_b, xt_c, nk_ptr, e0, e2, e4, e6, e7, ia_41, c6, bts_list, h45', hne, hem, hix, hb', X2, X4, e0, e2, e4, e6, e7, E0.blk, X2, X4]
          refine hQ _ ⟨_, false, [i64 m0, i64 t0.t, i64 t0.p, .slice a acc.length q, .string (bts []), .bool false], rfl, mk _ [] false (by simp) (ho.keep fun b hb hl => by simp only [hp_set_ne hb.2.1, hp_set_ne hb.2.2]) (by simp), fun v' h1 h2 => ?_, by (repeat (first | exact Ext.rfl | assumption | (refine Ext.al ?_ _) | (refine Ext.dw ?_) | (refine Ext.set ?_ (by first | omega | (simp only [World.size_alloc, size_setRow, dw_size]; omega)) _) | (refine Ext.tr ?_ (by assumption))))⟩
          have k5 := (hH' v' h1 h2).2.2.2.2
          rw [hyc] at k5
          unfold restL at k5
          split at k5
          · exact absurd (hyc.trans k5) h45
          · exact absurd (List.cons.inj k5).1 hb
  | succ d ih =>
    intro k e w acc a q ok hd hk2 e0 e2 e4 e6 e7 E0 X2 X4 hal hH ho
    have zE0 := E0.size
    try simp only [World.size_alloc, size_setRow, dw_size] at zE0
    rw [spec_l2Get_l1_eq]
    have y2 := hp_lt X2
    have y4 := hp_lt X4
    have hz := E0.size
    obtain ⟨x, hxk, _⟩ := drop_at (l := ws) (k := k) (by omega)
    have hxl := hx x (List.mem_of_getElem? hxk)
    have hc := cellO_ext E0 (hA _ _ hxk)
    refine Ret.post fun Q hQ => ?_
    simp (maxSteps := 1000000) (disch := first | assumption | omega | (simp only [World.size_alloc, size_setRow, dw_size]; done) | (simp only [World.size_alloc, size_setRow, dw_size] <;> omega) | (simp only [List.length_set, Array.length_toList, List.length_cons, List.length_nil, List.length_append, bts_size] <;> omega) | (simp only [List.all_cons, List.all_nil, Value.oneCell', Bool.and_self, Bool.and_true]; done)) [-Option.bind_some, hp_alloc_lt, hp_alloc_eq, hp_set_ne, wrap_small, ups_ap_cons, ups_ap_nil, upd_same, upd_other, env0_ap0, env0_aps, xt_a, xt_b, xt_c, nk_ptr, -splice_eq, -stR_cells, stR_box, stR_boxA, stR_row, stR_row0, stR_row1, stR_rowA, stR_rowA0, splice_rowv, splice_rowv0, splice_rowv1, splice_z, splice_n, splice_s, nth_rowv, nth_rowv0, nth_rowv1, rowv_len, e0, e2, e4, e6, e7, show k < 6 by omega, show (k : Int) < 6 by omega, show k < 7 by omega, ia_41, hc, e0, e2, e4, e6, e7, E0.blk, X2, X4]
    refine Ret.bind (spec_TagGet_m (l := x) (by omega) _) ?_
    rintro ⟨_, w1⟩ ⟨t, okt, rfl, hg, E1⟩
    try dsimp only at t okt hg E1
    have zE1 := E1.size
    try simp only [World.size_alloc, size_setRow, dw_size] at zE1
    have X2' := (E1.blk y2).trans X2
    have X4' := (E1.blk y4).trans X4
    have hstep : ∀ v', verOk v' = true → verWords v' = ws → (ok && okt) = true ∧ acc ++ [t] = v'.past.take (k + 1 - 2) := by
      intro v' h1 h2
      obtain ⟨k3, k4⟩ := hH v' h1 h2
      obtain ⟨a1, a2, a3, a4, a5, a6, a7⟩ := ver_parts h1
      obtain ⟨u, hu, _⟩ := drop_at (l := v'.past) (k := k - 2) (by omega)
      have huo := a5 u (List.mem_of_getElem? hu)
      have hxu : x = tagL u := by
        rw [← h2, verWords, show k = (k - 2) + 1 + 1 by omega, List.getElem?_cons_succ, List.getElem?_cons_succ, List.getElem?_append_left (by rw [List.length_map]; omega), List.getElem?_map, hu] at hxk
        exact (Option.some.inj hxk).symm
      have hok : okt = true := by
        cases hh : okt
        · rw [hh] at hg; exact absurd hxu.symm ((hg.2 rfl).2 u huo)
        · rfl
      obtain ⟨h5, h6⟩ := hg.1 hok
      have htu : t = u := tagL_inj h5 huo (h6.trans hxu)
      refine ⟨by rw [k3, hok]; rfl, ?_⟩
      rw [show k + 1 - 2 = (k - 2) + 1 by omega, List.take_add_one, hu, ← k4, htu]
      rfl
    cases ok
    · simp (maxSteps := 1000000) (disch := first | assumption | omega | (simp only [World.size_alloc, size_setRow, dw_size]; done) | (simp only [World.size_alloc, size_setRow, dw_size] <;> omega) | (simp only [List.length_set, Array.length_toList, List.length_cons, List.length_nil, List.length_append, bts_size] <;> omega) | (simp only [List.all_cons, List.all_nil, Value.oneCell', Bool.and_self, Bool.and_true]; done)) [-Option.bind_some, hp_alloc_lt, hp_alloc_eq, hp_set_ne, wrap_small, ups_ap_cons, ups_ap_nil, upd_same, upd_other, env0_ap0, env0_aps, xt_a, xt_b, xt_c, nk_ptr, -splice_eq, -stR_cells, stR_box, stR_boxA, stR_row, stR_row0, stR_row1, stR_rowA, stR_rowA0, splice_rowv, splice_rowv0, splice_rowv1, splice_z, splice_n, splice_s, nth_rowv, nth_rowv0, nth_rowv1, rowv_len, e0, e2, e4, e6, e7, xt_a, xt_b, X2', X4', e0, e2, e4, e6, e7, E0.blk, X2, X4, E1.blk]
      refine Ret.bind (O.appD (L := LTag) (mx := 8796093021952) flat_tag el_24 zz_23 rfl (by decide) ((ho.ext E1).ext (by (repeat (first | exact Ext.rfl | assumption | (refine Ext.al ?_ _) | (refine Ext.dw ?_) | (refine Ext.set ?_ (by first | omega | (simp only [World.size_alloc, size_setRow, dw_size]; omega)) _) | (refine Ext.tr ?_ (by assumption)))))) (lit_tagU (t := t) (g := w1.heap.size + 1) (e := 23) (by first | assumption | rfl | (simp (maxSteps := 1000000) (disch := first | assumption | omega | (simp only [World.size_alloc, size_setRow, dw_size]; done) | (simp only [World.size_alloc, size_setRow, dw_size] <;> omega) | (simp only [List.length_set, Array.length_toList, List.length_cons, List.length_nil, List.length_append, bts_size] <;> omega) | (simp only [List.all_cons, List.all_nil, Value.oneCell', Bool.and_self, Bool.and_true]; done)) [-Option.bind_some, hp_alloc_lt, hp_alloc_eq, hp_set_ne, wrap_small, ups_ap_cons, ups_ap_nil, upd_same, upd_other, env0_ap0, env0_aps, xt_a, xt_b, xt_c, nk_ptr, -splice_eq, -stR_cells, stR_box, stR_boxA, stR_row, stR_row0, stR_row1, stR_rowA, stR_rowA0, splice_rowv, splice_rowv0, splice_rowv1, splice_z, splice_n, splice_s, nth_rowv, nth_rowv0, nth_rowv1, rowv_len, e0, e2, e4, e6, e7, E0.blk, X2, X4, E1.blk]; done))) (by simp; omega) (by decide) (by decide)) ?_
      rintro ⟨_, w2⟩ ⟨a2, q2, rfl, o2, M2⟩
      have zM2 := M2.size
      try simp only [World.size_alloc, size_setRow, dw_size] at zM2
      try dsimp only at o2 M2
      have zM2 := M2.size
      have zE1 := E1.size
      simp only [World.size_alloc, size_setRow, dw_size] at zM2 o2
      have X2'' : hp w2 b2 = some (.cells #[i64 0, i64 0, i64 0, .slice none 0 0, .string ⟨#[]⟩, .bool false] 28 (0, 0)) := (M2.blk b2 (by simp only [World.size_alloc, size_setRow, dw_size]; omega) (fun h => h.2.1 rfl)).trans (by first | assumption | rfl | (simp (maxSteps := 1000000) (disch := first | assumption | omega | (simp only [World.size_alloc, size_setRow, dw_size]; done) | (simp only [World.size_alloc, size_setRow, dw_size] <;> omega) | (simp only [List.length_set, Array.length_toList, List.length_cons, List.length_nil, List.length_append, bts_size] <;> omega) | (simp only [List.all_cons, List.all_nil, Value.oneCell', Bool.and_self, Bool.and_true]; done)) [-Option.bind_some, hp_alloc_lt, hp_alloc_eq, hp_set_ne, wrap_small, ups_ap_cons, ups_ap_nil, upd_same, upd_other, env0_ap0, env0_aps, xt_a, xt_b, xt_c, nk_ptr, -splice_eq, -stR_cells, stR_box, stR_boxA, stR_row, stR_row0, stR_row1, stR_rowA, stR_rowA0, splice_rowv, splice_rowv0, splice_rowv1, splice_z, splice_n, splice_s, nth_rowv, nth_rowv0, nth_rowv1, rowv_len, X2', e0, e2, e4, e6, e7, E0.blk, X2, X4, E1.blk, M2.blk]; done))
      have X4'' : hp w2 b4 = some (.cells #[i64 m0, i64 t0.t, i64 t0.p, .slice a acc.length q, .string ⟨#[]⟩, .bool false] 28 (0, 0)) := (M2.blk b4 (by simp only [World.size_alloc, size_setRow, dw_size]; omega) (fun h => h.2.2 rfl)).trans (by first | assumption | rfl | (simp (maxSteps := 1000000) (disch := first | assumption | omega | (simp only [World.size_alloc, size_setRow, dw_size]; done) | (simp only [World.size_alloc, size_setRow, dw_size] <;> omega) | (simp only [List.length_set, Array.length_toList, List.length_cons, List.length_nil, List.length_append, bts_size] <;> omega) | (simp only [List.all_cons, List.all_nil, Value.oneCell', Bool.and_self, Bool.and_true]; done)) [-Option.bind_some, hp_alloc_lt, hp_alloc_eq, hp_set_ne, wrap_small, ups_ap_cons, ups_ap_nil, upd_same, upd_other, env0_ap0, env0_aps, xt_a, xt_b, xt_c, nk_ptr, -splice_eq, -stR_cells, stR_box, stR_boxA, stR_row, stR_row0, stR_row1, stR_rowA, stR_rowA0, splice_rowv, splice_rowv0, splice_rowv1, splice_z, splice_n, splice_s, nth_rowv, nth_rowv0, nth_rowv1, rowv_len, X4', e0, e2, e4, e6, e7, E0.blk, X2, X4, E1.blk, M2.blk]; done))
      have F2 : Ext w0 w2 := Mod.after (a := w0) (by (repeat (first | exact Ext.rfl | assumption | (refine Ext.al ?_ _) | (refine Ext.dw ?_) | (refine Ext.set ?_ (by first | omega | (simp only [World.size_alloc, size_setRow, dw_size]; omega)) _) | (refine Ext.tr ?_ (by assumption))))) M2 (by intro y hy h; simp only [In] at h; omega)
      have hal2 : (acc ++ [t]).length = acc.length + [t].length := by simp
      rw [← hal2] at o2
      simp (maxSteps := 1000000) (disch := first | assumption | omega | (simp only [World.size_alloc, size_setRow, dw_size]; done) | (simp only [World.size_alloc, size_setRow, dw_size] <;> omega) | (simp only [List.length_set, Array.length_toList, List.length_cons, List.length_nil, List.length_append, bts_size] <;> omega) | (simp only [List.all_cons, List.all_nil, Value.oneCell', Bool.and_self, Bool.and_true]; done)) [-Option.bind_some, hp_alloc_lt, hp_alloc_eq, hp_set_ne, wrap_small, ups_ap_cons, ups_ap_nil, upd_same, upd_other, env0_ap0, env0_aps, xt_a, xt_b, xt_c, nk_ptr, -splice_eq, -stR_cells, stR_box, stR_boxA, stR_row, stR_row0, stR_row1, stR_rowA, stR_rowA0, splice_rowv, splice_rowv0, splice_rowv1, splice_z, splice_n, splice_s, nth_rowv, nth_rowv0, nth_rowv1, rowv_len, e0, e2, e4, e6, e7, X4'', e0, e2, e4, e6, e7, E0.blk, X2, X4, E1.blk, M2.blk]
      refine Ret.mono (ih (k + 1) _ _ (acc ++ [t]) a2 q2 false (by omega) (by omega) (by first | omega | assumption | rfl | exact congrArg i64 (by omega) | (simp; done) | (simp; omega)) (by first | omega | assumption | rfl | exact congrArg i64 (by omega) | (simp; done) | (simp; omega)) (by first | omega | assumption | rfl | exact congrArg i64 (by omega) | (simp; done) | (simp; omega)) (by first | omega | assumption | rfl | exact congrArg i64 (by omega) | (simp; done) | (simp; omega)) (by first | omega | assumption | rfl | exact congrArg i64 (by omega) | (simp; done) | (simp; omega)) (by (repeat (first | exact Ext.rfl | assumption | (refine Ext.al ?_ _) | (refine Ext.dw ?_) | (refine Ext.set ?_ (by first | omega | (simp only [World.size_alloc, size_setRow, dw_size]; omega)) _) | (refine Ext.tr ?_ (by assumption))))) (by first | assumption | rfl | (simp (maxSteps := 1000000) (disch := first | assumption | omega | (simp only [World.size_alloc, size_setRow, dw_size]; done) | (simp only [World.size_alloc, size_setRow, dw_size] <;> omega) | (simp only [List.length_set, Array.length_toList, List.length_cons, List.length_nil, List.length_append, bts_size] <;> omega) | (simp only [List.all_cons, List.all_nil, Value.oneCell', Bool.and_self, Bool.and_true]; done)) [-Option.bind_some, hp_alloc_lt, hp_alloc_eq, hp_set_ne, wrap_small, ups_ap_cons, ups_ap_nil, upd_same, upd_other, env0_ap0, env0_aps, xt_a, xt_b, xt_c, nk_ptr, -splice_eq, -stR_cells, stR_box, stR_boxA, stR_row, stR_row0, stR_row1, stR_rowA, stR_rowA0, splice_rowv, splice_rowv0, splice_rowv1, splice_z, splice_n, splice_s, nth_rowv, nth_rowv0, nth_rowv1, rowv_len, X2'', e0, e2, e4, e6, e7, E0.blk, X2, X4, E1.blk, M2.blk]; done)) (by first | assumption | rfl | (simp (maxSteps := 1000000) (disch := first | assumption | omega | (simp only [World.size_alloc, size_setRow, dw_size]; done) | (simp only [World.size_alloc, size_setRow, dw_size] <;> omega) | (simp only [List.length_set, Array.length_toList, List.length_cons, List.length_nil, List.length_append, bts_size] <;> omega) | (simp only [List.all_cons, List.all_nil, Value.oneCell', Bool.and_self, Bool.and_true]; done)) [-Option.bind_some, hp_alloc_lt, hp_alloc_eq, hp_set_ne, wrap_small, ups_ap_cons, ups_ap_nil, upd_same, upd_other, env0_ap0, env0_aps, xt_a, xt_b, xt_c, nk_ptr, -splice_eq, -stR_cells, stR_box, stR_boxA, stR_row, stR_row0, stR_row1, stR_rowA, stR_rowA0, splice_rowv, splice_rowv0, splice_rowv1, splice_z, splice_n, splice_s, nth_rowv, nth_rowv0, nth_rowv1, rowv_len, X4'', hal2, e0, e2, e4, e6, e7, E0.blk, X2, X4, E1.blk, M2.blk]; done)) (by simp; omega) (fun v' h1 h2 => hstep v' h1 h2) ?_) hQ
      refine (o2.keep ?_).wide (fun b hb hl => ?_)
      · intro b hb hl
        rcases hb with hb | hb
        · rw [hp_set_ne hb.2.2]
        · rw [hp_set_ne (by omega)]
      · simp only [In, size_setRow] at hb hl ⊢
        rcases hb with hb | hb <;> omega
    · simp (maxSteps := 1000000) (disch := first | assumption | omega | (simp only [World.size_alloc, size_setRow, dw_size]; done) | (simp only [World.size_alloc, size_setRow, dw_size] <;> omega) | (simp only [List.length_set, Array.length_toList, List.length_cons, List.length_nil, List.length_append, bts_size] <;> omega) | (simp only [List.all_cons, List.all_nil, Value.oneCell', Bool.and_self, Bool.and_true]; done)) [-Option.bind_some, hp_alloc_lt, hp_alloc_eq, hp_set_ne, wrap_small, ups_ap_cons, ups_ap_nil, upd_same, upd_other, env0_ap0, env0_aps, xt_a, xt_b, xt_c, nk_ptr, -splice_eq, -stR_cells, stR_box, stR_boxA, stR_row, stR_row0, stR_row1, stR_rowA, stR_rowA0, splice_rowv, splice_rowv0, splice_rowv1, splice_z, splice_n, splice_s, nth_rowv, nth_rowv0, nth_rowv1, rowv_len, e0, e2, e4, e6, e7, xt_a, xt_b, X2', X4', e0, e2, e4, e6, e7, E0.blk, X2, X4, E1.blk]
      refine Ret.bind (O.appD (L := LTag) (mx := 8796093021952) flat_tag el_24 zz_23 rfl (by decide) ((ho.ext E1).ext (by (repeat (first | exact Ext.rfl | assumption | (refine Ext.al ?_ _) | (refine Ext.dw ?_) | (refine Ext.set ?_ (by first | omega | (simp only [World.size_alloc, size_setRow, dw_size]; omega)) _) | (refine Ext.tr ?_ (by assumption)))))) (lit_tagU (t := t) (g := w1.heap.size + 1) (e := 23) (by first | assumption | rfl | (simp (maxSteps := 1000000) (disch := first | assumption | omega | (simp only [World.size_alloc, size_setRow, dw_size]; done) | (simp only [World.size_alloc, size_setRow, dw_size] <;> omega) | (simp only [List.length_set, Array.length_toList, List.length_cons, List.length_nil, List.length_append, bts_size] <;> omega) | (simp only [List.all_cons, List.all_nil, Value.oneCell', Bool.and_self, Bool.and_true]; done)) [-Option.bind_some, hp_alloc_lt, hp_alloc_eq, hp_set_ne, wrap_small, ups_ap_cons, ups_ap_nil, upd_same, upd_other, env0_ap0, env0_aps, xt_a, xt_b, xt_c, nk_ptr, -splice_eq, -stR_cells, stR_box, stR_boxA, stR_row, stR_row0, stR_row1, stR_rowA, stR_rowA0, splice_rowv, splice_rowv0, splice_rowv1, splice_z, splice_n, splice_s, nth_rowv, nth_rowv0, nth_rowv1, rowv_len, e0, e2, e4, e6, e7, E0.blk, X2, X4, E1.blk]; done))) (by simp; omega) (by decide) (by decide)) ?_
      rintro ⟨_, w2⟩ ⟨a2, q2, rfl, o2, M2⟩
      have zM2 := M2.size
      try simp only [World.size_alloc, size_setRow, dw_size] at zM2
      try dsimp only at o2 M2
      have zM2 := M2.size
      have zE1 := E1.size
      simp only [World.size_alloc, size_setRow, dw_size] at zM2 o2
      have X2'' : hp w2 b2 = some (.cells #[i64 0, i64 0, i64 0, .slice none 0 0, .string ⟨#[]⟩, .bool false] 28 (0, 0)) := (M2.blk b2 (by simp only [World.size_alloc, size_setRow, dw_size]; omega) (fun h => h.2.1 rfl)).trans (by first | assumption | rfl | (simp (maxSteps := 1000000) (disch := first | assumption | omega | (simp only [World.size_alloc, size_setRow, dw_size]; done) | (simp only [World.size_alloc, size_setRow, dw_size] <;> omega) | (simp only [List.length_set, Array.length_toList, List.length_cons, List.length_nil, List.length_append, bts_size] <;> omega) | (simp only [List.all_cons, List.all_nil, Value.oneCell', Bool.and_self, Bool.and_true]; done)) [-Option.bind_some, hp_alloc_lt, hp_alloc_eq, hp_set_ne, wrap_small, ups_ap_cons, ups_ap_nil, upd_same, upd_other, env0_ap0, env0_aps, xt_a, xt_b, xt_c, nk_ptr, -splice_eq, -stR_cells, stR_box, stR_boxA, stR_row, stR_row0, stR_row1, stR_rowA, stR_rowA0, splice_rowv, splice_rowv0, splice_rowv1, splice_z, splice_n, splice_s, nth_rowv, nth_rowv0, nth_rowv1, rowv_len, X2', e0, e2, e4, e6, e7, E0.blk, X2, X4, E1.blk, M2.blk]; done))
      have X4'' : hp w2 b4 = some (.cells #[i64 m0, i64 t0.t, i64 t0.p, .slice a acc.length q, .string ⟨#[]⟩, .bool false] 28 (0, 0)) := (M2.blk b4 (by simp only [World.size_alloc, size_setRow, dw_size]; omega) (fun h => h.2.2 rfl)).trans (by first | assumption | rfl | (simp (maxSteps := 1000000) (disch := first | assumption | omega | (simp only [World.size_alloc, size_setRow, dw_size]; done) | (simp only [World.size_alloc, size_setRow, dw_size] <;> omega) | (simp only [List.length_set, Array.length_toList, List.length_cons, List.length_nil, List.length_append, bts_size] <;> omega) | (simp only [List.all_cons, List.all_nil, Value.oneCell', Bool.and_self, Bool.and_true]; done)) [-Option.bind_some, hp_alloc_lt, hp_alloc_eq, hp_set_ne, wrap_small, ups_ap_cons, ups_ap_nil, upd_same, upd_other, env0_ap0, env0_aps, xt_a, xt_b, xt_c, nk_ptr, -splice_eq, -stR_cells, stR_box, stR_boxA, stR_row, stR_row0, stR_row1, stR_rowA, stR_rowA0, splice_rowv, splice_rowv0, splice_rowv1, splice_z, splice_n, splice_s, nth_rowv, nth_rowv0, nth_rowv1, rowv_len, X4', e0, e2, e4, e6, e7, E0.blk, X2, X4, E1.blk, M2.blk]; done))
      have F2 : Ext w0 w2 := Mod.after (a := w0) (by (repeat (first | exact Ext.rfl | assumption | (refine Ext.al ?_ _) | (refine Ext.dw ?_) | (refine Ext.set ?_ (by first | omega | (simp only [World.size_alloc, size_setRow, dw_size]; omega)) _) | (refine Ext.tr ?_ (by assumption))))) M2 (by intro y hy h; simp only [In] at h; omega)
      have hal2 : (acc ++ [t]).length = acc.length + [t].length := by simp
      rw [← hal2] at o2
      simp (maxSteps := 1000000) (disch := first | assumption | omega | (simp only [World.size_alloc, size_setRow, dw_size]; done) | (simp only [World.size_alloc, size_setRow, dw_size] <;> omega) | (simp only [List.length_set, Array.length_toList, List.length_cons, List.length_nil, List.length_append, bts_size] <;> omega) | (simp only [List.all_cons, List.all_nil, Value.oneCell', Bool.and_self, Bool.and_true]; done)) [-Option.bind_some, hp_alloc_lt, hp_alloc_eq, hp_set_ne, wrap_small, ups_ap_cons, ups_ap_nil, upd_same, upd_other, env0_ap0, env0_aps, xt_a, xt_b, xt_c, nk_ptr, -splice_eq, -stR_cells, stR_box, stR_boxA, stR_row, stR_row0, stR_row1, stR_rowA, stR_rowA0, splice_rowv, splice_rowv0, splice_rowv1, splice_z, splice_n, splice_s, nth_rowv, nth_rowv0, nth_rowv1, rowv_len, e0, e2, e4, e6, e7, X4'', e0, e2, e4, e6, e7, E0.blk, X2, X4, E1.blk, M2.blk]
      refine Ret.mono (ih (k + 1) _ _ (acc ++ [t]) a2 q2 okt (by omega) (by omega) (by first | omega | assumption | rfl | exact congrArg i64 (by omega) | (simp; done) | (simp; omega)) (by first | omega | assumption | rfl | exact congrArg i64 (by omega) | (simp; done) | (simp; omega)) (by first | omega | assumption | rfl | exact congrArg i64 (by omega) | (simp; done) | (simp; omega)) (by first | omega | assumption | rfl | exact congrArg i64 (by omega) | (simp; done) | (simp; omega)) (by first | omega | assumption | rfl | exact congrArg i64 (by omega) | (simp; done) | (simp; omega)) (by (repeat (first | exact Ext.rfl | assumption | (refine Ext.al ?_ _) | (refine Ext.dw ?_) | (refine Ext.set ?_ (by first | omega | (simp only [World.size_alloc, size_setRow, dw_size]; omega)) _) | (refine Ext.tr ?_ (by assumption))))) (by first | assumption | rfl | (simp (maxSteps := 1000000) (disch := first | assumption | omega | (simp only [World.size_alloc, size_setRow, dw_size]; done) | (simp only [World.size_alloc, size_setRow, dw_size] <;> omega) | (simp only [List.length_set, Array.length_toList, List.length_cons, List.length_nil, List.length_append, bts_size] <;> omega) | (simp only [List.all_cons, List.all_nil, Value.oneCell', Bool.and_self, Bool.and_true]; done)) [-Option.bind_some, hp_alloc_lt, hp_alloc_eq, hp_set_ne, wrap_small, ups_ap_cons, ups_ap_nil, upd_same, upd_other, env0_ap0, env0_aps, xt_a, xt_b, xt_c, nk_ptr, -splice_eq, -stR_cells, stR_box, stR_boxA, stR_row, stR_row0, stR_row1, stR_rowA, stR_rowA0, splice_rowv, splice_rowv0, splice_rowv1, splice_z, splice_n, splice_s, nth_rowv, nth_rowv0, nth_rowv1, rowv_len, X2'', e0, e2, e4, e6, e7, E0.blk, X2, X4, E1.blk, M2.blk]; done)) (by first | assumption | rfl | (simp (maxSteps := 1000000) (disch := first | assumption | omega | (simp only [World.size_alloc, size_setRow, dw_size]; done) | (simp only [World.size_alloc, size_setRow, dw_size] <;> omega) | (simp only [List.length_set, Array.length_toList, List.length_cons, List.length_nil, List.length_append, bts_size] <;> omega) | (simp only [List.all_cons, List.all_nil, Value.oneCell', Bool.and_self, Bool.and_true]; done)) [-Option.bind_some, hp_alloc_lt, hp_alloc_eq, hp_set_ne, wrap_small, ups_ap_cons, ups_ap_nil, upd_same, upd_other, env0_ap0, env0_aps, xt_a, xt_b, xt_c, nk_ptr, -splice_eq, -stR_cells, stR_box, stR_boxA, stR_row, stR_row0, stR_row1, stR_rowA, stR_rowA0, splice_rowv, splice_rowv0, splice_rowv1, splice_z, splice_n, splice_s, nth_rowv, nth_rowv0, nth_rowv1, rowv_len, X4'', hal2, e0, e2, e4, e6, e7, E0.blk, X2, X4, E1.blk, M2.blk]; done)) (by simp; omega) (fun v' h1 h2 => by simpa using hstep v' h1 h2) ?_) hQ
      refine (o2.keep ?_).wide (fun b hb hl => ?_)
      · intro b hb hl
        rcases hb with hb | hb
        · rw [hp_set_ne hb.2.2]
        · rw [hp_set_ne (by omega)]
      · simp only [In, size_setRow] at hb hl ⊢
        rcases hb with hb | hb <;> omega
theorem l2Get_m {g o c : Nat} {ws : List (List UInt8)} {w : World} (hws : ws.length = 7) (hx : ∀ x ∈ ws, x.length ≤ 140737488351000) (hA : StrAt w g o ws) :
    Ret (EV P 20 #[.slice (some ⟨g, o, none⟩) 7 c] w) fun r => ∃ v ok ds, r.1 = .tuple #[.agg ds.toArray, .bool ok] ∧ O tVer (In w.heap.size r.2.heap.size) r.2 ds v ∧ (∀ v', verOk v' = true → verWords v' = ws → ok = true ∧ v = v') ∧ Ext w r.2 := by
  obtain ⟨x0, x1, x2, x3, x4, x5, y, hy⟩ := len7 hws
  have c0 := hA 0 x0 (by rw [hy]; rfl)
  have c1 := hA 1 x1 (by rw [hy]; rfl)
  have h0 := hx x0 (by rw [hy]; simp)
  have h1 := hx x1 (by rw [hy]; simp)
  rw [Nat.add_zero] at c0
  have hg := cellO_lt c0
  refine Ret.post fun Q hQ => ?_
  refine Ret.enter plain mixed (spec_l2Get_fn _ _) (by kernel_rfl) (n := 1) (by kernel_rfl) rfl ?_
  simp (maxSteps := 1000000) (disch := first | assumption | omega | (simp only [World.size_alloc, size_setRow, dw_size]; done) | (simp only [World.size_alloc, size_setRow, dw_size] <;> omega) | (simp only [List.length_set, Array.length_toList, List.length_cons, List.length_nil, List.length_append, bts_size] <;> omega) | (simp only [List.all_cons, List.all_nil, Value.oneCell', Bool.and_self, Bool.and_true]; done)) [-Option.bind_some, hp_alloc_lt, hp_alloc_eq, hp_set_ne, wrap_small, ups_ap_cons, ups_ap_nil, upd_same, upd_other, env0_ap0, env0_aps, xt_a, xt_b, xt_c, nk_ptr, -splice_eq, -stR_cells, stR_box, stR_boxA, stR_row, stR_row0, stR_row1, stR_rowA, stR_rowA0, splice_rowv, splice_rowv0, splice_rowv1, splice_z, splice_n, splice_s, nth_rowv, nth_rowv0, nth_rowv1, rowv_len, ia_41, c0, hg]
  refine Ret.bind (l1Num_m (l := x0) (by omega) _) ?_
  rintro _ ⟨m0, rfl, hm0⟩
  simp (maxSteps := 1000000) (disch := first | assumption | omega | (simp only [World.size_alloc, size_setRow, dw_size]; done) | (simp only [World.size_alloc, size_setRow, dw_size] <;> omega) | (simp only [List.length_set, Array.length_toList, List.length_cons, List.length_nil, List.length_append, bts_size] <;> omega) | (simp only [List.all_cons, List.all_nil, Value.oneCell', Bool.and_self, Bool.and_true]; done)) [-Option.bind_some, hp_alloc_lt, hp_alloc_eq, hp_set_ne, wrap_small, ups_ap_cons, ups_ap_nil, upd_same, upd_other, env0_ap0, env0_aps, xt_a, xt_b, xt_c, nk_ptr, -splice_eq, -stR_cells, stR_box, stR_boxA, stR_row, stR_row0, stR_row1, stR_rowA, stR_rowA0, splice_rowv, splice_rowv0, splice_rowv1, splice_z, splice_n, splice_s, nth_rowv, nth_rowv0, nth_rowv1, rowv_len, ia_41, c1, hg]
  refine Ret.bind (spec_TagGet_m (l := x1) (by omega) _) ?_
  rintro ⟨_, w1⟩ ⟨t, ok, rfl, hgt, E1⟩
  try dsimp only at t ok hgt E1
  have zE1 := E1.size
  try simp only [World.size_alloc, size_setRow, dw_size] at zE1
  have X2 : hp w1 w.heap.size = some (.cells #[i64 0, i64 0, i64 0, .slice none 0 0, .string ⟨#[]⟩, .bool false] 28 (0, 0)) := (by first | assumption | rfl | (simp (maxSteps := 1000000) (disch := first | assumption | omega | (simp only [World.size_alloc, size_setRow, dw_size]; done) | (simp only [World.size_alloc, size_setRow, dw_size] <;> omega) | (simp only [List.length_set, Array.length_toList, List.length_cons, List.length_nil, List.length_append, bts_size] <;> omega) | (simp only [List.all_cons, List.all_nil, Value.oneCell', Bool.and_self, Bool.and_true]; done)) [-Option.bind_some, hp_alloc_lt, hp_alloc_eq, hp_set_ne, wrap_small, ups_ap_cons, ups_ap_nil, upd_same, upd_other, env0_ap0, env0_aps, xt_a, xt_b, xt_c, nk_ptr, -splice_eq, -stR_cells, stR_box, stR_boxA, stR_row, stR_row0, stR_row1, stR_rowA, stR_rowA0, splice_rowv, splice_rowv0, splice_rowv1, splice_z, splice_n, splice_s, nth_rowv, nth_rowv0, nth_rowv1, rowv_len, hg, E1.blk]; done))
  have X4 : hp w1 (w.heap.size + 1) = some (.cells #[i64 m0, i64 0, i64 0, .slice none 0 0, .string ⟨#[]⟩, .bool false] 28 (0, 0)) := (by first | assumption | rfl | (simp (maxSteps := 1000000) (disch := first | assumption | omega | (simp only [World.size_alloc, size_setRow, dw_size]; done) | (simp only [World.size_alloc, size_setRow, dw_size] <;> omega) | (simp only [List.length_set, Array.length_toList, List.length_cons, List.length_nil, List.length_append, bts_size] <;> omega) | (simp only [List.all_cons, List.all_nil, Value.oneCell', Bool.and_self, Bool.and_true]; done)) [-Option.bind_some, hp_alloc_lt, hp_alloc_eq, hp_set_ne, wrap_small, ups_ap_cons, ups_ap_nil, upd_same, upd_other, env0_ap0, env0_aps, xt_a, xt_b, xt_c, nk_ptr, -splice_eq, -stR_cells, stR_box, stR_boxA, stR_row, stR_row0, stR_row1, stR_rowA, stR_rowA0, splice_rowv, splice_rowv0, splice_rowv1, splice_z, splice_n, splice_s, nth_rowv, nth_rowv0, nth_rowv1, rowv_len, hg, E1.blk, X2]; done))
  simp (maxSteps := 1000000) (disch := first | assumption | omega | (simp only [World.size_alloc, size_setRow, dw_size]; done) | (simp only [World.size_alloc, size_setRow, dw_size] <;> omega) | (simp only [List.length_set, Array.length_toList, List.length_cons, List.length_nil, List.length_append, bts_size] <;> omega) | (simp only [List.all_cons, List.all_nil, Value.oneCell', Bool.and_self, Bool.and_true]; done)) [-Option.bind_some, hp_alloc_lt, hp_alloc_eq, hp_set_ne, wrap_small, ups_ap_cons, ups_ap_nil, upd_same, upd_other, env0_ap0, env0_aps, xt_a, xt_b, xt_c, nk_ptr, -splice_eq, -stR_cells, stR_box, stR_boxA, stR_row, stR_row0, stR_row1, stR_rowA, stR_rowA0, splice_rowv, splice_rowv0, splice_rowv1, splice_z, splice_n, splice_s, nth_rowv, nth_rowv0, nth_rowv1, rowv_len, xt_a, xt_b, X4, hg, E1.blk, X2, X4]
  refine Ret.mono (l2Get_n (w0 := w) (c := c) (b2 := w.heap.size) (b4 := w.heap.size + 1) (m0 := m0) (t0 := t) (ws := ws) hws hx (Nat.le_refl _) (by omega) (by omega) hA ?_ 4 2 _ _ [] none 0 ok (by omega) (by omega) (by first | omega | assumption | rfl | exact congrArg i64 (by omega) | (simp; done) | (simp; omega)) (by first | omega | assumption | rfl | exact congrArg i64 (by omega) | (simp; done) | (simp; omega)) (by first | omega | assumption | rfl | exact congrArg i64 (by omega) | (simp; done) | (simp; omega)) (by first | omega | assumption | rfl | exact congrArg i64 (by omega) | (simp; done) | (simp; omega)) (by first | omega | assumption | rfl | exact congrArg i64 (by omega) | (simp; done) | (simp; omega)) (by (repeat (first | exact Ext.rfl | assumption | (refine Ext.al ?_ _) | (refine Ext.dw ?_) | (refine Ext.set ?_ (by first | omega | (simp only [World.size_alloc, size_setRow, dw_size]; omega)) _) | (refine Ext.tr ?_ (by assumption))))) (by first | assumption | rfl | (simp (maxSteps := 1000000) (disch := first | assumption | omega | (simp only [World.size_alloc, size_setRow, dw_size]; done) | (simp only [World.size_alloc, size_setRow, dw_size] <;> omega) | (simp only [List.length_set, Array.length_toList, List.length_cons, List.length_nil, List.length_append, bts_size] <;> omega) | (simp only [List.all_cons, List.all_nil, Value.oneCell', Bool.and_self, Bool.and_true]; done)) [-Option.bind_some, hp_alloc_lt, hp_alloc_eq, hp_set_ne, wrap_small, ups_ap_cons, ups_ap_nil, upd_same, upd_other, env0_ap0, env0_aps, xt_a, xt_b, xt_c, nk_ptr, -splice_eq, -stR_cells, stR_box, stR_boxA, stR_row, stR_row0, stR_row1, stR_rowA, stR_rowA0, splice_rowv, splice_rowv0, splice_rowv1, splice_z, splice_n, splice_s, nth_rowv, nth_rowv0, nth_rowv1, rowv_len, X2, hg, E1.blk, X2, X4]; done)) (by first | assumption | rfl | (simp (maxSteps := 1000000) (disch := first | assumption | omega | (simp only [World.size_alloc, size_setRow, dw_size]; done) | (simp only [World.size_alloc, size_setRow, dw_size] <;> omega) | (simp only [List.length_set, Array.length_toList, List.length_cons, List.length_nil, List.length_append, bts_size] <;> omega) | (simp only [List.all_cons, List.all_nil, Value.oneCell', Bool.and_self, Bool.and_true]; done)) [-Option.bind_some, hp_alloc_lt, hp_alloc_eq, hp_set_ne, wrap_small, ups_ap_cons, ups_ap_nil, upd_same, upd_other, env0_ap0, env0_aps, xt_a, xt_b, xt_c, nk_ptr, -splice_eq, -stR_cells, stR_box, stR_boxA, stR_row, stR_row0, stR_row1, stR_rowA, stR_rowA0, splice_rowv, splice_rowv0, splice_rowv1, splice_z, splice_n, splice_s, nth_rowv, nth_rowv0, nth_rowv1, rowv_len, X4, hg, E1.blk, X2, X4]; done)) rfl ?_ O.nil) hQ
  · intro v' h1 h2
    obtain ⟨a1, a2, a3, a4, a5, a6, a7⟩ := ver_parts h1
    rw [hy, verWords] at h2
    have e0 := (List.cons.inj h2).1
    have e1 := (List.cons.inj (List.cons.inj h2).2).1
    have r1 := hm0 v'.key.toNat (by omega) e0.symm
    refine ⟨by omega, ?_⟩
    have hok : ok = true := by
      cases hh : ok
      · rw [hh] at hgt; exact absurd e1 ((hgt.2 rfl).2 _ a7)
      · rfl
    obtain ⟨h5, h6⟩ := hgt.1 hok
    exact tagL_inj h5 a7 (h6.trans e1.symm)
  · intro v' h1 h2
    obtain ⟨a1, a2, a3, a4, a5, a6, a7⟩ := ver_parts h1
    rw [hy, verWords] at h2
    have e1 := (List.cons.inj (List.cons.inj h2).2).1
    refine ⟨?_, by simp⟩
    cases hh : ok
    · rw [hh] at hgt; exact absurd e1 ((hgt.2 rfl).2 _ a7)
    · rfl
theorem spec_VerGet_m {l : List UInt8} (hl : l.length ≤ 100000000) (w : World) : Ret (EV P 6 #[.string (bts l)] w) fun r => ∃ v ok ds, r.1 = .tuple #[.agg ds.toArray, .bool ok] ∧ VerGot l v ok ∧ O tVer (In w.heap.size r.2.heap.size) r.2 ds v ∧ Ext w r.2 := by
  have hsz := cutN_sz 32 7 l
  refine Ret.post fun Q hQ => ?_
  refine Ret.enter plain mixed (spec_VerGet_fn _ _) (by kernel_rfl) (n := 1) (by kernel_rfl) rfl ?_
  simp (maxSteps := 1000000) (disch := first | assumption | omega | (simp only [World.size_alloc, size_setRow, dw_size]; done) | (simp only [World.size_alloc, size_setRow, dw_size] <;> omega) | (simp only [List.length_set, Array.length_toList, List.length_cons, List.length_nil, List.length_append, bts_size] <;> omega) | (simp only [List.all_cons, List.all_nil, Value.oneCell', Bool.and_self, Bool.and_true]; done)) [-Option.bind_some, hp_alloc_lt, hp_alloc_eq, hp_set_ne, wrap_small, ups_ap_cons, ups_ap_nil, upd_same, upd_other, env0_ap0, env0_aps, xt_a, xt_b, xt_c, nk_ptr, -splice_eq, -stR_cells, stR_box, stR_boxA, stR_row, stR_row0, stR_row1, stR_rowA, stR_rowA0, splice_rowv, splice_rowv0, splice_rowv1, splice_z, splice_n, splice_s, nth_rowv, nth_rowv0, nth_rowv1, rowv_len]
  refine Ret.bind (l1Cut_m (c := 32) (N := 7) (by decide) (by omega) _) ?_
  rintro ⟨_, w1⟩ ⟨a, q, rfl, o1, E1⟩
  try dsimp only at a q o1 E1
  have zE1 := E1.size
  try simp only [World.size_alloc, size_setRow, dw_size] at zE1
  have X1 : hp w1 w.heap.size = some (.cells #[i64 0, i64 0, i64 0, .slice none 0 0, .string ⟨#[]⟩, .bool false] 28 (0, 0)) := (by first | assumption | rfl | (simp (maxSteps := 1000000) (disch := first | assumption | omega | (simp only [World.size_alloc, size_setRow, dw_size]; done) | (simp only [World.size_alloc, size_setRow, dw_size] <;> omega) | (simp only [List.length_set, Array.length_toList, List.length_cons, List.length_nil, List.length_append, bts_size] <;> omega) | (simp only [List.all_cons, List.all_nil, Value.oneCell', Bool.and_self, Bool.and_true]; done)) [-Option.bind_some, hp_alloc_lt, hp_alloc_eq, hp_set_ne, wrap_small, ups_ap_cons, ups_ap_nil, upd_same, upd_other, env0_ap0, env0_aps, xt_a, xt_b, xt_c, nk_ptr, -splice_eq, -stR_cells, stR_box, stR_boxA, stR_row, stR_row0, stR_row1, stR_rowA, stR_rowA0, splice_rowv, splice_rowv0, splice_rowv1, splice_z, splice_n, splice_s, nth_rowv, nth_rowv0, nth_rowv1, rowv_len, E1.blk]; done))
  have bad : ∀ w', Ext w w' → (∀ v', verOk v' = true → verL v' ≠ l) → Q (.tuple #[.agg #[i64 0, i64 0, i64 0, .slice none 0 0, .string ⟨#[]⟩, .bool false], .bool false], w') := fun w' h1 h2 =>
    hQ _ ⟨verZ, false, [i64 0, i64 0, i64 0, .slice none 0 0, .string ⟨#[]⟩, .bool false], rfl, ⟨by simp, fun _ => ⟨rfl, h2⟩⟩, zero_Ver_o _, h1⟩
  by_cases h7 : (cutN 32 7 l).length = 7
  · have hcut : cutN 32 7 l = splitL 32 l := splitL_cut 32 (by omega)
    obtain ⟨g, o, rfl, A1⟩ := o_str o1 (by omega)
    have hno : ∀ v', verOk v' = true → verL v' = l → verWords v' = cutN 32 7 l := fun v' h1 h2 => by rw [hcut, ← h2, verL_split h1]
    simp (maxSteps := 1000000) (disch := first | assumption | omega | (simp only [World.size_alloc, size_setRow, dw_size]; done) | (simp only [World.size_alloc, size_setRow, dw_size] <;> omega) | (simp only [List.length_set, Array.length_toList, List.length_cons, List.length_nil, List.length_append, bts_size] <;> omega) | (simp only [List.all_cons, List.all_nil, Value.oneCell', Bool.and_self, Bool.and_true]; done)) [-Option.bind_some, hp_alloc_lt, hp_alloc_eq, hp_set_ne, wrap_small, ups_ap_cons, ups_ap_nil, upd_same, upd_other, env0_ap0, env0_aps, xt_a, xt_b, xt_c, nk_ptr, -splice_eq, -stR_cells, stR_box, stR_boxA, stR_row, stR_row0, stR_row1, stR_rowA, stR_rowA0, splice_rowv, splice_rowv0, splice_rowv1, splice_z, splice_n, splice_s, nth_rowv, nth_rowv0, nth_rowv1, rowv_len, h7, E1.blk, X1]
    refine Ret.bind (l2Get_m (c := q) (ws := cutN 32 7 l) h7 (fun x hx => by have := hsz x hx; omega) (A1.ext (by (repeat (first | exact Ext.rfl | assumption | (refine Ext.al ?_ _) | (refine Ext.dw ?_) | (refine Ext.set ?_ (by first | omega | (simp only [World.size_alloc, size_setRow, dw_size]; omega)) _) | (refine Ext.tr ?_ (by assumption))))))) ?_
    rintro ⟨_, w2⟩ ⟨v, ok, ds, rfl, o2, hv2, E2⟩
    have zE2 := E2.size
    try simp only [World.size_alloc, size_setRow, dw_size] at zE2
    try dsimp only at o2 E2
    have zE1 := E1.size
    have zE2 := E2.size
    simp only [World.size_alloc] at zE1
    have X2 : hp w2 w.heap.size = some (.cells #[i64 0, i64 0, i64 0, .slice none 0 0, .string ⟨#[]⟩, .bool false] 28 (0, 0)) := (by first | assumption | rfl | (simp (maxSteps := 1000000) (disch := first | assumption | omega | (simp only [World.size_alloc, size_setRow, dw_size]; done) | (simp only [World.size_alloc, size_setRow, dw_size] <;> omega) | (simp only [List.length_set, Array.length_toList, List.length_cons, List.length_nil, List.length_append, bts_size] <;> omega) | (simp only [List.all_cons, List.all_nil, Value.oneCell', Bool.and_self, Bool.and_true]; done)) [-Option.bind_some, hp_alloc_lt, hp_alloc_eq, hp_set_ne, wrap_small, ups_ap_cons, ups_ap_nil, upd_same, upd_other, env0_ap0, env0_aps, xt_a, xt_b, xt_c, nk_ptr, -splice_eq, -stR_cells, stR_box, stR_boxA, stR_row, stR_row0, stR_row1, stR_rowA, stR_rowA0, splice_rowv, splice_rowv0, splice_rowv1, splice_z, splice_n, splice_s, nth_rowv, nth_rowv0, nth_rowv1, rowv_len, X1, E1.blk, X1, E2.blk]; done))
    have o2' := o2
    obtain ⟨a2, c2, rfl, _, _⟩ := O.ver.1 o2
    cases ok
    · simp (maxSteps := 1000000) (disch := first | assumption | omega | (simp only [World.size_alloc, size_setRow, dw_size]; done) | (simp only [World.size_alloc, size_setRow, dw_size] <;> omega) | (simp only [List.length_set, Array.length_toList, List.length_cons, List.length_nil, List.length_append, bts_size] <;> omega) | (simp only [List.all_cons, List.all_nil, Value.oneCell', Bool.and_self, Bool.and_true]; done)) [-Option.bind_some, hp_alloc_lt, hp_alloc_eq, hp_set_ne, wrap_small, ups_ap_cons, ups_ap_nil, upd_same, upd_other, env0_ap0, env0_aps, xt_a, xt_b, xt_c, nk_ptr, xt_a, xt_b, X2, E1.blk, X1, E2.blk, X2]
      exact bad _ (by (repeat (first | exact Ext.rfl | assumption | (refine Ext.al ?_ _) | (refine Ext.dw ?_) | (refine Ext.set ?_ (by first | omega | (simp only [World.size_alloc, size_setRow, dw_size]; omega)) _) | (refine Ext.tr ?_ (by assumption))))) fun v' h1 h2 => by have := (hv2 v' h1 (hno v' h1 h2)).1; cases this
    · simp (maxSteps := 1000000) (disch := first | assumption | omega | (simp only [World.size_alloc, size_setRow, dw_size]; done) | (simp only [World.size_alloc, size_setRow, dw_size] <;> omega) | (simp only [List.length_set, Array.length_toList, List.length_cons, List.length_nil, List.length_append, bts_size] <;> omega) | (simp only [List.all_cons, List.all_nil, Value.oneCell', Bool.and_self, Bool.and_true]; done)) [-Option.bind_some, hp_alloc_lt, hp_alloc_eq, hp_set_ne, wrap_small, ups_ap_cons, ups_ap_nil, upd_same, upd_other, env0_ap0, env0_aps, xt_a, xt_b, xt_c, nk_ptr, -splice_eq, -stR_cells, stR_box, stR_boxA, stR_row, stR_row0, stR_row1, stR_rowA, stR_rowA0, splice_rowv, splice_rowv0, splice_rowv1, splice_z, splice_n, splice_s, nth_rowv, nth_rowv0, nth_rowv1, rowv_len, xt_a, xt_b, E1.blk, X1, E2.blk, X2]
      refine Ret.bind (spec_l2Ok_c (v := v) (o2'.d.ext (by (repeat (first | exact Ext.rfl | assumption | (refine Ext.al ?_ _) | (refine Ext.dw ?_) | (refine Ext.set ?_ (by first | omega | (simp only [World.size_alloc, size_setRow, dw_size]; omega)) _) | (refine Ext.tr ?_ (by assumption)))))).rVer) ?_
      rintro ⟨_, w3⟩ ⟨rfl, E3⟩
      have zE3 := E3.size
      try simp only [World.size_alloc, size_setRow, dw_size] at zE3
      try dsimp only at E3
      have X3 : hp w3 w.heap.size = some (.cells #[i64 0, i64 0, i64 0, .slice none 0 0, .string ⟨#[]⟩, .bool false] 28 (0, 0)) := (by first | assumption | rfl | (simp (maxSteps := 1000000) (disch := first | assumption | omega | (simp only [World.size_alloc, size_setRow, dw_size]; done) | (simp only [World.size_alloc, size_setRow, dw_size] <;> omega) | (simp only [List.length_set, Array.length_toList, List.length_cons, List.length_nil, List.length_append, bts_size] <;> omega) | (simp only [List.all_cons, List.all_nil, Value.oneCell', Bool.and_self, Bool.and_true]; done)) [-Option.bind_some, hp_alloc_lt, hp_alloc_eq, hp_set_ne, wrap_small, ups_ap_cons, ups_ap_nil, upd_same, upd_other, env0_ap0, env0_aps, xt_a, xt_b, xt_c, nk_ptr, -splice_eq, -stR_cells, stR_box, stR_boxA, stR_row, stR_row0, stR_row1, stR_rowA, stR_rowA0, splice_rowv, splice_rowv0, splice_rowv1, splice_z, splice_n, splice_s, nth_rowv, nth_rowv0, nth_rowv1, rowv_len, X2, E1.blk, X1, E2.blk, X2, E3.blk]; done))
      have Y3 : hp w3 w2.heap.size = some (.cells #[i64 v.key, i64 v.tag.t, i64 v.tag.p, .slice a2 v.past.length c2, .string v.text, .bool v.gone] 28 (0, 0)) := (by first | assumption | rfl | (simp (maxSteps := 1000000) (disch := first | assumption | omega | (simp only [World.size_alloc, size_setRow, dw_size]; done) | (simp only [World.size_alloc, size_setRow, dw_size] <;> omega) | (simp only [List.length_set, Array.length_toList, List.length_cons, List.length_nil, List.length_append, bts_size] <;> omega) | (simp only [List.all_cons, List.all_nil, Value.oneCell', Bool.and_self, Bool.and_true]; done)) [-Option.bind_some, hp_alloc_lt, hp_alloc_eq, hp_set_ne, wrap_small, ups_ap_cons, ups_ap_nil, upd_same, upd_other, env0_ap0, env0_aps, xt_a, xt_b, xt_c, nk_ptr, -splice_eq, -stR_cells, stR_box, stR_boxA, stR_row, stR_row0, stR_row1, stR_rowA, stR_rowA0, splice_rowv, splice_rowv0, splice_rowv1, splice_z, splice_n, splice_s, nth_rowv, nth_rowv0, nth_rowv1, rowv_len, E1.blk, X1, E2.blk, X2, E3.blk, X3]; done))
      cases hvo : verOk v
      · simp (maxSteps := 1000000) (disch := first | assumption | omega | (simp only [World.size_alloc, size_setRow, dw_size]; done) | (simp only [World.size_alloc, size_setRow, dw_size] <;> omega) | (simp only [List.length_set, Array.length_toList, List.length_cons, List.length_nil, List.length_append, bts_size] <;> omega) | (simp only [List.all_cons, List.all_nil, Value.oneCell', Bool.and_self, Bool.and_true]; done)) [-Option.bind_some, hp_alloc_lt, hp_alloc_eq, hp_set_ne, wrap_small, ups_ap_cons, ups_ap_nil, upd_same, upd_other, env0_ap0, env0_aps, xt_a, xt_b, xt_c, nk_ptr, X3, E1.blk, X1, E2.blk, X2, E3.blk, X3]
        exact bad _ (by (repeat (first | exact Ext.rfl | assumption | (refine Ext.al ?_ _) | (refine Ext.dw ?_) | (refine Ext.set ?_ (by first | omega | (simp only [World.size_alloc, size_setRow, dw_size]; omega)) _) | (refine Ext.tr ?_ (by assumption))))) fun v' h1 h2 => by
          have := (hv2 v' h1 (hno v' h1 h2)).2
          rw [← this, hvo] at h1
          cases h1
      · simp (maxSteps := 1000000) (disch := first | assumption | omega | (simp only [World.size_alloc, size_setRow, dw_size]; done) | (simp only [World.size_alloc, size_setRow, dw_size] <;> omega) | (simp only [List.length_set, Array.length_toList, List.length_cons, List.length_nil, List.length_append, bts_size] <;> omega) | (simp only [List.all_cons, List.all_nil, Value.oneCell', Bool.and_self, Bool.and_true]; done)) [-Option.bind_some, hp_alloc_lt, hp_alloc_eq, hp_set_ne, wrap_small, ups_ap_cons, ups_ap_nil, upd_same, upd_other, env0_ap0, env0_aps, xt_a, xt_b, xt_c, nk_ptr, -splice_eq, -stR_cells, stR_box, stR_boxA, stR_row, stR_row0, stR_row1, stR_rowA, stR_rowA0, splice_rowv, splice_rowv0, splice_rowv1, splice_z, splice_n, splice_s, nth_rowv, nth_rowv0, nth_rowv1, rowv_len, Y3, E1.blk, X1, E2.blk, X2, E3.blk, X3]
        refine Ret.bind (spec_l2Put_m hvo (o2'.d.ext (by (repeat (first | exact Ext.rfl | assumption | (refine Ext.al ?_ _) | (refine Ext.dw ?_) | (refine Ext.set ?_ (by first | omega | (simp only [World.size_alloc, size_setRow, dw_size]; omega)) _) | (refine Ext.tr ?_ (by assumption))))))) ?_
        rintro ⟨_, w4⟩ ⟨rfl, E4⟩
        have zE4 := E4.size
        try simp only [World.size_alloc, size_setRow, dw_size] at zE4
        try dsimp only at E4
        have X4 : hp w4 w.heap.size = some (.cells #[i64 0, i64 0, i64 0, .slice none 0 0, .string ⟨#[]⟩, .bool false] 28 (0, 0)) := (by first | assumption | rfl | (simp (maxSteps := 1000000) (disch := first | assumption | omega | (simp only [World.size_alloc, size_setRow, dw_size]; done) | (simp only [World.size_alloc, size_setRow, dw_size] <;> omega) | (simp only [List.length_set, Array.length_toList, List.length_cons, List.length_nil, List.length_append, bts_size] <;> omega) | (simp only [List.all_cons, List.all_nil, Value.oneCell', Bool.and_self, Bool.and_true]; done)) [-Option.bind_some, hp_alloc_lt, hp_alloc_eq, hp_set_ne, wrap_small, ups_ap_cons, ups_ap_nil, upd_same, upd_other, env0_ap0, env0_aps, xt_a, xt_b, xt_c, nk_ptr, -splice_eq, -stR_cells, stR_box, stR_boxA, stR_row, stR_row0, stR_row1, stR_rowA, stR_rowA0, splice_rowv, splice_rowv0, splice_rowv1, splice_z, splice_n, splice_s, nth_rowv, nth_rowv0, nth_rowv1, rowv_len, X3, E1.blk, X1, E2.blk, X2, E3.blk, X3, E4.blk]; done))
        have Y4 : hp w4 w2.heap.size = some (.cells #[i64 v.key, i64 v.tag.t, i64 v.tag.p, .slice a2 v.past.length c2, .string v.text, .bool v.gone] 28 (0, 0)) := (by first | assumption | rfl | (simp (maxSteps := 1000000) (disch := first | assumption | omega | (simp only [World.size_alloc, size_setRow, dw_size]; done) | (simp only [World.size_alloc, size_setRow, dw_size] <;> omega) | (simp only [List.length_set, Array.length_toList, List.length_cons, List.length_nil, List.length_append, bts_size] <;> omega) | (simp only [List.all_cons, List.all_nil, Value.oneCell', Bool.and_self, Bool.and_true]; done)) [-Option.bind_some, hp_alloc_lt, hp_alloc_eq, hp_set_ne, wrap_small, ups_ap_cons, ups_ap_nil, upd_same, upd_other, env0_ap0, env0_aps, xt_a, xt_b, xt_c, nk_ptr, -splice_eq, -stR_cells, stR_box, stR_boxA, stR_row, stR_row0, stR_row1, stR_rowA, stR_rowA0, splice_rowv, splice_rowv0, splice_rowv1, splice_z, splice_n, splice_s, nth_rowv, nth_rowv0, nth_rowv1, rowv_len, Y3, E1.blk, X1, E2.blk, X2, E3.blk, X3, E4.blk, X4]; done))
        have zE3 := E3.size
        have zE4 := E4.size
        simp only [size_setRow, World.size_alloc] at zE3
        by_cases hte : verL v = l
        · simp (maxSteps := 1000000) (disch := first | assumption | omega | (simp only [World.size_alloc, size_setRow, dw_size]; done) | (simp only [World.size_alloc, size_setRow, dw_size] <;> omega) | (simp only [List.length_set, Array.length_toList, List.length_cons, List.length_nil, List.length_append, bts_size] <;> omega) | (simp only [List.all_cons, List.all_nil, Value.oneCell', Bool.and_self, Bool.and_true]; done)) [-Option.bind_some, hp_alloc_lt, hp_alloc_eq, hp_set_ne, wrap_small, ups_ap_cons, ups_ap_nil, upd_same, upd_other, env0_ap0, env0_aps, xt_a, xt_b, xt_c, nk_ptr, bo_neq_str, bts_list, hte, X4, Y4, E1.blk, X1, E2.blk, X2, E3.blk, X3, E4.blk, X4]
          refine hQ _ ⟨v, true, [i64 v.key, i64 v.tag.t, i64 v.tag.p, .slice a2 v.past.length c2, .string v.text, .bool v.gone], rfl, ⟨fun _ => ⟨hvo, hte⟩, by simp⟩, (o2'.keep (fun b hb hl => ?_)).wide (fun b hb hl => by simp only [In, size_setRow] at hb hl ⊢; omega), by (repeat (first | exact Ext.rfl | assumption | (refine Ext.al ?_ _) | (refine Ext.dw ?_) | (refine Ext.set ?_ (by first | omega | (simp only [World.size_alloc, size_setRow, dw_size]; omega)) _) | (refine Ext.tr ?_ (by assumption))))⟩
          simp only [In] at hb
          rw [hp_set_ne (by omega)]
          exact (E4.blk (by omega)).trans ((E3.blk (by simp only [size_setRow, World.size_alloc]; omega)).trans (by simp (disch := omega) only [hp_set_ne, hp_alloc_lt]))
        · have hte' : (verL v == l) = false := beq_eq_false_iff_ne.2 hte
          simp (maxSteps := 1000000) (disch := first | assumption | omega | (simp only [World.size_alloc, size_setRow, dw_size]; done) | (simp only [World.size_alloc, size_setRow, dw_size] <;> omega) | (simp only [List.length_set, Array.length_toList, List.length_cons, List.length_nil, List.length_append, bts_size] <;> omega) | (simp only [List.all_cons, List.all_nil, Value.oneCell', Bool.and_self, Bool.and_true]; done)) [-Option.bind_some, hp_alloc_lt, hp_alloc_eq, hp_set_ne, wrap_small, ups_ap_cons, ups_ap_nil, upd_same, upd_other, env0_ap0, env0_aps, xt_a, xt_b, xt_c, nk_ptr, bo_neq_str, bts_list, hte', X4, E1.blk, X1, E2.blk, X2, E3.blk, X3, E4.blk, X4]
          exact bad _ (by (repeat (first | exact Ext.rfl | assumption | (refine Ext.al ?_ _) | (refine Ext.dw ?_) | (refine Ext.set ?_ (by first | omega | (simp only [World.size_alloc, size_setRow, dw_size]; omega)) _) | (refine Ext.tr ?_ (by assumption))))) fun v' h1 h2 => hte (by rw [(hv2 v' h1 (hno v' h1 h2)).2]; exact h2)
  · have h7' : (((cutN 32 7 l).length : Int) != 7) = true := by simpa using (by omega : ((cutN 32 7 l).length : Int) ≠ 7)
    simp (maxSteps := 1000000) (disch := first | assumption | omega | (simp only [World.size_alloc, size_setRow, dw_size]; done) | (simp only [World.size_alloc, size_setRow, dw_size] <;> omega) | (simp only [List.length_set, Array.length_toList, List.length_cons, List.length_nil, List.length_append, bts_size] <;> omega) | (simp only [List.all_cons, List.all_nil, Value.oneCell', Bool.and_self, Bool.and_true]; done)) [-Option.bind_some, hp_alloc_lt, hp_alloc_eq, hp_set_ne, wrap_small, ups_ap_cons, ups_ap_nil, upd_same, upd_other, env0_ap0, env0_aps, xt_a, xt_b, xt_c, nk_ptr, h7', X1, E1.blk, X1]
    exact bad _ (by (repeat (first | exact Ext.rfl | assumption | (refine Ext.al ?_ _) | (refine Ext.dw ?_) | (refine Ext.set ?_ (by first | omega | (simp only [World.size_alloc, size_setRow, dw_size]; omega)) _) | (refine Ext.tr ?_ (by assumption))))) fun v' h1 h2 => h7 (by
      obtain ⟨a1, a2, a3, a4, a5, a6, a7⟩ := ver_parts h1
      rw [← h2, show (7 : Nat) = 1 + 6 from rfl, verL_cut h1 1]
      simp [verWords, a6])
end Go.Proofs.YtgdacclgooaodaaGreatDoor.X
