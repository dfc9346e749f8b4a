/- A part of the proof: an evaluator of the model, its laws, and contracts of functions; no condition. -/
import Derived.Test.YtcafhepclddcaaaEvMr
import Derived.Test.YtcafhepclddcaaaH34
set_option linter.unusedVariables false
set_option linter.unusedSimpArgs false
set_option maxRecDepth 100000
set_option maxHeartbeats 1000000
namespace Go.Proofs.Ytcafhepclddcaaa.X
open Go Go.Ev Go.RowKit
open Classical in
/-- Is it concurrent with another one? -/
noncomputable def apartB (wr : Wr) (t u : Tag) : Bool := !((u.t == t.t) && (u.p == t.p)) && (!decide (Ev.Reach wr t u) && !decide (Ev.Reach wr u t))
noncomputable def apartN (wr : Wr) (t : Tag) (us : List Tag) (js : List Nat) : Nat := (js.filter fun j => apartB wr t (us.getD j ⟨0, 0⟩)).length
theorem apartN_all {wr : Wr} {t : Tag} {us : List Tag} {js : List Nat} {n : Nat} (h1 : js.Nodup) (h2 : ∀ j, j < n → j ∈ js) (h3 : ∀ j ∈ js, j < n) : apartN wr t us js = apartN wr t us (List.range n) := by
  unfold apartN
  refine Nat.le_antisymm (nodup_le _ _ (h1.filter _) fun x hx => ?_) (nodup_le _ _ (List.nodup_range.filter _) fun x hx => ?_)
  · simp only [List.mem_filter, List.mem_range] at *
    exact ⟨h3 x hx.1, hx.2⟩
  · simp only [List.mem_filter, List.mem_range] at *
    exact ⟨h2 x hx.1, hx.2⟩
theorem apartN_push (wr : Wr) (t : Tag) (us : List Tag) (js : List Nat) (j : Nat) : apartN wr t us (js ++ [j]) = apartN wr t us js + (if apartB wr t (us.getD j ⟨0, 0⟩) then 1 else 0) := by
  unfold apartN
  rw [List.filter_append, List.length_append]
  congr 1
  cases h : apartB wr t (us.getD j ⟨0, 0⟩) <;> simp only [List.filter_cons, List.filter_nil, h, if_true, if_false, Bool.false_eq_true, List.length_cons, List.length_nil]
theorem keys_rel {L : Lay (List Tag)} {w : World} {S : Nat → Prop} : ∀ {l : List (Tag × Value)} {wr : Wr}, All2 (fun p q => p.1 = q.1 ∧ ∃ a c, p.2 = .agg #[i64 q.2.1, i64 q.2.2.1, .slice a q.2.2.2.length c] ∧ D L S w [.slice a q.2.2.2.length c] q.2.2.2) l wr → l.map (·.1) = wr.map (·.1)
  | [], [], _ => rfl
  | p :: l, q :: wr, h => by rw [List.map_cons, List.map_cons, h.1.1, keys_rel h.2]
  | [], _ :: _, h => h.elim
  | _ :: _, [], h => h.elim
section
variable {S : Nat → Prop} {g m mo gt r : Nat} {cur : List Value} {b : Book} {t : Tag} {o : List Tag} {w0 : World} {l : List (Tag × Value)} {us : List Tag}
theorem apart_n (hb : Bk w0 S g m cur b) (hok : b.Ok) (Xm : hp w0 m = some (mapO l)) (hkeys : l.map (·.1) = us) (hus : ∀ u ∈ us, isW b.wr u = true) (htw : isW b.wr t = true) (Xt : hp w0 gt = some (.cells #[i64 t.t, i64 t.p] 42 (0, 0))) (Xo : hp w0 mo = some (outO o)) (ho : ∀ x, x ∈ o ↔ isW b.wr x = true ∧ Ev.Reach b.wr t x) (hr0 : w0.heap.size ≤ r) (hl80 : l.length ≤ 80) :
    ∀ (d : Nat) (e : Env) (w : World) (seen : Array Nat) (c : Nat), l.length ≤ seen.size + d → e 3 = pt gt 0 → e 5 = pt g 0 → e 9 = i64 (apartN b.wr t us seen.toList) → e 10 = .map (some mo) → e 37 = pt r 0 → hp w r = some (.mapIter (some m) l.length seen c) → l.length ≤ c → seen.toList.Nodup → (∀ j ∈ seen.toList, j < l.length) → Ext w0 w →
    Ret (impl_CauseApart_l1 e w) fun r => r.1 = i64 (apartN b.wr t us (List.range l.length)) ∧ Ext w0 r.2 := by
  have yt := hp_lt Xt
  have yo := hp_lt Xo
  have ym := hp_lt Xm
  intro d
  have step : ∀ (e : Env) (w : World) (seen : Array Nat) (c : Nat), e 3 = pt gt 0 → e 5 = pt g 0 → e 9 = i64 (apartN b.wr t us seen.toList) → e 10 = .map (some mo) → e 37 = pt r 0 → hp w r = some (.mapIter (some m) l.length seen c) → l.length ≤ c → seen.toList.Nodup → (∀ j ∈ seen.toList, j < l.length) → Ext w0 w →
      (∀ (j : Nat) (e : Env) (w : World), j < l.length → j ∉ seen.toList → e 3 = pt gt 0 → e 5 = pt g 0 → e 9 = i64 (apartN b.wr t us (seen.push j).toList) → e 10 = .map (some mo) → e 37 = pt r 0 → hp w r = some (.mapIter (some m) l.length (seen.push j) l.length) → Ext w0 w → Ret (impl_CauseApart_l1 e w) fun r => r.1 = i64 (apartN b.wr t us (List.range l.length)) ∧ Ext w0 r.2) →
      Ret (impl_CauseApart_l1 e w) fun r => r.1 = i64 (apartN b.wr t us (List.range l.length)) ∧ Ext w0 r.2 := by
    intro e w seen c e3 e5 e9 e10 e37 Xr hc hnd hsl E0 next
    have zE0 := E0.size
    try simp only [World.size_alloc, size_setRow, dw_size] at zE0
    have zE0' := E0.size
    have yr := hp_lt Xr
    have hcnt : apartN b.wr t us seen.toList ≤ 80 := by
      have h1 := List.length_filter_le (fun j => apartB b.wr t (us.getD j ⟨0, 0⟩)) seen.toList
      have h2 := nodup_le seen.toList (List.range l.length) hnd (fun x hx => List.mem_range.2 (hsl x hx))
      rw [List.length_range] at h2
      unfold apartN
      omega
    rw [impl_CauseApart_l1_eq]
    rcases nt_map (P := P) w 0 Xr ((E0.blk ym).trans Xm) hc with ⟨hall, hnt⟩ | ⟨j, p, wd, hj, hns, hwd, hnt⟩
    · refine Ret.post fun Q hQ => ?_
      simp (maxSteps := 1000000) (disch := first | assumption | omega | (simp only [World.size_alloc, size_setRow, dw_size]; done) | (simp only [World.size_alloc, size_setRow, dw_size] <;> omega) | (simp only [List.length_set, Array.length_toList, List.length_cons, List.length_nil, List.length_append, bts_size] <;> omega) | (simp only [List.all_cons, List.all_nil, Value.oneCell', Bool.and_self, Bool.and_true]; done)) [-Option.bind_some, hp_alloc_lt, hp_alloc_eq, hp_set_ne, wrap_small, ups_ap_cons, ups_ap_nil, upd_same, upd_other, env0_ap0, env0_aps, xt_a, xt_b, xt_c, -splice_eq, -stR_cells, stR_box, stR_boxA, stR_row, stR_row0, stR_row1, stR_rowA, stR_rowA0, splice_rowv, splice_rowv0, splice_rowv1, splice_z, splice_n, splice_s, nth_rowv, nth_rowv0, nth_rowv1, rowv_len, e37, hnt, e9, e3, e5, e9, e10, e37, E0.blk]
      exact hQ _ ⟨by rw [apartN_all hnd hall hsl], E0⟩
    · have hjl : j < l.length := (List.getElem?_eq_some_iff.1 hj).1
      have hpu : us.getD j ⟨0, 0⟩ = p.1 := by
        rw [← hkeys, List.getD_eq_getElem?_getD, List.getElem?_map, hj]
        rfl
      have hpw : isW b.wr p.1 = true := hus _ (by rw [← hkeys]; exact List.mem_map.2 ⟨p, List.mem_of_getElem? hj, rfl⟩)
      have Ed : Ext w wd := by
        rcases hwd with rfl | rfl
        · exact Ext.rfl
        · exact drew_ext w
      have hsz : wd.heap.size = w.heap.size := by
        rcases hwd with rfl | rfl <;> rfl
      have En : Ext w0 (setM wd r (.mapIter (some m) l.length (seen.push j) l.length)) := (E0.tr Ed).setM hr0 _
      have Xr' : hp (setM wd r (.mapIter (some m) l.length (seen.push j) l.length)) r = some (.mapIter (some m) l.length (seen.push j) l.length) := hp_setM_eq (by omega)
      generalize setM wd r (.mapIter (some m) l.length (seen.push j) l.length) = wn at *
      have yr' := hp_lt Xr'
      have zEn := En.size
      have hen := en_map (P := P) wn Xr' ((En.blk ym).trans Xm) hj
      have Xt' := (En.blk yt).trans Xt
      have Xo' : hp wn mo = some (mapO (o.map fun u => (u, Value.bool true))) := (En.blk yo).trans Xo
      have hmf := mfind_out o p.1
      have hpush : apartN b.wr t us (seen.push j).toList = apartN b.wr t us seen.toList + (if apartB b.wr t p.1 then 1 else 0) := by
        rw [Array.toList_push, apartN_push, hpu]
      have nx := fun (e : Env) (w' : World) => next j e w' hjl hns
      rw [hpush] at nx
      cases heq : ((p.1.t == t.t) && (p.1.p == t.p))
      · by_cases hin : p.1 ∈ o
        · rw [if_pos hin] at hmf
          have hap : apartB b.wr t p.1 = false := by simp [apartB, ((ho p.1).1 hin).2]
          rw [hap] at nx
          simp (maxSteps := 1000000) (disch := first | assumption | omega | (simp only [World.size_alloc, size_setRow, dw_size]; done) | (simp only [World.size_alloc, size_setRow, dw_size] <;> omega) | (simp only [List.length_set, Array.length_toList, List.length_cons, List.length_nil, List.length_append, bts_size] <;> omega) | (simp only [List.all_cons, List.all_nil, Value.oneCell', Bool.and_self, Bool.and_true]; done)) [-Option.bind_some, hp_alloc_lt, hp_alloc_eq, hp_set_ne, wrap_small, ups_ap_cons, ups_ap_nil, upd_same, upd_other, env0_ap0, env0_aps, xt_a, xt_b, xt_c, -splice_eq, -stR_cells, stR_box, stR_boxA, stR_row, stR_row0, stR_row1, stR_rowA, stR_rowA0, splice_rowv, splice_rowv0, splice_rowv1, splice_z, splice_n, splice_s, nth_rowv, nth_rowv0, nth_rowv1, rowv_len, e3, e5, e9, e10, e37, hnt, hen, Xt', Xo', heq, lk_lkR1 tagB, lkR1_map, hmf, e3, e5, e9, e10, e37, E0.blk]
          exact nx _ _ (by exact e3) (by exact e5) (by exact e9) (by exact e10) (by exact e37) (by first | assumption | rfl | (simp (maxSteps := 1000000) (disch := first | assumption | omega | (simp only [World.size_alloc, size_setRow, dw_size]; done) | (simp only [World.size_alloc, size_setRow, dw_size] <;> omega) | (simp only [List.length_set, Array.length_toList, List.length_cons, List.length_nil, List.length_append, bts_size] <;> omega) | (simp only [List.all_cons, List.all_nil, Value.oneCell', Bool.and_self, Bool.and_true]; done)) [-Option.bind_some, hp_alloc_lt, hp_alloc_eq, hp_set_ne, wrap_small, ups_ap_cons, ups_ap_nil, upd_same, upd_other, env0_ap0, env0_aps, xt_a, xt_b, xt_c, -splice_eq, -stR_cells, stR_box, stR_boxA, stR_row, stR_row0, stR_row1, stR_rowA, stR_rowA0, splice_rowv, splice_rowv0, splice_rowv1, splice_z, splice_n, splice_s, nth_rowv, nth_rowv0, nth_rowv1, rowv_len, Xr', e3, e5, e9, e10, e37, E0.blk]; done)) (by (repeat (first | exact Ext.rfl | assumption | (refine Ext.al ?_ _) | (refine Ext.dw ?_) | (refine Ext.set ?_ (by first | omega | (simp only [World.size_alloc, size_setRow, dw_size]; omega)) _) | (refine Ext.tr ?_ (by assumption)))))
        · rw [if_neg hin] at hmf
          have hnr : ¬ Ev.Reach b.wr t p.1 := fun h => hin ((ho p.1).2 ⟨hpw, h⟩)
          simp (maxSteps := 1000000) (disch := first | assumption | omega | (simp only [World.size_alloc, size_setRow, dw_size]; done) | (simp only [World.size_alloc, size_setRow, dw_size] <;> omega) | (simp only [List.length_set, Array.length_toList, List.length_cons, List.length_nil, List.length_append, bts_size] <;> omega) | (simp only [List.all_cons, List.all_nil, Value.oneCell', Bool.and_self, Bool.and_true]; done)) [-Option.bind_some, hp_alloc_lt, hp_alloc_eq, hp_set_ne, wrap_small, ups_ap_cons, ups_ap_nil, upd_same, upd_other, env0_ap0, env0_aps, xt_a, xt_b, xt_c, -splice_eq, -stR_cells, stR_box, stR_boxA, stR_row, stR_row0, stR_row1, stR_rowA, stR_rowA0, splice_rowv, splice_rowv0, splice_rowv1, splice_z, splice_n, splice_s, nth_rowv, nth_rowv0, nth_rowv1, rowv_len, e3, e5, e9, e10, e37, hnt, hen, Xt', Xo', heq, lk_lkR1 tagB, lkR1_map, hmf, e3, e5, e9, e10, e37, E0.blk]
          refine Ret.bind (impl_book_before_m (t := p.1) ((hb.keep En).keep (by (repeat (first | exact Ext.rfl | assumption | (refine Ext.al ?_ _) | (refine Ext.dw ?_) | (refine Ext.set ?_ (by first | omega | (simp only [World.size_alloc, size_setRow, dw_size]; omega)) _) | (refine Ext.tr ?_ (by assumption)))))) hok) ?_
          rintro ⟨_, w3⟩ ⟨mo2, o2, rfl, h3, h4, E3⟩
          have zE3 := E3.size
          try simp only [World.size_alloc, size_setRow, dw_size] at zE3
          dsimp only at h3 E3
          have zE3 := E3.size
          simp only [World.size_alloc, size_setRow, dw_size] at zE3
          have F3 : Ext wn w3 := by (repeat (first | exact Ext.rfl | assumption | (refine Ext.al ?_ _) | (refine Ext.dw ?_) | (refine Ext.set ?_ (by first | omega | (simp only [World.size_alloc, size_setRow, dw_size]; omega)) _) | (refine Ext.tr ?_ (by assumption))))
          have Xt3 := (F3.blk (b := gt) (by omega)).trans Xt'
          have Xr3 := (F3.blk yr').trans Xr'
          have Xo3 : hp w3 mo2 = some (mapO (o2.map fun u => (u, Value.bool true))) := h3
          have hmf2 := mfind_out o2 t
          by_cases hr2 : Ev.Reach b.wr p.1 t
          · rw [if_pos ((h4 t).2 ⟨htw, hr2⟩)] at hmf2
            have hap : apartB b.wr t p.1 = false := by simp [apartB, hr2]
            rw [hap] at nx
            simp (maxSteps := 1000000) (disch := first | assumption | omega | (simp only [World.size_alloc, size_setRow, dw_size]; done) | (simp only [World.size_alloc, size_setRow, dw_size] <;> omega) | (simp only [List.length_set, Array.length_toList, List.length_cons, List.length_nil, List.length_append, bts_size] <;> omega) | (simp only [List.all_cons, List.all_nil, Value.oneCell', Bool.and_self, Bool.and_true]; done)) [-Option.bind_some, hp_alloc_lt, hp_alloc_eq, hp_set_ne, wrap_small, ups_ap_cons, ups_ap_nil, upd_same, upd_other, env0_ap0, env0_aps, xt_a, xt_b, xt_c, -splice_eq, -stR_cells, stR_box, stR_boxA, stR_row, stR_row0, stR_row1, stR_rowA, stR_rowA0, splice_rowv, splice_rowv0, splice_rowv1, splice_z, splice_n, splice_s, nth_rowv, nth_rowv0, nth_rowv1, rowv_len, e3, e5, e9, e10, e37, Xt3, Xo3, lk_lkR1 tagB, lkR1_map, hmf2, e3, e5, e9, e10, e37, E0.blk, E3.blk]
            exact nx _ _ (by exact e3) (by exact e5) (by exact e9) (by exact e10) (by exact e37) Xr3 (En.tr F3)
          · rw [if_neg (fun h => hr2 ((h4 t).1 h).2)] at hmf2
            have hap : apartB b.wr t p.1 = true := by simp [apartB, hr2, hnr, heq]
            rw [hap] at nx
            simp (maxSteps := 1000000) (disch := first | assumption | omega | (simp only [World.size_alloc, size_setRow, dw_size]; done) | (simp only [World.size_alloc, size_setRow, dw_size] <;> omega) | (simp only [List.length_set, Array.length_toList, List.length_cons, List.length_nil, List.length_append, bts_size] <;> omega) | (simp only [List.all_cons, List.all_nil, Value.oneCell', Bool.and_self, Bool.and_true]; done)) [-Option.bind_some, hp_alloc_lt, hp_alloc_eq, hp_set_ne, wrap_small, ups_ap_cons, ups_ap_nil, upd_same, upd_other, env0_ap0, env0_aps, xt_a, xt_b, xt_c, -splice_eq, -stR_cells, stR_box, stR_boxA, stR_row, stR_row0, stR_row1, stR_rowA, stR_rowA0, splice_rowv, splice_rowv0, splice_rowv1, splice_z, splice_n, splice_s, nth_rowv, nth_rowv0, nth_rowv1, rowv_len, e3, e5, e9, e10, e37, Xt3, Xo3, lk_lkR1 tagB, lkR1_map, hmf2, e3, e5, e9, e10, e37, E0.blk, E3.blk]
            exact nx _ _ (by exact e3) (by exact e5) (by exact congrArg i64 (by simp)) (by exact e10) (by exact e37) Xr3 (En.tr F3)
      · have hap : apartB b.wr t p.1 = false := by simp [apartB, heq]
        rw [hap] at nx
        simp (maxSteps := 1000000) (disch := first | assumption | omega | (simp only [World.size_alloc, size_setRow, dw_size]; done) | (simp only [World.size_alloc, size_setRow, dw_size] <;> omega) | (simp only [List.length_set, Array.length_toList, List.length_cons, List.length_nil, List.length_append, bts_size] <;> omega) | (simp only [List.all_cons, List.all_nil, Value.oneCell', Bool.and_self, Bool.and_true]; done)) [-Option.bind_some, hp_alloc_lt, hp_alloc_eq, hp_set_ne, wrap_small, ups_ap_cons, ups_ap_nil, upd_same, upd_other, env0_ap0, env0_aps, xt_a, xt_b, xt_c, -splice_eq, -stR_cells, stR_box, stR_boxA, stR_row, stR_row0, stR_row1, stR_rowA, stR_rowA0, splice_rowv, splice_rowv0, splice_rowv1, splice_z, splice_n, splice_s, nth_rowv, nth_rowv0, nth_rowv1, rowv_len, e3, e5, e9, e10, e37, hnt, hen, Xt', Xo', heq, e3, e5, e9, e10, e37, E0.blk]
        exact nx _ _ (by exact e3) (by exact e5) (by exact e9) (by exact e10) (by exact e37) (by first | assumption | rfl | (simp (maxSteps := 1000000) (disch := first | assumption | omega | (simp only [World.size_alloc, size_setRow, dw_size]; done) | (simp only [World.size_alloc, size_setRow, dw_size] <;> omega) | (simp only [List.length_set, Array.length_toList, List.length_cons, List.length_nil, List.length_append, bts_size] <;> omega) | (simp only [List.all_cons, List.all_nil, Value.oneCell', Bool.and_self, Bool.and_true]; done)) [-Option.bind_some, hp_alloc_lt, hp_alloc_eq, hp_set_ne, wrap_small, ups_ap_cons, ups_ap_nil, upd_same, upd_other, env0_ap0, env0_aps, xt_a, xt_b, xt_c, -splice_eq, -stR_cells, stR_box, stR_boxA, stR_row, stR_row0, stR_row1, stR_rowA, stR_rowA0, splice_rowv, splice_rowv0, splice_rowv1, splice_z, splice_n, splice_s, nth_rowv, nth_rowv0, nth_rowv1, rowv_len, Xr', e3, e5, e9, e10, e37, E0.blk]; done)) (by (repeat (first | exact Ext.rfl | assumption | (refine Ext.al ?_ _) | (refine Ext.dw ?_) | (refine Ext.set ?_ (by first | omega | (simp only [World.size_alloc, size_setRow, dw_size]; omega)) _) | (refine Ext.tr ?_ (by assumption)))))
  induction d with
  | zero =>
    intro e w seen c hd e3 e5 e9 e10 e37 Xr hc hnd hsl E0
    have zE0 := E0.size
    try simp only [World.size_alloc, size_setRow, dw_size] at zE0
    refine step e w seen c e3 e5 e9 e10 e37 Xr hc hnd hsl E0 (fun j e' w' hj hns => ?_)
    have := nodup_le (seen.toList ++ [j]) (List.range l.length) (by
      rw [List.nodup_append]
      refine ⟨hnd, by simp, fun x hx y hy e => ?_⟩
      simp only [List.mem_singleton] at hy
      subst hy e
      exact absurd hx hns) (fun x hx => by
      rcases List.mem_append.1 hx with hx | hx
      · exact List.mem_range.2 (hsl x hx)
      · simp only [List.mem_singleton] at hx
        subst hx
        exact List.mem_range.2 hj)
    simp only [List.length_append, List.length_singleton, List.length_range, Array.length_toList] at this
    omega
  | succ d ih =>
    intro e w seen c hd e3 e5 e9 e10 e37 Xr hc hnd hsl E0
    have zE0 := E0.size
    try simp only [World.size_alloc, size_setRow, dw_size] at zE0
    refine step e w seen c e3 e5 e9 e10 e37 Xr hc hnd hsl E0 (fun j e' w' hj hns e3 e5 e9 e10 e37 Xr' E' => ?_)
    refine ih e' w' (seen.push j) l.length (by simp; omega) e3 e5 e9 e10 e37 Xr' (Nat.le_refl _) ?_ ?_ E'
    · rw [Array.toList_push, List.nodup_append]
      refine ⟨hnd, by simp, fun x hx y hy e => ?_⟩
      simp only [List.mem_singleton] at hy
      subst hy e
      exact hns hx
    · intro x hx
      rw [Array.toList_push] at hx
      rcases List.mem_append.1 hx with hx | hx
      · exact hsl x hx
      · simp only [List.mem_singleton] at hx
        subst hx
        exact hj
end
noncomputable def apartP (xs : List Done) (t : Tag) : Int := if okP xs && decide (t ∈ wtags xs) then (apartN (hgo book0 xs).1.wr t (wtags xs) (List.range (wtags xs).length) : Int) else -1
theorem impl_CauseApart_m {a : Option Addr} {n c : Nat} {Sx : Nat → Prop} {xs : List Done} {t : Tag} {w : World} (ha : D tDones Sx w [.slice a n c] xs) :
    Ret (EV P 36 #[.slice a n c, .agg #[i64 t.t, i64 t.p]] w) fun r => r.1 = i64 (apartP xs t) ∧ Ext w r.2 := by
  refine Ret.post fun Q hQ => ?_
  refine Ret.enter plain mixed (impl_CauseApart_fn _ _ _) (by kernel_rfl) (n := 2) (by kernel_rfl) rfl ?_
  simp (maxSteps := 1000000) (disch := first | assumption | omega | (simp only [World.size_alloc, size_setRow, dw_size]; done) | (simp only [World.size_alloc, size_setRow, dw_size] <;> omega) | (simp only [List.length_set, Array.length_toList, List.length_cons, List.length_nil, List.length_append, bts_size] <;> omega) | (simp only [List.all_cons, List.all_nil, Value.oneCell', Bool.and_self, Bool.and_true]; done)) [-Option.bind_some, hp_alloc_lt, hp_alloc_eq, hp_set_ne, wrap_small, ups_ap_cons, ups_ap_nil, upd_same, upd_other, env0_ap0, env0_aps, xt_a, xt_b, xt_c, -splice_eq, -stR_cells, stR_box, stR_boxA, stR_row, stR_row0, stR_row1, stR_rowA, stR_rowA0, splice_rowv, splice_rowv0, splice_rowv1, splice_z, splice_n, splice_s, nth_rowv, nth_rowv0, nth_rowv1, rowv_len]
  refine Ret.bind (impl_checked_m (ha.ext (by (repeat (first | exact Ext.rfl | assumption | (refine Ext.al ?_ _) | (refine Ext.dw ?_) | (refine Ext.set ?_ (by first | omega | (simp only [World.size_alloc, size_setRow, dw_size]; omega)) _) | (refine Ext.tr ?_ (by assumption))))))) ?_
  rintro ⟨_, w1⟩ ⟨E1, ⟨h, p, rfl⟩ | ⟨h, hf, hok, g, S, m, cur, rfl, yg, ym, hS, hb⟩⟩
  have zE1 := E1.size
  try simp only [World.size_alloc, size_setRow, dw_size] at zE1
  · rw [show apartP xs t = -1 by simp [apartP, h]] at hQ
    dsimp only at E1
    simp (maxSteps := 1000000) (disch := first | assumption | omega | (simp only [World.size_alloc, size_setRow, dw_size]; done) | (simp only [World.size_alloc, size_setRow, dw_size] <;> omega) | (simp only [List.length_set, Array.length_toList, List.length_cons, List.length_nil, List.length_append, bts_size] <;> omega) | (simp only [List.all_cons, List.all_nil, Value.oneCell', Bool.and_self, Bool.and_true]; done)) [-Option.bind_some, hp_alloc_lt, hp_alloc_eq, hp_set_ne, wrap_small, ups_ap_cons, ups_ap_nil, upd_same, upd_other, env0_ap0, env0_aps, xt_a, xt_b, xt_c, -splice_eq, -stR_cells, stR_box, stR_boxA, stR_row, stR_row0, stR_row1, stR_rowA, stR_rowA0, splice_rowv, splice_rowv0, splice_rowv1, splice_z, splice_n, splice_s, nth_rowv, nth_rowv0, nth_rowv1, rowv_len, E1.blk]
    exact hQ _ ⟨rfl, by (repeat (first | exact Ext.rfl | assumption | (refine Ext.al ?_ _) | (refine Ext.dw ?_) | (refine Ext.set ?_ (by first | omega | (simp only [World.size_alloc, size_setRow, dw_size]; omega)) _) | (refine Ext.tr ?_ (by assumption))))⟩
  · dsimp only at E1 hb
    obtain ⟨hwr, hl, hiw, hpos, hw80, hp4⟩ := ok_facts h
    have zE1' := E1.size
    simp only [World.size_alloc] at zE1' yg
    have X0 : hp w1 w.heap.size = some (.cells #[i64 t.t, i64 t.p] 42 (0, 0)) := (E1.blk (by simp)).trans (by first | assumption | rfl | (simp (maxSteps := 1000000) (disch := first | assumption | omega | (simp only [World.size_alloc, size_setRow, dw_size]; done) | (simp only [World.size_alloc, size_setRow, dw_size] <;> omega) | (simp only [List.length_set, Array.length_toList, List.length_cons, List.length_nil, List.length_append, bts_size] <;> omega) | (simp only [List.all_cons, List.all_nil, Value.oneCell', Bool.and_self, Bool.and_true]; done)) [-Option.bind_some, hp_alloc_lt, hp_alloc_eq, hp_set_ne, wrap_small, ups_ap_cons, ups_ap_nil, upd_same, upd_other, env0_ap0, env0_aps, xt_a, xt_b, xt_c, -splice_eq, -stR_cells, stR_box, stR_boxA, stR_row, stR_row0, stR_row1, stR_rowA, stR_rowA0, splice_rowv, splice_rowv0, splice_rowv1, splice_z, splice_n, splice_s, nth_rowv, nth_rowv0, nth_rowv1, rowv_len, E1.blk]; done))
    have hb' := hb
    obtain ⟨⟨X2, hc4, hvs⟩, hc5, hc, ⟨l, Xm, hrel⟩, hgm, hgl, hml, hSg, hSm, hSl⟩ := hb
    have q4 : nth cur 4 = some (.map (some m)) := by rw [← nth_eq]; exact hc
    have hkeys : l.map (·.1) = wtags xs := by rw [keys_rel hrel, hwr, swr_tags _ _ hl, wtags_eq]
    have hll : l.length = (wtags xs).length := by rw [← hkeys, List.length_map]
    obtain ⟨sv, ms, mt⟩ : ∃ sv : Int × Int × Option Addr × Nat × Nat, (mfind l t).getD (.agg #[i64 0, i64 0, .slice none 0 0]) = .agg #[i64 sv.1, i64 sv.2.1, .slice sv.2.2.1 sv.2.2.2.1 sv.2.2.2.2] ∧ (mfind l t).isSome = isW (hgo book0 xs).1.wr t := by
      rcases mfind_rel hrel t with ⟨m1, m2⟩ | ⟨s, k, past, a2, c2, m1, m2, D2⟩
      · exact ⟨(0, 0, none, 0, 0), by rw [m1]; rfl, by rw [m1]; unfold isW; rw [m2]; rfl⟩
      · exact ⟨(s, k, a2, past.length, c2), by rw [m1]; rfl, by rw [m1]; unfold isW; rw [m2]; rfl⟩
    have hwlen : (hgo book0 xs).1.wr.length = l.length := by
      have := congrArg List.length (keys_rel hrel)
      simpa using this.symm
    cases h1 : isW (hgo book0 xs).1.wr t
    · rw [h1] at mt
      rw [show apartP xs t = -1 by rw [apartP, ← hiw, h1]; simp] at hQ
      simp (maxSteps := 1000000) (disch := first | assumption | omega | (simp only [World.size_alloc, size_setRow, dw_size]; done) | (simp only [World.size_alloc, size_setRow, dw_size] <;> omega) | (simp only [List.length_set, Array.length_toList, List.length_cons, List.length_nil, List.length_append, bts_size] <;> omega) | (simp only [List.all_cons, List.all_nil, Value.oneCell', Bool.and_self, Bool.and_true]; done)) [-Option.bind_some, hp_alloc_lt, hp_alloc_eq, hp_set_ne, wrap_small, ups_ap_cons, ups_ap_nil, upd_same, upd_other, env0_ap0, env0_aps, xt_a, xt_b, xt_c, -splice_eq, -stR_cells, stR_box, stR_boxA, stR_row, stR_row0, stR_row1, stR_rowA, stR_rowA0, splice_rowv, splice_rowv0, splice_rowv1, splice_z, splice_n, splice_s, nth_rowv, nth_rowv0, nth_rowv1, rowv_len, X0, X2, Xm, nk_ptr, q4, lk_lkR tagM, lkR_map, ms, mt, E1.blk, X0, X2]
      exact hQ _ ⟨rfl, by (repeat (first | exact Ext.rfl | assumption | (refine Ext.al ?_ _) | (refine Ext.dw ?_) | (refine Ext.set ?_ (by first | omega | (simp only [World.size_alloc, size_setRow, dw_size]; omega)) _) | (refine Ext.tr ?_ (by assumption))))⟩
    · rw [h1] at mt
      rw [show apartP xs t = (apartN (hgo book0 xs).1.wr t (wtags xs) (List.range l.length) : Int) by rw [apartP, ← hiw, h1, h, hll]; rfl] at hQ
      simp (maxSteps := 1000000) (disch := first | assumption | omega | (simp only [World.size_alloc, size_setRow, dw_size]; done) | (simp only [World.size_alloc, size_setRow, dw_size] <;> omega) | (simp only [List.length_set, Array.length_toList, List.length_cons, List.length_nil, List.length_append, bts_size] <;> omega) | (simp only [List.all_cons, List.all_nil, Value.oneCell', Bool.and_self, Bool.and_true]; done)) [-Option.bind_some, hp_alloc_lt, hp_alloc_eq, hp_set_ne, wrap_small, ups_ap_cons, ups_ap_nil, upd_same, upd_other, env0_ap0, env0_aps, xt_a, xt_b, xt_c, -splice_eq, -stR_cells, stR_box, stR_boxA, stR_row, stR_row0, stR_row1, stR_rowA, stR_rowA0, splice_rowv, splice_rowv0, splice_rowv1, splice_z, splice_n, splice_s, nth_rowv, nth_rowv0, nth_rowv1, rowv_len, X0, X2, Xm, nk_ptr, q4, lk_lkR tagM, lkR_map, ms, mt, E1.blk, X0, X2]
      refine Ret.bind (impl_book_before_m (t := t) (hb'.keep (by (repeat (first | exact Ext.rfl | assumption | (refine Ext.al ?_ _) | (refine Ext.dw ?_) | (refine Ext.set ?_ (by first | omega | (simp only [World.size_alloc, size_setRow, dw_size]; omega)) _) | (refine Ext.tr ?_ (by assumption)))))) hok) ?_
      rintro ⟨_, w2⟩ ⟨mo, o, rfl, h3, h4, E3⟩
      have zE3 := E3.size
      try simp only [World.size_alloc, size_setRow, dw_size] at zE3
      dsimp only at h3 E3
      have zE3 := E3.size
      simp only [World.size_alloc, size_setRow, dw_size] at zE3
      have F3 : Ext w1 w2 := by (repeat (first | exact Ext.rfl | assumption | (refine Ext.al ?_ _) | (refine Ext.dw ?_) | (refine Ext.set ?_ (by first | omega | (simp only [World.size_alloc, size_setRow, dw_size]; omega)) _) | (refine Ext.tr ?_ (by assumption))))
      have X2' := (F3.blk hgl).trans X2
      have Xm' := (F3.blk hml).trans Xm
      have X0' := (F3.blk (b := w.heap.size) (by omega)).trans X0
      have hrg := rg_map (P := P) Try.underlying79 w2 Xm'
      simp (maxSteps := 1000000) (disch := first | assumption | omega | (simp only [World.size_alloc, size_setRow, dw_size]; done) | (simp only [World.size_alloc, size_setRow, dw_size] <;> omega) | (simp only [List.length_set, Array.length_toList, List.length_cons, List.length_nil, List.length_append, bts_size] <;> omega) | (simp only [List.all_cons, List.all_nil, Value.oneCell', Bool.and_self, Bool.and_true]; done)) [-Option.bind_some, hp_alloc_lt, hp_alloc_eq, hp_set_ne, wrap_small, ups_ap_cons, ups_ap_nil, upd_same, upd_other, env0_ap0, env0_aps, xt_a, xt_b, xt_c, -splice_eq, -stR_cells, stR_box, stR_boxA, stR_row, stR_row0, stR_row1, stR_rowA, stR_rowA0, splice_rowv, splice_rowv0, splice_rowv1, splice_z, splice_n, splice_s, nth_rowv, nth_rowv0, nth_rowv1, rowv_len, X2', nk_ptr, q4, hrg, E1.blk, X0, X2, E3.blk]
      have Er : Ext w2 (w2.alloc (.mapIter (some m) l.length #[] l.length)) := by (repeat (first | exact Ext.rfl | assumption | (refine Ext.al ?_ _) | (refine Ext.dw ?_) | (refine Ext.set ?_ (by first | omega | (simp only [World.size_alloc, size_setRow, dw_size]; omega)) _) | (refine Ext.tr ?_ (by assumption))))
      refine Ret.mono (apart_n (w0 := w2) (gt := w.heap.size) (mo := mo) (r := w2.heap.size) (g := g) (b := (hgo book0 xs).1) (us := wtags xs) (hb'.keep F3) hok Xm' hkeys (fun u hu => by rw [hiw]; simpa using hu) h1 X0' h3 h4 (Nat.le_refl _) (by omega) l.length _ _ #[] l.length (by simp) (by exact rfl) (by exact rfl) (by exact rfl) (by exact rfl) (by exact rfl) (hp_alloc_eq rfl) (Nat.le_refl _) (by simp) (by simp) Er) ?_
      rintro r ⟨k1, k2⟩
      exact hQ _ ⟨k1, (by (repeat (first | exact Ext.rfl | assumption | (refine Ext.al ?_ _) | (refine Ext.dw ?_) | (refine Ext.set ?_ (by first | omega | (simp only [World.size_alloc, size_setRow, dw_size]; omega)) _) | (refine Ext.tr ?_ (by assumption)))) : Ext w w2).tr k2⟩
end Go.Proofs.Ytcafhepclddcaaa.X
set_option linter.unusedVariables false
set_option linter.unusedSimpArgs false
set_option maxRecDepth 100000
set_option maxHeartbeats 1000000
namespace Go.Proofs.Ytcafhepclddcaaa.X
open Go Go.Ev Go.RowKit
theorem apartN_range (wr : Wr) (t : Tag) (us : List Tag) (k : Nat) : apartN wr t us (List.range (k + 1)) = apartN wr t us (List.range k) + (if apartB wr t (us.getD k ⟨0, 0⟩) then 1 else 0) := by
  rw [List.range_succ, apartN_push]
theorem apartN_le (wr : Wr) (t : Tag) (us : List Tag) (k : Nat) : apartN wr t us (List.range k) ≤ k := by
  have := List.length_filter_le (fun j => apartB wr t (us.getD j ⟨0, 0⟩)) (List.range k)
  rw [List.length_range] at this
  exact this
open Classical in
theorem spec_CauseApart_n {a : Option Addr} {c g3 : Nat} {Sx S5 : Nat → Prop} {xs : List Done} {t : Tag} {w0 : World} {a5 : Option Addr} {c5 : Nat} (ha : D tDones Sx w0 [.slice a xs.length c] xs) (hc : xs.length ≤ c) (hok : okP xs = true) (h5 : D tTags S5 w0 [.slice a5 (wtags xs).length c5] (wtags xs)) (X3 : hp w0 g3 = some (.cells #[i64 t.t, i64 t.p] 42 (0, 0))) (hl80 : (wtags xs).length ≤ 80) :
    ∀ (d k : Nat) (e : Env) (w : World), k + d = (wtags xs).length → e 0 = .slice a xs.length c → e 3 = pt g3 0 → e 5 = .slice a5 (wtags xs).length c5 → e 6 = i64 (apartN (hgo book0 xs).1.wr t (wtags xs) (List.range k)) → e 7 = i64 k → Ext w0 w →
    Ret (spec_CauseApart_l1 e w) fun r => r.1 = i64 (apartN (hgo book0 xs).1.wr t (wtags xs) (List.range (wtags xs).length)) ∧ Ext w0 r.2 := by
  have y3 := hp_lt X3
  intro d
  induction d with
  | zero =>
    intro k e w hd e0 e3 e5 e6 e7 E0
    have zE0 := E0.size
    try simp only [World.size_alloc, size_setRow, dw_size] at zE0
    rw [spec_CauseApart_l1_eq]
    obtain rfl : k = (wtags xs).length := by omega
    refine Ret.post fun Q hQ => ?_
    simp (maxSteps := 1000000) (disch := first | assumption | omega | (simp only [World.size_alloc, size_setRow, dw_size]; done) | (simp only [World.size_alloc, size_setRow, dw_size] <;> omega) | (simp only [List.length_set, Array.length_toList, List.length_cons, List.length_nil, List.length_append, bts_size] <;> omega) | (simp only [List.all_cons, List.all_nil, Value.oneCell', Bool.and_self, Bool.and_true]; done)) [-Option.bind_some, hp_alloc_lt, hp_alloc_eq, hp_set_ne, wrap_small, ups_ap_cons, ups_ap_nil, upd_same, upd_other, env0_ap0, env0_aps, xt_a, xt_b, xt_c, -splice_eq, -stR_cells, stR_box, stR_boxA, stR_row, stR_row0, stR_row1, stR_rowA, stR_rowA0, splice_rowv, splice_rowv0, splice_rowv1, splice_z, splice_n, splice_s, nth_rowv, nth_rowv0, nth_rowv1, rowv_len, e0, e3, e5, e6, e7, e0, e3, e5, e6, e7, E0.blk]
    exact hQ _ ⟨rfl, E0⟩
  | succ d ih =>
    intro k e w hd e0 e3 e5 e6 e7 E0
    have zE0 := E0.size
    try simp only [World.size_alloc, size_setRow, dw_size] at zE0
    rw [spec_CauseApart_l1_eq]
    have hlt : k < (wtags xs).length := by omega
    have hcnt := apartN_le (hgo book0 xs).1.wr t (wtags xs) k
    obtain ⟨u, hu, hdx⟩ := drop_at hlt
    have hD0 := h5.ext E0
    obtain ⟨b1, o1, cs1, rfl, A1, D1, _, l1⟩ := hD0.at (by decide) hu
    obtain rfl := D.tag.1 D1
    have p0 := A1 0 _ rfl
    have p1 := A1 1 _ rfl
    simp only [LVer_n, LTag_n, LNode_n, Nat.add_zero] at p0 p1
    have X3' := (E0.blk y3).trans X3
    have hpu : (wtags xs).getD k ⟨0, 0⟩ = u := by rw [List.getD_eq_getElem?_getD, hu]; rfl
    have hr := apartN_range (hgo book0 xs).1.wr t (wtags xs) k
    rw [hpu] at hr
    have next : ∀ (e' : Env) (w' : World), e' 0 = .slice a xs.length c → e' 3 = pt g3 0 → e' 5 = .slice (some ⟨b1, o1, none⟩) (wtags xs).length c5 → e' 6 = i64 (apartN (hgo book0 xs).1.wr t (wtags xs) (List.range (k + 1))) → e' 7 = i64 k → Ext w0 w' →
        Ret (spec_CauseApart_j1 e' w') fun r => r.1 = i64 (apartN (hgo book0 xs).1.wr t (wtags xs) (List.range (wtags xs).length)) ∧ Ext w0 r.2 := by
      intro e' w' e0 e3 e5 e6 e7 E'
      rw [spec_CauseApart_j1_eq]
      simp (maxSteps := 1000000) (disch := first | assumption | omega | (simp only [World.size_alloc, size_setRow, dw_size]; done) | (simp only [World.size_alloc, size_setRow, dw_size] <;> omega) | (simp only [List.length_set, Array.length_toList, List.length_cons, List.length_nil, List.length_append, bts_size] <;> omega) | (simp only [List.all_cons, List.all_nil, Value.oneCell', Bool.and_self, Bool.and_true]; done)) [-Option.bind_some, hp_alloc_lt, hp_alloc_eq, hp_set_ne, wrap_small, ups_ap_cons, ups_ap_nil, upd_same, upd_other, env0_ap0, env0_aps, xt_a, xt_b, xt_c, -splice_eq, -stR_cells, stR_box, stR_boxA, stR_row, stR_row0, stR_row1, stR_rowA, stR_rowA0, splice_rowv, splice_rowv0, splice_rowv1, splice_z, splice_n, splice_s, nth_rowv, nth_rowv0, nth_rowv1, rowv_len, e0, e3, e5, e6, e7, e0, e3, e5, e6, e7, E0.blk, hlt, p0, p1, e0, e3, e5, e6, e7]
      exact ih (k + 1) _ w' (by omega) (by exact e0) (by exact e3) (by exact e5) (by exact e6) (by exact congrArg i64 (by omega)) E'
    rw [hr] at next
    cases heq : ((u.t == t.t) && (u.p == t.p))
    · by_cases h1 : Ev.Reach (hgo book0 xs).1.wr u t
      · have hap : apartB (hgo book0 xs).1.wr t u = false := by simp [apartB, h1]
        rw [hap] at next
        have hd1 : decide (Ev.Reach (hgo book0 xs).1.wr u t) = true := by simpa using h1
        simp (maxSteps := 1000000) (disch := first | assumption | omega | (simp only [World.size_alloc, size_setRow, dw_size]; done) | (simp only [World.size_alloc, size_setRow, dw_size] <;> omega) | (simp only [List.length_set, Array.length_toList, List.length_cons, List.length_nil, List.length_append, bts_size] <;> omega) | (simp only [List.all_cons, List.all_nil, Value.oneCell', Bool.and_self, Bool.and_true]; done)) [-Option.bind_some, hp_alloc_lt, hp_alloc_eq, hp_set_ne, wrap_small, ups_ap_cons, ups_ap_nil, upd_same, upd_other, env0_ap0, env0_aps, xt_a, xt_b, xt_c, -splice_eq, -stR_cells, stR_box, stR_boxA, stR_row, stR_row0, stR_row1, stR_rowA, stR_rowA0, splice_rowv, splice_rowv0, splice_rowv1, splice_z, splice_n, splice_s, nth_rowv, nth_rowv0, nth_rowv1, rowv_len, e0, e3, e5, e6, e7, hlt, ia_30, X3', heq, e0, e3, e5, e6, e7, E0.blk, hlt, p0, p1]
        refine Ret.bind (spec_l8Ahead_m (t := t) (u := u) (ha.ext (E0.tr (by (repeat (first | exact Ext.rfl | assumption | (refine Ext.al ?_ _) | (refine Ext.dw ?_) | (refine Ext.set ?_ (by first | omega | (simp only [World.size_alloc, size_setRow, dw_size]; omega)) _) | (refine Ext.tr ?_ (by assumption))))))) hc hok) ?_
        rintro ⟨_, w2⟩ ⟨rfl, E2⟩
        have zE2 := E2.size
        try simp only [World.size_alloc, size_setRow, dw_size] at zE2
        try dsimp only at E2
        simp (maxSteps := 1000000) (disch := first | assumption | omega | (simp only [World.size_alloc, size_setRow, dw_size]; done) | (simp only [World.size_alloc, size_setRow, dw_size] <;> omega) | (simp only [List.length_set, Array.length_toList, List.length_cons, List.length_nil, List.length_append, bts_size] <;> omega) | (simp only [List.all_cons, List.all_nil, Value.oneCell', Bool.and_self, Bool.and_true]; done)) [-Option.bind_some, hp_alloc_lt, hp_alloc_eq, hp_set_ne, wrap_small, ups_ap_cons, ups_ap_nil, upd_same, upd_other, env0_ap0, env0_aps, xt_a, xt_b, xt_c, -splice_eq, -stR_cells, stR_box, stR_boxA, stR_row, stR_row0, stR_row1, stR_rowA, stR_rowA0, splice_rowv, splice_rowv0, splice_rowv1, splice_z, splice_n, splice_s, nth_rowv, nth_rowv0, nth_rowv1, rowv_len, hd1, e0, e3, e5, e6, e7, E0.blk, hlt, p0, p1, E2.blk]
        exact next _ _ (by exact e0) (by exact e3) (by exact e5) (by exact e6) (by exact e7) (E0.tr (by (repeat (first | exact Ext.rfl | assumption | (refine Ext.al ?_ _) | (refine Ext.dw ?_) | (refine Ext.set ?_ (by first | omega | (simp only [World.size_alloc, size_setRow, dw_size]; omega)) _) | (refine Ext.tr ?_ (by assumption))))))
      · have hd1 : decide (Ev.Reach (hgo book0 xs).1.wr u t) = false := by simpa using h1
        simp (maxSteps := 1000000) (disch := first | assumption | omega | (simp only [World.size_alloc, size_setRow, dw_size]; done) | (simp only [World.size_alloc, size_setRow, dw_size] <;> omega) | (simp only [List.length_set, Array.length_toList, List.length_cons, List.length_nil, List.length_append, bts_size] <;> omega) | (simp only [List.all_cons, List.all_nil, Value.oneCell', Bool.and_self, Bool.and_true]; done)) [-Option.bind_some, hp_alloc_lt, hp_alloc_eq, hp_set_ne, wrap_small, ups_ap_cons, ups_ap_nil, upd_same, upd_other, env0_ap0, env0_aps, xt_a, xt_b, xt_c, -splice_eq, -stR_cells, stR_box, stR_boxA, stR_row, stR_row0, stR_row1, stR_rowA, stR_rowA0, splice_rowv, splice_rowv0, splice_rowv1, splice_z, splice_n, splice_s, nth_rowv, nth_rowv0, nth_rowv1, rowv_len, e0, e3, e5, e6, e7, hlt, ia_30, X3', heq, e0, e3, e5, e6, e7, E0.blk, hlt, p0, p1]
        refine Ret.bind (spec_l8Ahead_m (t := t) (u := u) (ha.ext (E0.tr (by (repeat (first | exact Ext.rfl | assumption | (refine Ext.al ?_ _) | (refine Ext.dw ?_) | (refine Ext.set ?_ (by first | omega | (simp only [World.size_alloc, size_setRow, dw_size]; omega)) _) | (refine Ext.tr ?_ (by assumption))))))) hc hok) ?_
        rintro ⟨_, w2⟩ ⟨rfl, E2⟩
        have zE2 := E2.size
        try simp only [World.size_alloc, size_setRow, dw_size] at zE2
        try dsimp only at E2
        have zE2 := E2.size
        simp only [dw_size] at zE2
        have F2 : Ext w w2 := by (repeat (first | exact Ext.rfl | assumption | (refine Ext.al ?_ _) | (refine Ext.dw ?_) | (refine Ext.set ?_ (by first | omega | (simp only [World.size_alloc, size_setRow, dw_size]; omega)) _) | (refine Ext.tr ?_ (by assumption))))
        have X3' := (F2.blk (b := g3) (by have := E0.size; omega)).trans X3'
        simp (maxSteps := 1000000) (disch := first | assumption | omega | (simp only [World.size_alloc, size_setRow, dw_size]; done) | (simp only [World.size_alloc, size_setRow, dw_size] <;> omega) | (simp only [List.length_set, Array.length_toList, List.length_cons, List.length_nil, List.length_append, bts_size] <;> omega) | (simp only [List.all_cons, List.all_nil, Value.oneCell', Bool.and_self, Bool.and_true]; done)) [-Option.bind_some, hp_alloc_lt, hp_alloc_eq, hp_set_ne, wrap_small, ups_ap_cons, ups_ap_nil, upd_same, upd_other, env0_ap0, env0_aps, xt_a, xt_b, xt_c, -splice_eq, -stR_cells, stR_box, stR_boxA, stR_row, stR_row0, stR_row1, stR_rowA, stR_rowA0, splice_rowv, splice_rowv0, splice_rowv1, splice_z, splice_n, splice_s, nth_rowv, nth_rowv0, nth_rowv1, rowv_len, hd1, e0, e3, e5, e7, hlt, ia_30, X3', e0, e3, e5, e6, e7, E0.blk, hlt, p0, p1, E2.blk]
        refine Ret.bind (spec_l8Ahead_m (t := u) (u := t) (ha.ext (E0.tr F2)) hc hok) ?_
        rintro ⟨_, w3⟩ ⟨rfl, E3⟩
        have zE3 := E3.size
        try simp only [World.size_alloc, size_setRow, dw_size] at zE3
        try dsimp only at E3
        by_cases h2 : Ev.Reach (hgo book0 xs).1.wr t u
        · have hap : apartB (hgo book0 xs).1.wr t u = false := by simp [apartB, h2]
          rw [hap] at next
          have hd2 : decide (Ev.Reach (hgo book0 xs).1.wr t u) = true := by simpa using h2
          simp (maxSteps := 1000000) (disch := first | assumption | omega | (simp only [World.size_alloc, size_setRow, dw_size]; done) | (simp only [World.size_alloc, size_setRow, dw_size] <;> omega) | (simp only [List.length_set, Array.length_toList, List.length_cons, List.length_nil, List.length_append, bts_size] <;> omega) | (simp only [List.all_cons, List.all_nil, Value.oneCell', Bool.and_self, Bool.and_true]; done)) [-Option.bind_some, hp_alloc_lt, hp_alloc_eq, hp_set_ne, wrap_small, ups_ap_cons, ups_ap_nil, upd_same, upd_other, env0_ap0, env0_aps, xt_a, xt_b, xt_c, -splice_eq, -stR_cells, stR_box, stR_boxA, stR_row, stR_row0, stR_row1, stR_rowA, stR_rowA0, splice_rowv, splice_rowv0, splice_rowv1, splice_z, splice_n, splice_s, nth_rowv, nth_rowv0, nth_rowv1, rowv_len, hd2, e0, e3, e5, e6, e7, E0.blk, hlt, p0, p1, E2.blk, E3.blk]
          exact next _ _ (by exact e0) (by exact e3) (by exact e5) (by exact e6) (by exact e7) ((E0.tr F2).tr E3)
        · have hap : apartB (hgo book0 xs).1.wr t u = true := by simp [apartB, h1, h2, heq]
          rw [hap] at next
          have hd2 : decide (Ev.Reach (hgo book0 xs).1.wr t u) = false := by simpa using h2
          simp (maxSteps := 1000000) (disch := first | assumption | omega | (simp only [World.size_alloc, size_setRow, dw_size]; done) | (simp only [World.size_alloc, size_setRow, dw_size] <;> omega) | (simp only [List.length_set, Array.length_toList, List.length_cons, List.length_nil, List.length_append, bts_size] <;> omega) | (simp only [List.all_cons, List.all_nil, Value.oneCell', Bool.and_self, Bool.and_true]; done)) [-Option.bind_some, hp_alloc_lt, hp_alloc_eq, hp_set_ne, wrap_small, ups_ap_cons, ups_ap_nil, upd_same, upd_other, env0_ap0, env0_aps, xt_a, xt_b, xt_c, -splice_eq, -stR_cells, stR_box, stR_boxA, stR_row, stR_row0, stR_row1, stR_rowA, stR_rowA0, splice_rowv, splice_rowv0, splice_rowv1, splice_z, splice_n, splice_s, nth_rowv, nth_rowv0, nth_rowv1, rowv_len, hd2, e6, e0, e3, e5, e6, e7, E0.blk, hlt, p0, p1, E2.blk, E3.blk]
          exact next _ _ (by exact e0) (by exact e3) (by exact e5) (by exact congrArg i64 (by simp)) (by exact e7) ((E0.tr F2).tr E3)
    · have hap : apartB (hgo book0 xs).1.wr t u = false := by simp [apartB, heq]
      rw [hap] at next
      simp (maxSteps := 1000000) (disch := first | assumption | omega | (simp only [World.size_alloc, size_setRow, dw_size]; done) | (simp only [World.size_alloc, size_setRow, dw_size] <;> omega) | (simp only [List.length_set, Array.length_toList, List.length_cons, List.length_nil, List.length_append, bts_size] <;> omega) | (simp only [List.all_cons, List.all_nil, Value.oneCell', Bool.and_self, Bool.and_true]; done)) [-Option.bind_some, hp_alloc_lt, hp_alloc_eq, hp_set_ne, wrap_small, ups_ap_cons, ups_ap_nil, upd_same, upd_other, env0_ap0, env0_aps, xt_a, xt_b, xt_c, -splice_eq, -stR_cells, stR_box, stR_boxA, stR_row, stR_row0, stR_row1, stR_rowA, stR_rowA0, splice_rowv, splice_rowv0, splice_rowv1, splice_z, splice_n, splice_s, nth_rowv, nth_rowv0, nth_rowv1, rowv_len, e0, e3, e5, e6, e7, hlt, ia_30, X3', heq, e0, e3, e5, e6, e7, E0.blk, hlt, p0, p1]
      exact next _ _ (by exact e0) (by exact e3) (by exact e5) (by exact e6) (by exact e7) (E0.tr (by (repeat (first | exact Ext.rfl | assumption | (refine Ext.al ?_ _) | (refine Ext.dw ?_) | (refine Ext.set ?_ (by first | omega | (simp only [World.size_alloc, size_setRow, dw_size]; omega)) _) | (refine Ext.tr ?_ (by assumption))))))
theorem spec_CauseApart_m {a : Option Addr} {n c : Nat} {Sx : Nat → Prop} {xs : List Done} {t : Tag} {w : World} (ha : D tDones Sx w [.slice a n c] xs) (hc : n ≤ c) :
    Ret (EV P 35 #[.slice a n c, .agg #[i64 t.t, i64 t.p]] w) fun r => r.1 = i64 (apartP xs t) ∧ Ext w r.2 := by
  obtain ⟨rfl, hm, _⟩ := ha.n
  refine Ret.post fun Q hQ => ?_
  refine Ret.enter plain mixed (spec_CauseApart_fn _ _ _) (by kernel_rfl) (n := 2) (by kernel_rfl) rfl ?_
  simp (maxSteps := 1000000) (disch := first | assumption | omega | (simp only [World.size_alloc, size_setRow, dw_size]; done) | (simp only [World.size_alloc, size_setRow, dw_size] <;> omega) | (simp only [List.length_set, Array.length_toList, List.length_cons, List.length_nil, List.length_append, bts_size] <;> omega) | (simp only [List.all_cons, List.all_nil, Value.oneCell', Bool.and_self, Bool.and_true]; done)) [-Option.bind_some, hp_alloc_lt, hp_alloc_eq, hp_set_ne, wrap_small, ups_ap_cons, ups_ap_nil, upd_same, upd_other, env0_ap0, env0_aps, xt_a, xt_b, xt_c, -splice_eq, -stR_cells, stR_box, stR_boxA, stR_row, stR_row0, stR_row1, stR_rowA, stR_rowA0, splice_rowv, splice_rowv0, splice_rowv1, splice_z, splice_n, splice_s, nth_rowv, nth_rowv0, nth_rowv1, rowv_len]
  refine Ret.bind (spec_l8Tags_m (ha.ext (by (repeat (first | exact Ext.rfl | assumption | (refine Ext.al ?_ _) | (refine Ext.dw ?_) | (refine Ext.set ?_ (by first | omega | (simp only [World.size_alloc, size_setRow, dw_size]; omega)) _) | (refine Ext.tr ?_ (by assumption))))))) ?_
  rintro ⟨_, w1⟩ ⟨a1, c1, rfl, o1, E1⟩
  try dsimp only at a1 c1 o1 E1
  have zE1 := E1.size
  try simp only [World.size_alloc, size_setRow, dw_size] at zE1
  have X0 : hp w1 w.heap.size = some (.cells #[i64 t.t, i64 t.p] 42 (0, 0)) := (E1.blk (by simp)).trans (by first | assumption | rfl | (simp (maxSteps := 1000000) (disch := first | assumption | omega | (simp only [World.size_alloc, size_setRow, dw_size]; done) | (simp only [World.size_alloc, size_setRow, dw_size] <;> omega) | (simp only [List.length_set, Array.length_toList, List.length_cons, List.length_nil, List.length_append, bts_size] <;> omega) | (simp only [List.all_cons, List.all_nil, Value.oneCell', Bool.and_self, Bool.and_true]; done)) [-Option.bind_some, hp_alloc_lt, hp_alloc_eq, hp_set_ne, wrap_small, ups_ap_cons, ups_ap_nil, upd_same, upd_other, env0_ap0, env0_aps, xt_a, xt_b, xt_c, -splice_eq, -stR_cells, stR_box, stR_boxA, stR_row, stR_row0, stR_row1, stR_rowA, stR_rowA0, splice_rowv, splice_rowv0, splice_rowv1, splice_z, splice_n, splice_s, nth_rowv, nth_rowv0, nth_rowv1, rowv_len, E1.blk]; done))
  have F1 : Ext w w1 := by (repeat (first | exact Ext.rfl | assumption | (refine Ext.al ?_ _) | (refine Ext.dw ?_) | (refine Ext.set ?_ (by first | omega | (simp only [World.size_alloc, size_setRow, dw_size]; omega)) _) | (refine Ext.tr ?_ (by assumption))))
  simp (maxSteps := 1000000) (disch := first | assumption | omega | (simp only [World.size_alloc, size_setRow, dw_size]; done) | (simp only [World.size_alloc, size_setRow, dw_size] <;> omega) | (simp only [List.length_set, Array.length_toList, List.length_cons, List.length_nil, List.length_append, bts_size] <;> omega) | (simp only [List.all_cons, List.all_nil, Value.oneCell', Bool.and_self, Bool.and_true]; done)) [-Option.bind_some, hp_alloc_lt, hp_alloc_eq, hp_set_ne, wrap_small, ups_ap_cons, ups_ap_nil, upd_same, upd_other, env0_ap0, env0_aps, xt_a, xt_b, xt_c, -splice_eq, -stR_cells, stR_box, stR_boxA, stR_row, stR_row0, stR_row1, stR_rowA, stR_rowA0, splice_rowv, splice_rowv0, splice_rowv1, splice_z, splice_n, splice_s, nth_rowv, nth_rowv0, nth_rowv1, rowv_len, E1.blk, X0]
  refine Ret.bind (spec_l6Ok_m (ha.ext F1) hc) ?_
  rintro ⟨_, w2⟩ ⟨rfl, E2⟩
  try dsimp only at E2
  have zE2 := E2.size
  try simp only [World.size_alloc, size_setRow, dw_size] at zE2
  have X0 := (E2.blk (b := w.heap.size) (by omega)).trans X0
  cases h : okP xs
  · rw [show apartP xs t = -1 by simp [apartP, h]] at hQ
    simp (maxSteps := 1000000) (disch := first | assumption | omega | (simp only [World.size_alloc, size_setRow, dw_size]; done) | (simp only [World.size_alloc, size_setRow, dw_size] <;> omega) | (simp only [List.length_set, Array.length_toList, List.length_cons, List.length_nil, List.length_append, bts_size] <;> omega) | (simp only [List.all_cons, List.all_nil, Value.oneCell', Bool.and_self, Bool.and_true]; done)) [-Option.bind_some, hp_alloc_lt, hp_alloc_eq, hp_set_ne, wrap_small, ups_ap_cons, ups_ap_nil, upd_same, upd_other, env0_ap0, env0_aps, xt_a, xt_b, xt_c, -splice_eq, -stR_cells, stR_box, stR_boxA, stR_row, stR_row0, stR_row1, stR_rowA, stR_rowA0, splice_rowv, splice_rowv0, splice_rowv1, splice_z, splice_n, splice_s, nth_rowv, nth_rowv0, nth_rowv1, rowv_len, h, E1.blk, X0, E2.blk]
    exact hQ _ ⟨rfl, F1.tr E2⟩
  · obtain ⟨hwr, hl, hiw, hpos, hw80, hp4⟩ := ok_facts h
    have hlen : (wtags xs).length ≤ 80 := by
      have := congrArg List.length (swr_tags xs (hseen book0 xs) hl)
      rw [← hwr, ← wtags_eq] at this
      simp only [List.length_map] at this
      omega
    simp (maxSteps := 1000000) (disch := first | assumption | omega | (simp only [World.size_alloc, size_setRow, dw_size]; done) | (simp only [World.size_alloc, size_setRow, dw_size] <;> omega) | (simp only [List.length_set, Array.length_toList, List.length_cons, List.length_nil, List.length_append, bts_size] <;> omega) | (simp only [List.all_cons, List.all_nil, Value.oneCell', Bool.and_self, Bool.and_true]; done)) [-Option.bind_some, hp_alloc_lt, hp_alloc_eq, hp_set_ne, wrap_small, ups_ap_cons, ups_ap_nil, upd_same, upd_other, env0_ap0, env0_aps, xt_a, xt_b, xt_c, -splice_eq, -stR_cells, stR_box, stR_boxA, stR_row, stR_row0, stR_row1, stR_rowA, stR_rowA0, splice_rowv, splice_rowv0, splice_rowv1, splice_z, splice_n, splice_s, nth_rowv, nth_rowv0, nth_rowv1, rowv_len, h, X0, E1.blk, X0, E2.blk]
    refine Ret.bind (spec_l8In_m (t := t) (o1.ext E2).d) ?_
    rintro ⟨_, w3⟩ ⟨rfl, E3⟩
    have zE3 := E3.size
    try simp only [World.size_alloc, size_setRow, dw_size] at zE3
    try dsimp only at E3
    have zE3 := E3.size
    have X0 := (E3.blk (b := w.heap.size) (by omega)).trans X0
    have F3 : Ext w w3 := (F1.tr E2).tr E3
    cases h1 : decide (t ∈ wtags xs)
    · rw [show apartP xs t = -1 by simp only [apartP, h1, Bool.and_false, Bool.false_eq_true, if_false]] at hQ
      simp (maxSteps := 1000000) (disch := first | assumption | omega | (simp only [World.size_alloc, size_setRow, dw_size]; done) | (simp only [World.size_alloc, size_setRow, dw_size] <;> omega) | (simp only [List.length_set, Array.length_toList, List.length_cons, List.length_nil, List.length_append, bts_size] <;> omega) | (simp only [List.all_cons, List.all_nil, Value.oneCell', Bool.and_self, Bool.and_true]; done)) [-Option.bind_some, hp_alloc_lt, hp_alloc_eq, hp_set_ne, wrap_small, ups_ap_cons, ups_ap_nil, upd_same, upd_other, env0_ap0, env0_aps, xt_a, xt_b, xt_c, -splice_eq, -stR_cells, stR_box, stR_boxA, stR_row, stR_row0, stR_row1, stR_rowA, stR_rowA0, splice_rowv, splice_rowv0, splice_rowv1, splice_z, splice_n, splice_s, nth_rowv, nth_rowv0, nth_rowv1, rowv_len, h1, E1.blk, X0, E2.blk, E3.blk, X0]
      exact hQ _ ⟨rfl, F3⟩
    · rw [show apartP xs t = (apartN (hgo book0 xs).1.wr t (wtags xs) (List.range (wtags xs).length) : Int) by simp only [apartP, h, h1, Bool.and_self, if_true]] at hQ
      simp (maxSteps := 1000000) (disch := first | assumption | omega | (simp only [World.size_alloc, size_setRow, dw_size]; done) | (simp only [World.size_alloc, size_setRow, dw_size] <;> omega) | (simp only [List.length_set, Array.length_toList, List.length_cons, List.length_nil, List.length_append, bts_size] <;> omega) | (simp only [List.all_cons, List.all_nil, Value.oneCell', Bool.and_self, Bool.and_true]; done)) [-Option.bind_some, hp_alloc_lt, hp_alloc_eq, hp_set_ne, wrap_small, ups_ap_cons, ups_ap_nil, upd_same, upd_other, env0_ap0, env0_aps, xt_a, xt_b, xt_c, -splice_eq, -stR_cells, stR_box, stR_boxA, stR_row, stR_row0, stR_row1, stR_rowA, stR_rowA0, splice_rowv, splice_rowv0, splice_rowv1, splice_z, splice_n, splice_s, nth_rowv, nth_rowv0, nth_rowv1, rowv_len, h1, E1.blk, X0, E2.blk, E3.blk, X0]
      refine Ret.mono (spec_CauseApart_n (g3 := w.heap.size) (ha.ext F3) hc h ((o1.ext E2).ext E3).d X0 hlen (wtags xs).length 0 _ w3 (by omega) (by exact rfl) (by exact rfl) (by exact rfl) (by exact rfl) (by exact rfl) Ext.rfl) ?_
      rintro r ⟨k1, k2⟩
      exact hQ _ ⟨k1, F3.tr k2⟩
end Go.Proofs.Ytcafhepclddcaaa.X
