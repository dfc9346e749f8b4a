/- A part of the proof: an evaluator of the model, its laws, and contracts of functions; no condition. -/
import Derived.Test.YtcafhepclddcaaaH2
set_option linter.unusedVariables false
set_option linter.unusedSimpArgs false
set_option maxRecDepth 100000
set_option maxHeartbeats 1000000
namespace Go.Proofs.Ytcafhepclddcaaa.X
open Go Go.Ev Go.RowKit
theorem spec_l6Wrote_n {a a2 : Option Addr} {c c2 g5 g6 n2 : Nat} {S S2 : Nat → Prop} {xs : List Done} {sn : List (List Tag)} {t : Tag} {w0 : World} (hle : sn.length = xs.length) (hg56 : g5 ≠ g6) (hg6 : w0.heap.size ≤ g6) (hS2 : ∀ b, S2 b → b < w0.heap.size)
    (ha : D tDones S w0 [.slice a xs.length c] xs) (hb : D tPasts S2 w0 [.slice a2 n2 c2] sn) :
    ∀ (d k : Nat) (e : Env) (w : World), k + d = xs.length → e 0 = .slice a xs.length c → e 1 = .slice a2 n2 c2 → e 5 = pt g5 0 → e 6 = pt g6 0 → e 8 = i64 k → Ext w0 w →
    hp w g5 = some (.cells #[i64 t.t, i64 t.p] 42 (0, 0)) → (∃ v, hp w g6 = some (.cells #[v] 32 (0, 0))) →
    Ret (spec_l6Wrote_l1 e w) fun r => ((sfind (xs.drop k) (sn.drop k) t = none ∧ r.1 = .tuple #[.agg #[.slice none 0 0], .bool false]) ∨ ∃ p a3 c3, sfind (xs.drop k) (sn.drop k) t = some p ∧ p ∈ sn ∧ r.1 = .tuple #[.agg #[.slice a3 p.length c3], .bool true] ∧ D tTags S2 r.2 [.slice a3 p.length c3] p) ∧ Ext w0 r.2 := by
  obtain ⟨rfl, hm2, _⟩ := hb.n
  intro d
  induction d with
  | zero =>
    intro k e w hd e0 e1 e5 e6 e8 E0 X5 X6
    have zE0 := E0.size
    try simp only [World.size_alloc, size_setRow, dw_size] at zE0
    rw [spec_l6Wrote_l1_eq]
    obtain rfl : k = xs.length := by omega
    obtain ⟨v, X6⟩ := X6
    have y5 := hp_lt X5
    have y6 := hp_lt X6
    rw [List.drop_eq_nil_of_le (by omega)]
    refine Ret.post fun Q hQ => ?_
    simp (maxSteps := 1000000) (disch := first | assumption | omega | (simp only [World.size_alloc, size_setRow, dw_size]; done) | (simp only [World.size_alloc, size_setRow, dw_size] <;> omega) | (simp only [List.length_set, Array.length_toList, List.length_cons, List.length_nil, List.length_append, bts_size] <;> omega) | (simp only [List.all_cons, List.all_nil, Value.oneCell', Bool.and_self, Bool.and_true]; done)) [-Option.bind_some, hp_alloc_lt, hp_alloc_eq, hp_set_ne, wrap_small, ups_ap_cons, ups_ap_nil, upd_same, upd_other, env0_ap0, env0_aps, xt_a, xt_b, xt_c, -splice_eq, -stR_cells, stR_box, stR_boxA, stR_row, stR_row0, stR_row1, stR_rowA, stR_rowA0, splice_rowv, splice_rowv0, splice_rowv1, splice_z, splice_n, splice_s, nth_rowv, nth_rowv0, nth_rowv1, rowv_len, e0, e1, e5, e6, e8, X5, X6, e0, e1, e5, e6, e8, E0.blk, X5, X6]
    exact hQ _ ⟨.inl ⟨rfl, rfl⟩, by (repeat (first | exact Ext.rfl | assumption | (refine Ext.al ?_ _) | (refine Ext.dw ?_) | (refine Ext.set ?_ (by first | omega | (simp only [World.size_alloc, size_setRow, dw_size]; omega)) _) | (refine Ext.tr ?_ (by assumption))))⟩
  | succ d ih =>
    intro k e w hd e0 e1 e5 e6 e8 E0 X5 X6
    have zE0 := E0.size
    try simp only [World.size_alloc, size_setRow, dw_size] at zE0
    rw [spec_l6Wrote_l1_eq]
    obtain ⟨v, X6⟩ := X6
    have y5 := hp_lt X5
    have y6 := hp_lt X6
    have hlt : k < xs.length := by omega
    obtain ⟨x, hx, hdx⟩ := drop_at hlt
    obtain ⟨p, hp', hdp⟩ := drop_at (l := sn) (k := k) (by omega)
    have hn := ha.n
    obtain ⟨b1, o1, cs1, rfl, A1, D1, _, l1⟩ := (ha.ext E0).at (by decide) hx
    obtain rfl := D.done.1 D1
    have p0 := A1 0 _ rfl
    have p1 := A1 1 _ rfl
    have p2 := A1 2 _ rfl
    have p3 := A1 3 _ rfl
    have p4 := A1 4 _ rfl
    simp only [LVer_n, LTag_n, LNode_n, Nat.add_zero] at p0 p1 p2 p3 p4
    simp only [LDone_n] at p0 p1 p2 p3 p4
    obtain ⟨b2, o2, cs2, rfl, A2, D2, _, l2⟩ := (hb.ext E0).at (by decide) hp'
    obtain ⟨a3, c3, rfl, D3⟩ := D2.sl'
    have q0 : cellO (hp w b2) (o2 + k) = some (.slice a3 p.length c3) := by have := A2 0 _ rfl; simpa only [tPasts_n, Nat.mul_one, Nat.add_zero] using this
    have hlt2 : k < sn.length := by omega
    rw [hdx, hdp, sfind]
    refine Ret.post fun Q hQ => ?_
    cases h1 : (x.kind == 1)
    · rw [h1, Bool.false_and] at hQ
      simp (maxSteps := 1000000) (disch := first | assumption | omega | (simp only [World.size_alloc, size_setRow, dw_size]; done) | (simp only [World.size_alloc, size_setRow, dw_size] <;> omega) | (simp only [List.length_set, Array.length_toList, List.length_cons, List.length_nil, List.length_append, bts_size] <;> omega) | (simp only [List.all_cons, List.all_nil, Value.oneCell', Bool.and_self, Bool.and_true]; done)) [-Option.bind_some, hp_alloc_lt, hp_alloc_eq, hp_set_ne, wrap_small, ups_ap_cons, ups_ap_nil, upd_same, upd_other, env0_ap0, env0_aps, xt_a, xt_b, xt_c, -splice_eq, -stR_cells, stR_box, stR_boxA, stR_row, stR_row0, stR_row1, stR_rowA, stR_rowA0, splice_rowv, splice_rowv0, splice_rowv1, splice_z, splice_n, splice_s, nth_rowv, nth_rowv0, nth_rowv1, rowv_len, e0, e1, e5, e6, e8, hlt, ia_25, X5, X6, h1, e0, e1, e5, e6, e8, E0.blk, X5, X6, hlt, p0, p1, p2, p3, p4, hlt2]
      exact Ret.mono (ih (k + 1) _ _ (by omega) (by first | omega | assumption | rfl | exact congrArg i64 (by omega) | (simp; done) | (simp; omega)) (by first | omega | assumption | rfl | exact congrArg i64 (by omega) | (simp; done) | (simp; omega)) (by first | omega | assumption | rfl | exact congrArg i64 (by omega) | (simp; done) | (simp; omega)) (by first | omega | assumption | rfl | exact congrArg i64 (by omega) | (simp; done) | (simp; omega)) (by first | omega | assumption | rfl | exact congrArg i64 (by omega) | (simp; done) | (simp; omega)) (by (repeat (first | exact Ext.rfl | assumption | (refine Ext.al ?_ _) | (refine Ext.dw ?_) | (refine Ext.set ?_ (by first | omega | (simp only [World.size_alloc, size_setRow, dw_size]; omega)) _) | (refine Ext.tr ?_ (by assumption))))) (by first | assumption | rfl | (simp (maxSteps := 1000000) (disch := first | assumption | omega | (simp only [World.size_alloc, size_setRow, dw_size]; done) | (simp only [World.size_alloc, size_setRow, dw_size] <;> omega) | (simp only [List.length_set, Array.length_toList, List.length_cons, List.length_nil, List.length_append, bts_size] <;> omega) | (simp only [List.all_cons, List.all_nil, Value.oneCell', Bool.and_self, Bool.and_true]; done)) [-Option.bind_some, hp_alloc_lt, hp_alloc_eq, hp_set_ne, wrap_small, ups_ap_cons, ups_ap_nil, upd_same, upd_other, env0_ap0, env0_aps, xt_a, xt_b, xt_c, -splice_eq, -stR_cells, stR_box, stR_boxA, stR_row, stR_row0, stR_row1, stR_rowA, stR_rowA0, splice_rowv, splice_rowv0, splice_rowv1, splice_z, splice_n, splice_s, nth_rowv, nth_rowv0, nth_rowv1, rowv_len, X5, e0, e1, e5, e6, e8, E0.blk, X5, X6, hlt, p0, p1, p2, p3, p4, hlt2]; done)) ⟨_, (by first | assumption | rfl | (simp (maxSteps := 1000000) (disch := first | assumption | omega | (simp only [World.size_alloc, size_setRow, dw_size]; done) | (simp only [World.size_alloc, size_setRow, dw_size] <;> omega) | (simp only [List.length_set, Array.length_toList, List.length_cons, List.length_nil, List.length_append, bts_size] <;> omega) | (simp only [List.all_cons, List.all_nil, Value.oneCell', Bool.and_self, Bool.and_true]; done)) [-Option.bind_some, hp_alloc_lt, hp_alloc_eq, hp_set_ne, wrap_small, ups_ap_cons, ups_ap_nil, upd_same, upd_other, env0_ap0, env0_aps, xt_a, xt_b, xt_c, -splice_eq, -stR_cells, stR_box, stR_boxA, stR_row, stR_row0, stR_row1, stR_rowA, stR_rowA0, splice_rowv, splice_rowv0, splice_rowv1, splice_z, splice_n, splice_s, nth_rowv, nth_rowv0, nth_rowv1, rowv_len, X6, e0, e1, e5, e6, e8, E0.blk, X5, X6, hlt, p0, p1, p2, p3, p4, hlt2]; done))⟩) (fun r h => hQ r (by simpa using h))
    · cases h2 : ((x.tag.t == t.t) && (x.tag.p == t.p))
      · rw [h1, h2] at hQ
        simp (maxSteps := 1000000) (disch := first | assumption | omega | (simp only [World.size_alloc, size_setRow, dw_size]; done) | (simp only [World.size_alloc, size_setRow, dw_size] <;> omega) | (simp only [List.length_set, Array.length_toList, List.length_cons, List.length_nil, List.length_append, bts_size] <;> omega) | (simp only [List.all_cons, List.all_nil, Value.oneCell', Bool.and_self, Bool.and_true]; done)) [-Option.bind_some, hp_alloc_lt, hp_alloc_eq, hp_set_ne, wrap_small, ups_ap_cons, ups_ap_nil, upd_same, upd_other, env0_ap0, env0_aps, xt_a, xt_b, xt_c, -splice_eq, -stR_cells, stR_box, stR_boxA, stR_row, stR_row0, stR_row1, stR_rowA, stR_rowA0, splice_rowv, splice_rowv0, splice_rowv1, splice_z, splice_n, splice_s, nth_rowv, nth_rowv0, nth_rowv1, rowv_len, e0, e1, e5, e6, e8, hlt, ia_25, X5, X6, h1, h2, e0, e1, e5, e6, e8, E0.blk, X5, X6, hlt, p0, p1, p2, p3, p4, hlt2]
        exact Ret.mono (ih (k + 1) _ _ (by omega) (by first | omega | assumption | rfl | exact congrArg i64 (by omega) | (simp; done) | (simp; omega)) (by first | omega | assumption | rfl | exact congrArg i64 (by omega) | (simp; done) | (simp; omega)) (by first | omega | assumption | rfl | exact congrArg i64 (by omega) | (simp; done) | (simp; omega)) (by first | omega | assumption | rfl | exact congrArg i64 (by omega) | (simp; done) | (simp; omega)) (by first | omega | assumption | rfl | exact congrArg i64 (by omega) | (simp; done) | (simp; omega)) (by (repeat (first | exact Ext.rfl | assumption | (refine Ext.al ?_ _) | (refine Ext.dw ?_) | (refine Ext.set ?_ (by first | omega | (simp only [World.size_alloc, size_setRow, dw_size]; omega)) _) | (refine Ext.tr ?_ (by assumption))))) (by first | assumption | rfl | (simp (maxSteps := 1000000) (disch := first | assumption | omega | (simp only [World.size_alloc, size_setRow, dw_size]; done) | (simp only [World.size_alloc, size_setRow, dw_size] <;> omega) | (simp only [List.length_set, Array.length_toList, List.length_cons, List.length_nil, List.length_append, bts_size] <;> omega) | (simp only [List.all_cons, List.all_nil, Value.oneCell', Bool.and_self, Bool.and_true]; done)) [-Option.bind_some, hp_alloc_lt, hp_alloc_eq, hp_set_ne, wrap_small, ups_ap_cons, ups_ap_nil, upd_same, upd_other, env0_ap0, env0_aps, xt_a, xt_b, xt_c, -splice_eq, -stR_cells, stR_box, stR_boxA, stR_row, stR_row0, stR_row1, stR_rowA, stR_rowA0, splice_rowv, splice_rowv0, splice_rowv1, splice_z, splice_n, splice_s, nth_rowv, nth_rowv0, nth_rowv1, rowv_len, X5, e0, e1, e5, e6, e8, E0.blk, X5, X6, hlt, p0, p1, p2, p3, p4, hlt2]; done)) ⟨_, (by first | assumption | rfl | (simp (maxSteps := 1000000) (disch := first | assumption | omega | (simp only [World.size_alloc, size_setRow, dw_size]; done) | (simp only [World.size_alloc, size_setRow, dw_size] <;> omega) | (simp only [List.length_set, Array.length_toList, List.length_cons, List.length_nil, List.length_append, bts_size] <;> omega) | (simp only [List.all_cons, List.all_nil, Value.oneCell', Bool.and_self, Bool.and_true]; done)) [-Option.bind_some, hp_alloc_lt, hp_alloc_eq, hp_set_ne, wrap_small, ups_ap_cons, ups_ap_nil, upd_same, upd_other, env0_ap0, env0_aps, xt_a, xt_b, xt_c, -splice_eq, -stR_cells, stR_box, stR_boxA, stR_row, stR_row0, stR_row1, stR_rowA, stR_rowA0, splice_rowv, splice_rowv0, splice_rowv1, splice_z, splice_n, splice_s, nth_rowv, nth_rowv0, nth_rowv1, rowv_len, X6, e0, e1, e5, e6, e8, E0.blk, X5, X6, hlt, p0, p1, p2, p3, p4, hlt2]; done))⟩) (fun r h => hQ r (by simpa using h))
      · rw [h1, h2] at hQ
        simp (maxSteps := 1000000) (disch := first | assumption | omega | (simp only [World.size_alloc, size_setRow, dw_size]; done) | (simp only [World.size_alloc, size_setRow, dw_size] <;> omega) | (simp only [List.length_set, Array.length_toList, List.length_cons, List.length_nil, List.length_append, bts_size] <;> omega) | (simp only [List.all_cons, List.all_nil, Value.oneCell', Bool.and_self, Bool.and_true]; done)) [-Option.bind_some, hp_alloc_lt, hp_alloc_eq, hp_set_ne, wrap_small, ups_ap_cons, ups_ap_nil, upd_same, upd_other, env0_ap0, env0_aps, xt_a, xt_b, xt_c, -splice_eq, -stR_cells, stR_box, stR_boxA, stR_row, stR_row0, stR_row1, stR_rowA, stR_rowA0, splice_rowv, splice_rowv0, splice_rowv1, splice_z, splice_n, splice_s, nth_rowv, nth_rowv0, nth_rowv1, rowv_len, e0, e1, e5, e6, e8, hlt, ia_25, ia_62, hlt2, q0, X5, X6, h1, h2, e0, e1, e5, e6, e8, E0.blk, X5, X6, hlt, p0, p1, p2, p3, p4, hlt2]
        refine hQ _ ⟨.inr ⟨p, a3, c3, rfl, List.mem_of_getElem? hp', rfl, D3.keep (fun b hb hl => ?_)⟩, Ext.set (E0.tr (dw_ext w)) hg6 _⟩
        · exact hp_set_ne (by intro e; subst e; exact absurd (hS2 _ hb) (by omega))
theorem spec_l6Wrote_m {a a2 : Option Addr} {n n2 c c2 : Nat} {S S2 : Nat → Prop} {xs : List Done} {sn : List (List Tag)} {t : Tag} {w : World} (hle : sn.length = xs.length) (hS2 : ∀ b, S2 b → b < w.heap.size)
    (ha : D tDones S w [.slice a n c] xs) (hb : D tPasts S2 w [.slice a2 n2 c2] sn) :
    Ret (EV P 84 #[.slice a n c, .slice a2 n2 c2, .agg #[i64 t.t, i64 t.p]] w) fun r => ((sfind xs sn t = none ∧ r.1 = .tuple #[.agg #[.slice none 0 0], .bool false]) ∨ ∃ p a3 c3, sfind xs sn t = some p ∧ p ∈ sn ∧ r.1 = .tuple #[.agg #[.slice a3 p.length c3], .bool true] ∧ D tTags S2 r.2 [.slice a3 p.length c3] p) ∧ Ext w r.2 := by
  obtain ⟨rfl, hm, _⟩ := ha.n
  refine Ret.post fun Q hQ => ?_
  refine Ret.enter plain mixed (spec_l6Wrote_fn _ _ _ _) (by kernel_rfl) (n := 3) (by kernel_rfl) rfl ?_
  simp (maxSteps := 1000000) (disch := first | assumption | omega | (simp only [World.size_alloc, size_setRow, dw_size]; done) | (simp only [World.size_alloc, size_setRow, dw_size] <;> omega) | (simp only [List.length_set, Array.length_toList, List.length_cons, List.length_nil, List.length_append, bts_size] <;> omega) | (simp only [List.all_cons, List.all_nil, Value.oneCell', Bool.and_self, Bool.and_true]; done)) [-Option.bind_some, hp_alloc_lt, hp_alloc_eq, hp_set_ne, wrap_small, ups_ap_cons, ups_ap_nil, upd_same, upd_other, env0_ap0, env0_aps, xt_a, xt_b, xt_c, -splice_eq, -stR_cells, stR_box, stR_boxA, stR_row, stR_row0, stR_row1, stR_rowA, stR_rowA0, splice_rowv, splice_rowv0, splice_rowv1, splice_z, splice_n, splice_s, nth_rowv, nth_rowv0, nth_rowv1, rowv_len]
  exact Ret.mono (spec_l6Wrote_n (g5 := w.heap.size) (g6 := w.heap.size + 1) hle (by omega) (by omega) hS2 ha hb xs.length 0 _ _ (by omega) (by first | omega | assumption | rfl | exact congrArg i64 (by omega) | (simp; done) | (simp; omega)) (by first | omega | assumption | rfl | exact congrArg i64 (by omega) | (simp; done) | (simp; omega)) (by first | omega | assumption | rfl | exact congrArg i64 (by omega) | (simp; done) | (simp; omega)) (by first | omega | assumption | rfl | exact congrArg i64 (by omega) | (simp; done) | (simp; omega)) (by first | omega | assumption | rfl | exact congrArg i64 (by omega) | (simp; done) | (simp; omega)) (by (repeat (first | exact Ext.rfl | assumption | (refine Ext.al ?_ _) | (refine Ext.dw ?_) | (refine Ext.set ?_ (by first | omega | (simp only [World.size_alloc, size_setRow, dw_size]; omega)) _) | (refine Ext.tr ?_ (by assumption))))) (by first | assumption | rfl | (simp (maxSteps := 1000000) (disch := first | assumption | omega | (simp only [World.size_alloc, size_setRow, dw_size]; done) | (simp only [World.size_alloc, size_setRow, dw_size] <;> omega) | (simp only [List.length_set, Array.length_toList, List.length_cons, List.length_nil, List.length_append, bts_size] <;> omega) | (simp only [List.all_cons, List.all_nil, Value.oneCell', Bool.and_self, Bool.and_true]; done)) [-Option.bind_some, hp_alloc_lt, hp_alloc_eq, hp_set_ne, wrap_small, ups_ap_cons, ups_ap_nil, upd_same, upd_other, env0_ap0, env0_aps, xt_a, xt_b, xt_c]; done)) ⟨.slice none 0 0, (by first | assumption | rfl | (simp (maxSteps := 1000000) (disch := first | assumption | omega | (simp only [World.size_alloc, size_setRow, dw_size]; done) | (simp only [World.size_alloc, size_setRow, dw_size] <;> omega) | (simp only [List.length_set, Array.length_toList, List.length_cons, List.length_nil, List.length_append, bts_size] <;> omega) | (simp only [List.all_cons, List.all_nil, Value.oneCell', Bool.and_self, Bool.and_true]; done)) [-Option.bind_some, hp_alloc_lt, hp_alloc_eq, hp_set_ne, wrap_small, ups_ap_cons, ups_ap_nil, upd_same, upd_other, env0_ap0, env0_aps, xt_a, xt_b, xt_c]; done))⟩) hQ
theorem spec_l6Of_n {a : Option Addr} {c g3 : Nat} {S : Nat → Prop} {xs : List Done} {d0 : Done} {w0 : World} (ha : D tDones S w0 [.slice a xs.length c] xs) (X3 : hp w0 g3 = some (.cells (doneC d0).toArray 66 (0, 0))) :
    ∀ (d k : Nat) (e : Env) (w : World), k + d = xs.length → e 0 = .slice a xs.length c → e 3 = pt g3 0 → e 5 = i64 k → Ext w0 w →
    Ret (spec_l6Of_l1 e w) fun r => r.1 = .bool (match dfind (xs.drop k) d0.tag with | some x => x.key == d0.key | none => false) ∧ Ext w0 r.2 := by
  have y3 := hp_lt X3
  intro d
  induction d with
  | zero =>
    intro k e w hd e0 e3 e5 E0
    have zE0 := E0.size
    try simp only [World.size_alloc, size_setRow, dw_size] at zE0
    rw [spec_l6Of_l1_eq]
    obtain rfl : k = xs.length := by omega
    rw [List.drop_eq_nil_of_le (by omega)]
    refine Ret.post fun Q hQ => ?_
    simp (maxSteps := 1000000) (disch := first | assumption | omega | (simp only [World.size_alloc, size_setRow, dw_size]; done) | (simp only [World.size_alloc, size_setRow, dw_size] <;> omega) | (simp only [List.length_set, Array.length_toList, List.length_cons, List.length_nil, List.length_append, bts_size] <;> omega) | (simp only [List.all_cons, List.all_nil, Value.oneCell', Bool.and_self, Bool.and_true]; done)) [-Option.bind_some, hp_alloc_lt, hp_alloc_eq, hp_set_ne, wrap_small, ups_ap_cons, ups_ap_nil, upd_same, upd_other, env0_ap0, env0_aps, xt_a, xt_b, xt_c, -splice_eq, -stR_cells, stR_box, stR_boxA, stR_row, stR_row0, stR_row1, stR_rowA, stR_rowA0, splice_rowv, splice_rowv0, splice_rowv1, splice_z, splice_n, splice_s, nth_rowv, nth_rowv0, nth_rowv1, rowv_len, e0, e3, e5, e0, e3, e5, E0.blk]
    exact hQ _ ⟨rfl, by (repeat (first | exact Ext.rfl | assumption | (refine Ext.al ?_ _) | (refine Ext.dw ?_) | (refine Ext.set ?_ (by first | omega | (simp only [World.size_alloc, size_setRow, dw_size]; omega)) _) | (refine Ext.tr ?_ (by assumption))))⟩
  | succ d ih =>
    intro k e w hd e0 e3 e5 E0
    have zE0 := E0.size
    try simp only [World.size_alloc, size_setRow, dw_size] at zE0
    rw [spec_l6Of_l1_eq]
    have X3' := (E0.blk y3).trans X3
    have hlt : k < xs.length := by omega
    obtain ⟨x, hx, hdx⟩ := drop_at hlt
    have hn := ha.n
    obtain ⟨b1, o1, cs1, rfl, A1, D1, _, l1⟩ := (ha.ext E0).at (by decide) hx
    obtain rfl := D.done.1 D1
    have p0 := A1 0 _ rfl
    have p1 := A1 1 _ rfl
    have p2 := A1 2 _ rfl
    have p3 := A1 3 _ rfl
    have p4 := A1 4 _ rfl
    simp only [LVer_n, LTag_n, LNode_n, Nat.add_zero] at p0 p1 p2 p3 p4
    simp only [LDone_n] at p0 p1 p2 p3 p4
    rw [hdx, dfind]
    refine Ret.post fun Q hQ => ?_
    cases h1 : (x.kind == 1)
    · rw [h1, Bool.false_and] at hQ
      simp (maxSteps := 1000000) (disch := first | assumption | omega | (simp only [World.size_alloc, size_setRow, dw_size]; done) | (simp only [World.size_alloc, size_setRow, dw_size] <;> omega) | (simp only [List.length_set, Array.length_toList, List.length_cons, List.length_nil, List.length_append, bts_size] <;> omega) | (simp only [List.all_cons, List.all_nil, Value.oneCell', Bool.and_self, Bool.and_true]; done)) [-Option.bind_some, hp_alloc_lt, hp_alloc_eq, hp_set_ne, wrap_small, ups_ap_cons, ups_ap_nil, upd_same, upd_other, env0_ap0, env0_aps, xt_a, xt_b, xt_c, -splice_eq, -stR_cells, stR_box, stR_boxA, stR_row, stR_row0, stR_row1, stR_rowA, stR_rowA0, splice_rowv, splice_rowv0, splice_rowv1, splice_z, splice_n, splice_s, nth_rowv, nth_rowv0, nth_rowv1, rowv_len, e0, e3, e5, hlt, ia_25, X3', h1, e0, e3, e5, E0.blk, hlt, p0, p1, p2, p3, p4]
      exact Ret.mono (ih (k + 1) _ _ (by omega) (by first | omega | assumption | rfl | exact congrArg i64 (by omega) | (simp; done) | (simp; omega)) (by first | omega | assumption | rfl | exact congrArg i64 (by omega) | (simp; done) | (simp; omega)) (by first | omega | assumption | rfl | exact congrArg i64 (by omega) | (simp; done) | (simp; omega)) (by (repeat (first | exact Ext.rfl | assumption | (refine Ext.al ?_ _) | (refine Ext.dw ?_) | (refine Ext.set ?_ (by first | omega | (simp only [World.size_alloc, size_setRow, dw_size]; omega)) _) | (refine Ext.tr ?_ (by assumption)))))) (fun r h => hQ r (by simpa using h))
    · cases h2 : ((x.tag.t == d0.tag.t) && (x.tag.p == d0.tag.p))
      · rw [h1, h2] at hQ
        simp (maxSteps := 1000000) (disch := first | assumption | omega | (simp only [World.size_alloc, size_setRow, dw_size]; done) | (simp only [World.size_alloc, size_setRow, dw_size] <;> omega) | (simp only [List.length_set, Array.length_toList, List.length_cons, List.length_nil, List.length_append, bts_size] <;> omega) | (simp only [List.all_cons, List.all_nil, Value.oneCell', Bool.and_self, Bool.and_true]; done)) [-Option.bind_some, hp_alloc_lt, hp_alloc_eq, hp_set_ne, wrap_small, ups_ap_cons, ups_ap_nil, upd_same, upd_other, env0_ap0, env0_aps, xt_a, xt_b, xt_c, -splice_eq, -stR_cells, stR_box, stR_boxA, stR_row, stR_row0, stR_row1, stR_rowA, stR_rowA0, splice_rowv, splice_rowv0, splice_rowv1, splice_z, splice_n, splice_s, nth_rowv, nth_rowv0, nth_rowv1, rowv_len, e0, e3, e5, hlt, ia_25, X3', h1, h2, e0, e3, e5, E0.blk, hlt, p0, p1, p2, p3, p4]
        exact Ret.mono (ih (k + 1) _ _ (by omega) (by first | omega | assumption | rfl | exact congrArg i64 (by omega) | (simp; done) | (simp; omega)) (by first | omega | assumption | rfl | exact congrArg i64 (by omega) | (simp; done) | (simp; omega)) (by first | omega | assumption | rfl | exact congrArg i64 (by omega) | (simp; done) | (simp; omega)) (by (repeat (first | exact Ext.rfl | assumption | (refine Ext.al ?_ _) | (refine Ext.dw ?_) | (refine Ext.set ?_ (by first | omega | (simp only [World.size_alloc, size_setRow, dw_size]; omega)) _) | (refine Ext.tr ?_ (by assumption)))))) (fun r h => hQ r (by simpa using h))
      · rw [h1, h2] at hQ
        simp (maxSteps := 1000000) (disch := first | assumption | omega | (simp only [World.size_alloc, size_setRow, dw_size]; done) | (simp only [World.size_alloc, size_setRow, dw_size] <;> omega) | (simp only [List.length_set, Array.length_toList, List.length_cons, List.length_nil, List.length_append, bts_size] <;> omega) | (simp only [List.all_cons, List.all_nil, Value.oneCell', Bool.and_self, Bool.and_true]; done)) [-Option.bind_some, hp_alloc_lt, hp_alloc_eq, hp_set_ne, wrap_small, ups_ap_cons, ups_ap_nil, upd_same, upd_other, env0_ap0, env0_aps, xt_a, xt_b, xt_c, -splice_eq, -stR_cells, stR_box, stR_boxA, stR_row, stR_row0, stR_row1, stR_rowA, stR_rowA0, splice_rowv, splice_rowv0, splice_rowv1, splice_z, splice_n, splice_s, nth_rowv, nth_rowv0, nth_rowv1, rowv_len, e0, e3, e5, hlt, ia_25, X3', h1, h2, e0, e3, e5, E0.blk, hlt, p0, p1, p2, p3, p4]
        exact hQ _ ⟨rfl, by (repeat (first | exact Ext.rfl | assumption | (refine Ext.al ?_ _) | (refine Ext.dw ?_) | (refine Ext.set ?_ (by first | omega | (simp only [World.size_alloc, size_setRow, dw_size]; omega)) _) | (refine Ext.tr ?_ (by assumption))))⟩
theorem spec_l6Of_m {a : Option Addr} {n c : Nat} {S : Nat → Prop} {xs : List Done} {d0 : Done} {w : World} (ha : D tDones S w [.slice a n c] xs) :
    Ret (EV P 86 #[.slice a n c, .agg (doneC d0).toArray] w) fun r => r.1 = .bool (match dfind xs d0.tag with | some x => x.key == d0.key | none => false) ∧ Ext w r.2 := by
  obtain ⟨rfl, hm, _⟩ := ha.n
  refine Ret.post fun Q hQ => ?_
  refine Ret.enter plain mixed (spec_l6Of_fn _ _ _) (by kernel_rfl) (n := 2) (by kernel_rfl) rfl ?_
  simp (maxSteps := 1000000) (disch := first | assumption | omega | (simp only [World.size_alloc, size_setRow, dw_size]; done) | (simp only [World.size_alloc, size_setRow, dw_size] <;> omega) | (simp only [List.length_set, Array.length_toList, List.length_cons, List.length_nil, List.length_append, bts_size] <;> omega) | (simp only [List.all_cons, List.all_nil, Value.oneCell', Bool.and_self, Bool.and_true]; done)) [-Option.bind_some, hp_alloc_lt, hp_alloc_eq, hp_set_ne, wrap_small, ups_ap_cons, ups_ap_nil, upd_same, upd_other, env0_ap0, env0_aps, xt_a, xt_b, xt_c, -splice_eq, -stR_cells, stR_box, stR_boxA, stR_row, stR_row0, stR_row1, stR_rowA, stR_rowA0, splice_rowv, splice_rowv0, splice_rowv1, splice_z, splice_n, splice_s, nth_rowv, nth_rowv0, nth_rowv1, rowv_len]
  have E0 : Ext w (w.alloc (.cells (doneC d0).toArray 66)) := by (repeat (first | exact Ext.rfl | assumption | (refine Ext.al ?_ _) | (refine Ext.dw ?_) | (refine Ext.set ?_ (by first | omega | (simp only [World.size_alloc, size_setRow, dw_size]; omega)) _) | (refine Ext.tr ?_ (by assumption))))
  have zE0 := E0.size
  try simp only [World.size_alloc, size_setRow, dw_size] at zE0
  exact Ret.mono (spec_l6Of_n (g3 := w.heap.size) (ha.ext E0) (by first | assumption | rfl | (simp (maxSteps := 1000000) (disch := first | assumption | omega | (simp only [World.size_alloc, size_setRow, dw_size]; done) | (simp only [World.size_alloc, size_setRow, dw_size] <;> omega) | (simp only [List.length_set, Array.length_toList, List.length_cons, List.length_nil, List.length_append, bts_size] <;> omega) | (simp only [List.all_cons, List.all_nil, Value.oneCell', Bool.and_self, Bool.and_true]; done)) [-Option.bind_some, hp_alloc_lt, hp_alloc_eq, hp_set_ne, wrap_small, ups_ap_cons, ups_ap_nil, upd_same, upd_other, env0_ap0, env0_aps, xt_a, xt_b, xt_c, E0.blk]; done)) xs.length 0 _ _ (by omega) (by first | omega | assumption | rfl | exact congrArg i64 (by omega) | (simp; done) | (simp; omega)) (by first | omega | assumption | rfl | exact congrArg i64 (by omega) | (simp; done) | (simp; omega)) (by first | omega | assumption | rfl | exact congrArg i64 (by omega) | (simp; done) | (simp; omega)) Ext.rfl) (fun r h => hQ r ⟨h.1, E0.tr h.2⟩)
theorem spec_l6Own_n {a : Option Addr} {c g3 : Nat} {S : Nat → Prop} {xs : List Done} {d0 : Done} {w0 : World} (ha : D tDones S w0 [.slice a xs.length c] xs) (X3 : hp w0 g3 = some (.cells (doneC d0).toArray 66 (0, 0))) :
    ∀ (d k : Nat) (e : Env) (w : World), k + d = xs.length → e 0 = .slice a xs.length c → e 3 = pt g3 0 → e 5 = i64 k → Ext w0 w →
    Ret (spec_l6Own_l1 e w) fun r => r.1 = .bool (match dfind (xs.drop k) d0.tag with | some x => x.sess == d0.sess | none => false) ∧ Ext w0 r.2 := by
  have y3 := hp_lt X3
  intro d
  induction d with
  | zero =>
    intro k e w hd e0 e3 e5 E0
    have zE0 := E0.size
    try simp only [World.size_alloc, size_setRow, dw_size] at zE0
    rw [spec_l6Own_l1_eq]
    obtain rfl : k = xs.length := by omega
    rw [List.drop_eq_nil_of_le (by omega)]
    refine Ret.post fun Q hQ => ?_
    simp (maxSteps := 1000000) (disch := first | assumption | omega | (simp only [World.size_alloc, size_setRow, dw_size]; done) | (simp only [World.size_alloc, size_setRow, dw_size] <;> omega) | (simp only [List.length_set, Array.length_toList, List.length_cons, List.length_nil, List.length_append, bts_size] <;> omega) | (simp only [List.all_cons, List.all_nil, Value.oneCell', Bool.and_self, Bool.and_true]; done)) [-Option.bind_some, hp_alloc_lt, hp_alloc_eq, hp_set_ne, wrap_small, ups_ap_cons, ups_ap_nil, upd_same, upd_other, env0_ap0, env0_aps, xt_a, xt_b, xt_c, -splice_eq, -stR_cells, stR_box, stR_boxA, stR_row, stR_row0, stR_row1, stR_rowA, stR_rowA0, splice_rowv, splice_rowv0, splice_rowv1, splice_z, splice_n, splice_s, nth_rowv, nth_rowv0, nth_rowv1, rowv_len, e0, e3, e5, e0, e3, e5, E0.blk]
    exact hQ _ ⟨rfl, by (repeat (first | exact Ext.rfl | assumption | (refine Ext.al ?_ _) | (refine Ext.dw ?_) | (refine Ext.set ?_ (by first | omega | (simp only [World.size_alloc, size_setRow, dw_size]; omega)) _) | (refine Ext.tr ?_ (by assumption))))⟩
  | succ d ih =>
    intro k e w hd e0 e3 e5 E0
    have zE0 := E0.size
    try simp only [World.size_alloc, size_setRow, dw_size] at zE0
    rw [spec_l6Own_l1_eq]
    have X3' := (E0.blk y3).trans X3
    have hlt : k < xs.length := by omega
    obtain ⟨x, hx, hdx⟩ := drop_at hlt
    have hn := ha.n
    obtain ⟨b1, o1, cs1, rfl, A1, D1, _, l1⟩ := (ha.ext E0).at (by decide) hx
    obtain rfl := D.done.1 D1
    have p0 := A1 0 _ rfl
    have p1 := A1 1 _ rfl
    have p2 := A1 2 _ rfl
    have p3 := A1 3 _ rfl
    have p4 := A1 4 _ rfl
    simp only [LVer_n, LTag_n, LNode_n, Nat.add_zero] at p0 p1 p2 p3 p4
    simp only [LDone_n] at p0 p1 p2 p3 p4
    rw [hdx, dfind]
    refine Ret.post fun Q hQ => ?_
    cases h1 : (x.kind == 1)
    · rw [h1, Bool.false_and] at hQ
      simp (maxSteps := 1000000) (disch := first | assumption | omega | (simp only [World.size_alloc, size_setRow, dw_size]; done) | (simp only [World.size_alloc, size_setRow, dw_size] <;> omega) | (simp only [List.length_set, Array.length_toList, List.length_cons, List.length_nil, List.length_append, bts_size] <;> omega) | (simp only [List.all_cons, List.all_nil, Value.oneCell', Bool.and_self, Bool.and_true]; done)) [-Option.bind_some, hp_alloc_lt, hp_alloc_eq, hp_set_ne, wrap_small, ups_ap_cons, ups_ap_nil, upd_same, upd_other, env0_ap0, env0_aps, xt_a, xt_b, xt_c, -splice_eq, -stR_cells, stR_box, stR_boxA, stR_row, stR_row0, stR_row1, stR_rowA, stR_rowA0, splice_rowv, splice_rowv0, splice_rowv1, splice_z, splice_n, splice_s, nth_rowv, nth_rowv0, nth_rowv1, rowv_len, e0, e3, e5, hlt, ia_25, X3', h1, e0, e3, e5, E0.blk, hlt, p0, p1, p2, p3, p4]
      exact Ret.mono (ih (k + 1) _ _ (by omega) (by first | omega | assumption | rfl | exact congrArg i64 (by omega) | (simp; done) | (simp; omega)) (by first | omega | assumption | rfl | exact congrArg i64 (by omega) | (simp; done) | (simp; omega)) (by first | omega | assumption | rfl | exact congrArg i64 (by omega) | (simp; done) | (simp; omega)) (by (repeat (first | exact Ext.rfl | assumption | (refine Ext.al ?_ _) | (refine Ext.dw ?_) | (refine Ext.set ?_ (by first | omega | (simp only [World.size_alloc, size_setRow, dw_size]; omega)) _) | (refine Ext.tr ?_ (by assumption)))))) (fun r h => hQ r (by simpa using h))
    · cases h2 : ((x.tag.t == d0.tag.t) && (x.tag.p == d0.tag.p))
      · rw [h1, h2] at hQ
        simp (maxSteps := 1000000) (disch := first | assumption | omega | (simp only [World.size_alloc, size_setRow, dw_size]; done) | (simp only [World.size_alloc, size_setRow, dw_size] <;> omega) | (simp only [List.length_set, Array.length_toList, List.length_cons, List.length_nil, List.length_append, bts_size] <;> omega) | (simp only [List.all_cons, List.all_nil, Value.oneCell', Bool.and_self, Bool.and_true]; done)) [-Option.bind_some, hp_alloc_lt, hp_alloc_eq, hp_set_ne, wrap_small, ups_ap_cons, ups_ap_nil, upd_same, upd_other, env0_ap0, env0_aps, xt_a, xt_b, xt_c, -splice_eq, -stR_cells, stR_box, stR_boxA, stR_row, stR_row0, stR_row1, stR_rowA, stR_rowA0, splice_rowv, splice_rowv0, splice_rowv1, splice_z, splice_n, splice_s, nth_rowv, nth_rowv0, nth_rowv1, rowv_len, e0, e3, e5, hlt, ia_25, X3', h1, h2, e0, e3, e5, E0.blk, hlt, p0, p1, p2, p3, p4]
        exact Ret.mono (ih (k + 1) _ _ (by omega) (by first | omega | assumption | rfl | exact congrArg i64 (by omega) | (simp; done) | (simp; omega)) (by first | omega | assumption | rfl | exact congrArg i64 (by omega) | (simp; done) | (simp; omega)) (by first | omega | assumption | rfl | exact congrArg i64 (by omega) | (simp; done) | (simp; omega)) (by (repeat (first | exact Ext.rfl | assumption | (refine Ext.al ?_ _) | (refine Ext.dw ?_) | (refine Ext.set ?_ (by first | omega | (simp only [World.size_alloc, size_setRow, dw_size]; omega)) _) | (refine Ext.tr ?_ (by assumption)))))) (fun r h => hQ r (by simpa using h))
      · rw [h1, h2] at hQ
        simp (maxSteps := 1000000) (disch := first | assumption | omega | (simp only [World.size_alloc, size_setRow, dw_size]; done) | (simp only [World.size_alloc, size_setRow, dw_size] <;> omega) | (simp only [List.length_set, Array.length_toList, List.length_cons, List.length_nil, List.length_append, bts_size] <;> omega) | (simp only [List.all_cons, List.all_nil, Value.oneCell', Bool.and_self, Bool.and_true]; done)) [-Option.bind_some, hp_alloc_lt, hp_alloc_eq, hp_set_ne, wrap_small, ups_ap_cons, ups_ap_nil, upd_same, upd_other, env0_ap0, env0_aps, xt_a, xt_b, xt_c, -splice_eq, -stR_cells, stR_box, stR_boxA, stR_row, stR_row0, stR_row1, stR_rowA, stR_rowA0, splice_rowv, splice_rowv0, splice_rowv1, splice_z, splice_n, splice_s, nth_rowv, nth_rowv0, nth_rowv1, rowv_len, e0, e3, e5, hlt, ia_25, X3', h1, h2, e0, e3, e5, E0.blk, hlt, p0, p1, p2, p3, p4]
        exact hQ _ ⟨rfl, by (repeat (first | exact Ext.rfl | assumption | (refine Ext.al ?_ _) | (refine Ext.dw ?_) | (refine Ext.set ?_ (by first | omega | (simp only [World.size_alloc, size_setRow, dw_size]; omega)) _) | (refine Ext.tr ?_ (by assumption))))⟩
theorem spec_l6Own_m {a : Option Addr} {n c : Nat} {S : Nat → Prop} {xs : List Done} {d0 : Done} {w : World} (ha : D tDones S w [.slice a n c] xs) :
    Ret (EV P 87 #[.slice a n c, .agg (doneC d0).toArray] w) fun r => r.1 = .bool (match dfind xs d0.tag with | some x => x.sess == d0.sess | none => false) ∧ Ext w r.2 := by
  obtain ⟨rfl, hm, _⟩ := ha.n
  refine Ret.post fun Q hQ => ?_
  refine Ret.enter plain mixed (spec_l6Own_fn _ _ _) (by kernel_rfl) (n := 2) (by kernel_rfl) rfl ?_
  simp (maxSteps := 1000000) (disch := first | assumption | omega | (simp only [World.size_alloc, size_setRow, dw_size]; done) | (simp only [World.size_alloc, size_setRow, dw_size] <;> omega) | (simp only [List.length_set, Array.length_toList, List.length_cons, List.length_nil, List.length_append, bts_size] <;> omega) | (simp only [List.all_cons, List.all_nil, Value.oneCell', Bool.and_self, Bool.and_true]; done)) [-Option.bind_some, hp_alloc_lt, hp_alloc_eq, hp_set_ne, wrap_small, ups_ap_cons, ups_ap_nil, upd_same, upd_other, env0_ap0, env0_aps, xt_a, xt_b, xt_c, -splice_eq, -stR_cells, stR_box, stR_boxA, stR_row, stR_row0, stR_row1, stR_rowA, stR_rowA0, splice_rowv, splice_rowv0, splice_rowv1, splice_z, splice_n, splice_s, nth_rowv, nth_rowv0, nth_rowv1, rowv_len]
  have E0 : Ext w (w.alloc (.cells (doneC d0).toArray 66)) := by (repeat (first | exact Ext.rfl | assumption | (refine Ext.al ?_ _) | (refine Ext.dw ?_) | (refine Ext.set ?_ (by first | omega | (simp only [World.size_alloc, size_setRow, dw_size]; omega)) _) | (refine Ext.tr ?_ (by assumption))))
  have zE0 := E0.size
  try simp only [World.size_alloc, size_setRow, dw_size] at zE0
  exact Ret.mono (spec_l6Own_n (g3 := w.heap.size) (ha.ext E0) (by first | assumption | rfl | (simp (maxSteps := 1000000) (disch := first | assumption | omega | (simp only [World.size_alloc, size_setRow, dw_size]; done) | (simp only [World.size_alloc, size_setRow, dw_size] <;> omega) | (simp only [List.length_set, Array.length_toList, List.length_cons, List.length_nil, List.length_append, bts_size] <;> omega) | (simp only [List.all_cons, List.all_nil, Value.oneCell', Bool.and_self, Bool.and_true]; done)) [-Option.bind_some, hp_alloc_lt, hp_alloc_eq, hp_set_ne, wrap_small, ups_ap_cons, ups_ap_nil, upd_same, upd_other, env0_ap0, env0_aps, xt_a, xt_b, xt_c, E0.blk]; done)) xs.length 0 _ _ (by omega) (by first | omega | assumption | rfl | exact congrArg i64 (by omega) | (simp; done) | (simp; omega)) (by first | omega | assumption | rfl | exact congrArg i64 (by omega) | (simp; done) | (simp; omega)) (by first | omega | assumption | rfl | exact congrArg i64 (by omega) | (simp; done) | (simp; omega)) Ext.rfl) (fun r h => hQ r ⟨h.1, E0.tr h.2⟩)
theorem spec_l1Join_m {a b : Option Addr} {c c' : Nat} {S S' : Nat → Prop} {xs ys : List Tag} {w : World} (hx : xs.length = 4) (hy : ys.length = 4) (ha : D tTags S w [.slice a xs.length c] xs) (hb : D tTags S' w [.slice b ys.length c'] ys) :
    Ret (EV P 89 #[.agg #[.slice a xs.length c], .agg #[.slice b ys.length c']] w) fun r => ∃ a2 c2, r.1 = .agg #[.slice a2 (joinT xs ys).length c2] ∧ O tTags (In w.heap.size r.2.heap.size) r.2 [.slice a2 (joinT xs ys).length c2] (joinT xs ys) ∧ Ext w r.2 := by
  refine Ret.mono (spec_l1Join_c hx hy ha.rTags hb.rTags) ?_
  rintro r ⟨s', h1, h2, h3⟩
  obtain ⟨a2, c2, hs, h4⟩ := (tags_o h2).sl'
  simp only [List.cons.injEq, and_true] at hs
  subst hs
  exact ⟨a2, c2, h1, h4, h3⟩
theorem impl_Past_join_m {a b : Option Addr} {c c' : Nat} {S S' : Nat → Prop} {xs ys : List Tag} {w : World} (hl : xs.length = ys.length) (ha : D tTags S w [.slice a xs.length c] xs) (hb : D tTags S' w [.slice b ys.length c'] ys) :
    Ret (EV P 115 #[.agg #[.slice a xs.length c], .agg #[.slice b ys.length c']] w) fun r => ∃ a2 c2, r.1 = .agg #[.slice a2 (joinT xs ys).length c2] ∧ O tTags (In w.heap.size r.2.heap.size) r.2 [.slice a2 (joinT xs ys).length c2] (joinT xs ys) ∧ Ext w r.2 := by
  refine Ret.mono (impl_Past_join_c hl ha.rTags hb.rTags) ?_
  rintro r ⟨s', h1, h2, h3⟩
  obtain ⟨a2, c2, hs, h4⟩ := (tags_o h2).sl'
  simp only [List.cons.injEq, and_true] at hs
  subst hs
  exact ⟨a2, c2, h1, h4, h3⟩
end Go.Proofs.Ytcafhepclddcaaa.X
set_option linter.unusedVariables false
set_option linter.unusedSimpArgs false
set_option maxRecDepth 100000
set_option maxHeartbeats 1000000
namespace Go.Proofs.Ytcafhepclddcaaa.X
open Go Go.Ev Go.RowKit
theorem spec_l1With_m {a : Option Addr} {c : Nat} {S : Nat → Prop} {xs : List Tag} {t : Tag} {k : Nat} {w : World} (hk : k < xs.length) (ha : D tTags S w [.slice a xs.length c] xs) :
    Ret (EV P 88 #[.agg #[.slice a xs.length c], i64 k, .agg #[i64 t.t, i64 t.p]] w) fun r => ∃ a2 c2, r.1 = .agg #[.slice a2 (withT xs k t).length c2] ∧ O tTags (In w.heap.size r.2.heap.size) r.2 [.slice a2 (withT xs k t).length c2] (withT xs k t) ∧ Ext w r.2 := by
  have hn := ha.n
  rw [withT_len]
  refine Ret.post fun Q hQ => ?_
  refine Ret.enter plain mixed (spec_l1With_fn _ _ _ _) (by kernel_rfl) (n := 3) (by kernel_rfl) rfl ?_
  simp (maxSteps := 1000000) (disch := first | assumption | omega | (simp only [World.size_alloc, size_setRow, dw_size]; done) | (simp only [World.size_alloc, size_setRow, dw_size] <;> omega) | (simp only [List.length_set, Array.length_toList, List.length_cons, List.length_nil, List.length_append, bts_size] <;> omega) | (simp only [List.all_cons, List.all_nil, Value.oneCell', Bool.and_self, Bool.and_true]; done)) [-Option.bind_some, hp_alloc_lt, hp_alloc_eq, hp_set_ne, wrap_small, ups_ap_cons, ups_ap_nil, upd_same, upd_other, env0_ap0, env0_aps, xt_a, xt_b, xt_c, -splice_eq, -stR_cells, stR_box, stR_boxA, stR_row, stR_row0, stR_row1, stR_rowA, stR_rowA0, splice_rowv, splice_rowv0, splice_rowv1, splice_z, splice_n, splice_s, nth_rowv, nth_rowv0, nth_rowv1, rowv_len]
  refine Ret.bind (O.appD (L := LTag) (mx := 8796093021952) flat_tag el_30 zz_42 rfl (by decide) (O.empty (g := w.heap.size + 1 + 1 + 1) (by first | assumption | rfl | (simp (maxSteps := 1000000) (disch := first | assumption | omega | (simp only [World.size_alloc, size_setRow, dw_size]; done) | (simp only [World.size_alloc, size_setRow, dw_size] <;> omega) | (simp only [List.length_set, Array.length_toList, List.length_cons, List.length_nil, List.length_append, bts_size] <;> omega) | (simp only [List.all_cons, List.all_nil, Value.oneCell', Bool.and_self, Bool.and_true]; done)) [-Option.bind_some, hp_alloc_lt, hp_alloc_eq, hp_set_ne, wrap_small, ups_ap_cons, ups_ap_nil, upd_same, upd_other, env0_ap0, env0_aps, xt_a, xt_b, xt_c]; done))) (ha.ext (by (repeat (first | exact Ext.rfl | assumption | (refine Ext.al ?_ _) | (refine Ext.dw ?_) | (refine Ext.set ?_ (by first | omega | (simp only [World.size_alloc, size_setRow, dw_size]; omega)) _) | (refine Ext.tr ?_ (by assumption)))))) (by simp; omega) (by decide) (by decide)) ?_
  rintro ⟨_, w1⟩ ⟨a1, c1, rfl, o1, M1⟩
  have zM1 := M1.size
  try simp only [World.size_alloc, size_setRow, dw_size] at zM1
  try dsimp only at o1 M1
  have zM1 := M1.size
  simp only [World.size_alloc, List.nil_append, List.length_nil, Nat.zero_add] at o1 zM1
  have X1 := M1.blk w.heap.size (by simp only [World.size_alloc]; omega) (by omega)
  have X2 := M1.blk (w.heap.size + 1) (by simp only [World.size_alloc]; omega) (by omega)
  have X3 := M1.blk (w.heap.size + 1 + 1) (by simp only [World.size_alloc]; omega) (by omega)
  have F1 : Ext w w1 := Mod.after (a := w) (by (repeat (first | exact Ext.rfl | assumption | (refine Ext.al ?_ _) | (refine Ext.dw ?_) | (refine Ext.set ?_ (by first | omega | (simp only [World.size_alloc, size_setRow, dw_size]; omega)) _) | (refine Ext.tr ?_ (by assumption))))) M1 (by intro x hx h; omega)
  obtain ⟨x, hx, _⟩ := drop_at hk
  have hgd : xs.getD k ⟨0, 0⟩ = x := by rw [List.getD_eq_getElem?_getD, hx]; rfl
  obtain ⟨g, cur, cs, S1, rfl, hSg, hgl, hg, hle, hx1, hS1, put⟩ := o1.row (by decide) hx
  obtain rfl := O.tag.1 hx1
  simp only [LTag_n] at hg hle put
  have hg3 : w.heap.size + 1 + 1 + 1 ≤ g := by rcases hSg with h | h <;> omega
  have hk0 : (k : Int) < xs.length := by omega
  simp (maxSteps := 1000000) (disch := first | assumption | omega | (simp only [World.size_alloc, size_setRow, dw_size]; done) | (simp only [World.size_alloc, size_setRow, dw_size] <;> omega) | (simp only [List.length_set, Array.length_toList, List.length_cons, List.length_nil, List.length_append, bts_size] <;> omega) | (simp only [List.all_cons, List.all_nil, Value.oneCell', Bool.and_self, Bool.and_true]; done)) [-Option.bind_some, hp_alloc_lt, hp_alloc_eq, hp_set_ne, wrap_small, ups_ap_cons, ups_ap_nil, upd_same, upd_other, env0_ap0, env0_aps, xt_a, xt_b, xt_c, -splice_eq, -stR_cells, stR_box, stR_boxA, stR_row, stR_row0, stR_row1, stR_rowA, stR_rowA0, splice_rowv, splice_rowv0, splice_rowv1, splice_z, splice_n, splice_s, nth_rowv, nth_rowv0, nth_rowv1, rowv_len, hk, hk0, ia_30, hg, M1.blk, X1, X2, X3, hg, hg3]
  refine Ret.bind (spec_l1Max_c x t _) ?_
  rintro ⟨_, w2⟩ ⟨rfl, E2⟩
  try dsimp only at E2
  have zE2 := E2.size
  try simp only [World.size_alloc, size_setRow, dw_size] at zE2
  simp (maxSteps := 1000000) (disch := first | assumption | omega | (simp only [World.size_alloc, size_setRow, dw_size]; done) | (simp only [World.size_alloc, size_setRow, dw_size] <;> omega) | (simp only [List.length_set, Array.length_toList, List.length_cons, List.length_nil, List.length_append, bts_size] <;> omega) | (simp only [List.all_cons, List.all_nil, Value.oneCell', Bool.and_self, Bool.and_true]; done)) [-Option.bind_some, hp_alloc_lt, hp_alloc_eq, hp_set_ne, wrap_small, ups_ap_cons, ups_ap_nil, upd_same, upd_other, env0_ap0, env0_aps, xt_a, xt_b, xt_c, -splice_eq, -stR_cells, stR_box, stR_boxA, stR_row, stR_row0, stR_row1, stR_rowA, stR_rowA0, splice_rowv, splice_rowv0, splice_rowv1, splice_z, splice_n, splice_s, nth_rowv, nth_rowv0, nth_rowv1, rowv_len, hk, hk0, ia_30, hg, M1.blk, X1, X2, X3, hg, hg3, E2.blk]
  have hset : withT xs k t = xs.set k (tagMax x t) := by unfold withT; rw [hgd]
  have E12 : Ext w w2 := by (repeat (first | exact Ext.rfl | assumption | (refine Ext.al ?_ _) | (refine Ext.dw ?_) | (refine Ext.set ?_ (by first | omega | (simp only [World.size_alloc, size_setRow, dw_size]; omega)) _) | (refine Ext.tr ?_ (by assumption))))
  have zE12 := E12.size
  try simp only [World.size_alloc, size_setRow, dw_size] at zE12
  refine hQ _ ⟨_, _, rfl, ?_, Ext.set (Ext.set E12 (by omega) _) (by omega) _⟩
  rw [hset]
  refine O.wide (put _ _ (tagMax x t) (fun _ => False) (O.tag.2 rfl) (by first | assumption | rfl | (simp (maxSteps := 1000000) (disch := first | assumption | omega | (simp only [World.size_alloc, size_setRow, dw_size]; done) | (simp only [World.size_alloc, size_setRow, dw_size] <;> omega) | (simp only [List.length_set, Array.length_toList, List.length_cons, List.length_nil, List.length_append, bts_size] <;> omega) | (simp only [List.all_cons, List.all_nil, Value.oneCell', Bool.and_self, Bool.and_true]; done)) [-Option.bind_some, hp_alloc_lt, hp_alloc_eq, hp_set_ne, wrap_small, ups_ap_cons, ups_ap_nil, upd_same, upd_other, env0_ap0, env0_aps, xt_a, xt_b, xt_c, -splice_eq, -stR_cells, stR_box, stR_boxA, stR_row, stR_row0, stR_row1, stR_rowA, stR_rowA0, splice_rowv, splice_rowv0, splice_rowv1, splice_z, splice_n, splice_s, nth_rowv, nth_rowv0, nth_rowv1, rowv_len, hg, M1.blk, X1, X2, X3, hg, hg3, E2.blk, E12.blk]; done)) (by intro b _ _ _ _; first | rfl | (simp (disch := first | assumption | omega | (simp only [World.size_alloc, size_setRow, dw_size]; omega) | (simp only [World.size_alloc, size_setRow, dw_size, In]; omega)) only [M1.blk, E2.blk, E12.blk, hp_alloc_lt, hp_set_ne, hp_dw]; done)) (fun _ _ h => h.elim)) ?_
  intro b h hb
  (try dsimp only at hb)
  simp only [size_setRow, World.size_alloc, In] at *
  rcases h with (h | h) | h
  · omega
  · omega
  · exact h.elim
theorem impl_Past_with_m {a : Option Addr} {c : Nat} {S : Nat → Prop} {xs : List Tag} {t : Tag} {k : Nat} {w : World} (hk : k < xs.length) (ha : D tTags S w [.slice a xs.length c] xs) :
    Ret (EV P 116 #[.agg #[.slice a xs.length c], i64 k, .agg #[i64 t.t, i64 t.p]] w) fun r => ∃ a2 c2, r.1 = .agg #[.slice a2 (withT xs k t).length c2] ∧ O tTags (In w.heap.size r.2.heap.size) r.2 [.slice a2 (withT xs k t).length c2] (withT xs k t) ∧ Ext w r.2 := by
  have hn := ha.n
  rw [withT_len]
  refine Ret.post fun Q hQ => ?_
  refine Ret.enter plain mixed (impl_Past_with_fn _ _ _ _) (by kernel_rfl) (n := 3) (by kernel_rfl) rfl ?_
  simp (maxSteps := 1000000) (disch := first | assumption | omega | (simp only [World.size_alloc, size_setRow, dw_size]; done) | (simp only [World.size_alloc, size_setRow, dw_size] <;> omega) | (simp only [List.length_set, Array.length_toList, List.length_cons, List.length_nil, List.length_append, bts_size] <;> omega) | (simp only [List.all_cons, List.all_nil, Value.oneCell', Bool.and_self, Bool.and_true]; done)) [-Option.bind_some, hp_alloc_lt, hp_alloc_eq, hp_set_ne, wrap_small, ups_ap_cons, ups_ap_nil, upd_same, upd_other, env0_ap0, env0_aps, xt_a, xt_b, xt_c, -splice_eq, -stR_cells, stR_box, stR_boxA, stR_row, stR_row0, stR_row1, stR_rowA, stR_rowA0, splice_rowv, splice_rowv0, splice_rowv1, splice_z, splice_n, splice_s, nth_rowv, nth_rowv0, nth_rowv1, rowv_len]
  refine Ret.bind (impl_Past_copied_n (ha.ext (by (repeat (first | exact Ext.rfl | assumption | (refine Ext.al ?_ _) | (refine Ext.dw ?_) | (refine Ext.set ?_ (by first | omega | (simp only [World.size_alloc, size_setRow, dw_size]; omega)) _) | (refine Ext.tr ?_ (by assumption))))))) ?_
  rintro ⟨_, w1⟩ ⟨a1, c1, rfl, o1, E1⟩
  try dsimp only at a1 c1 o1 E1
  have zE1 := E1.size
  try simp only [World.size_alloc, size_setRow, dw_size] at zE1
  have F1 : Ext w w1 := by (repeat (first | exact Ext.rfl | assumption | (refine Ext.al ?_ _) | (refine Ext.dw ?_) | (refine Ext.set ?_ (by first | omega | (simp only [World.size_alloc, size_setRow, dw_size]; omega)) _) | (refine Ext.tr ?_ (by assumption))))
  obtain ⟨x, hx, _⟩ := drop_at hk
  have hgd : xs.getD k ⟨0, 0⟩ = x := by rw [List.getD_eq_getElem?_getD, hx]; rfl
  obtain ⟨g, cur, cs, S1, rfl, hSg, hgl, hg, hle, hx1, hS1, put⟩ := o1.row (by decide) hx
  obtain rfl := O.tag.1 hx1
  simp only [LTag_n] at hg hle put
  simp only [In, World.size_alloc] at hSg
  have hk0 : (k : Int) < xs.length := by omega
  simp (maxSteps := 1000000) (disch := first | assumption | omega | (simp only [World.size_alloc, size_setRow, dw_size]; done) | (simp only [World.size_alloc, size_setRow, dw_size] <;> omega) | (simp only [List.length_set, Array.length_toList, List.length_cons, List.length_nil, List.length_append, bts_size] <;> omega) | (simp only [List.all_cons, List.all_nil, Value.oneCell', Bool.and_self, Bool.and_true]; done)) [-Option.bind_some, hp_alloc_lt, hp_alloc_eq, hp_set_ne, wrap_small, ups_ap_cons, ups_ap_nil, upd_same, upd_other, env0_ap0, env0_aps, xt_a, xt_b, xt_c, -splice_eq, -stR_cells, stR_box, stR_boxA, stR_row, stR_row0, stR_row1, stR_rowA, stR_rowA0, splice_rowv, splice_rowv0, splice_rowv1, splice_z, splice_n, splice_s, nth_rowv, nth_rowv0, nth_rowv1, rowv_len, hk, hk0, ia_30, hg, E1.blk, hg]
  refine Ret.bind (impl_TagMax_c x t _) ?_
  rintro ⟨_, w2⟩ ⟨rfl, E2⟩
  try dsimp only at E2
  have zE2 := E2.size
  try simp only [World.size_alloc, size_setRow, dw_size] at zE2
  simp (maxSteps := 1000000) (disch := first | assumption | omega | (simp only [World.size_alloc, size_setRow, dw_size]; done) | (simp only [World.size_alloc, size_setRow, dw_size] <;> omega) | (simp only [List.length_set, Array.length_toList, List.length_cons, List.length_nil, List.length_append, bts_size] <;> omega) | (simp only [List.all_cons, List.all_nil, Value.oneCell', Bool.and_self, Bool.and_true]; done)) [-Option.bind_some, hp_alloc_lt, hp_alloc_eq, hp_set_ne, wrap_small, ups_ap_cons, ups_ap_nil, upd_same, upd_other, env0_ap0, env0_aps, xt_a, xt_b, xt_c, -splice_eq, -stR_cells, stR_box, stR_boxA, stR_row, stR_row0, stR_row1, stR_rowA, stR_rowA0, splice_rowv, splice_rowv0, splice_rowv1, splice_z, splice_n, splice_s, nth_rowv, nth_rowv0, nth_rowv1, rowv_len, hk, hk0, ia_30, hg, E1.blk, hg, E2.blk]
  have hset : withT xs k t = xs.set k (tagMax x t) := by unfold withT; rw [hgd]
  have E12 : Ext w w2 := by (repeat (first | exact Ext.rfl | assumption | (refine Ext.al ?_ _) | (refine Ext.dw ?_) | (refine Ext.set ?_ (by first | omega | (simp only [World.size_alloc, size_setRow, dw_size]; omega)) _) | (refine Ext.tr ?_ (by assumption))))
  have zE12 := E12.size
  try simp only [World.size_alloc, size_setRow, dw_size] at zE12
  refine hQ _ ⟨_, _, rfl, ?_, Ext.set (Ext.set E12 (by omega) _) (by omega) _⟩
  rw [hset]
  refine O.wide (put _ _ (tagMax x t) (fun _ => False) (O.tag.2 rfl) (by first | assumption | rfl | (simp (maxSteps := 1000000) (disch := first | assumption | omega | (simp only [World.size_alloc, size_setRow, dw_size]; done) | (simp only [World.size_alloc, size_setRow, dw_size] <;> omega) | (simp only [List.length_set, Array.length_toList, List.length_cons, List.length_nil, List.length_append, bts_size] <;> omega) | (simp only [List.all_cons, List.all_nil, Value.oneCell', Bool.and_self, Bool.and_true]; done)) [-Option.bind_some, hp_alloc_lt, hp_alloc_eq, hp_set_ne, wrap_small, ups_ap_cons, ups_ap_nil, upd_same, upd_other, env0_ap0, env0_aps, xt_a, xt_b, xt_c, -splice_eq, -stR_cells, stR_box, stR_boxA, stR_row, stR_row0, stR_row1, stR_rowA, stR_rowA0, splice_rowv, splice_rowv0, splice_rowv1, splice_z, splice_n, splice_s, nth_rowv, nth_rowv0, nth_rowv1, rowv_len, hg, E1.blk, hg, E2.blk, E12.blk]; done)) ?_ (fun _ _ h => h.elim)) ?_
  · intro b h1 h2 h3 h4
    simp only [World.size_alloc, In] at h2
    simp (disch := (first | assumption | omega | (simp only [World.size_alloc, size_setRow, dw_size] <;> omega))) only [E2.blk, hp_alloc_lt, hp_set_ne, hp_dw]
  intro b h hb
  (try dsimp only at hb)
  simp only [size_setRow, World.size_alloc, In] at *
  rcases h with h | h
  · omega
  · exact h.elim
abbrev tagM : TagM P 79 42 83 (.agg #[i64 0, i64 0, .slice none 0 0]) := ⟨Try.underlying79, ⟨_, _, Try.underlying42, by kernel_rfl, by kernel_rfl, ⟨by simp, by simp, rfl, rfl⟩⟩, by kernel_rfl, by kernel_rfl⟩
/-- A book in the heap: its block, its map. -/
def Bk (w : World) (S : Nat → Prop) (g m : Nat) (cur : List Value) (b : Book) : Prop :=
  Vw tTags w S 81 g cur b.vs ∧ cur.length = 5 ∧ cur[4]? = some (.map (some m)) ∧ Mp tTags w S m b.wr ∧ g ≠ m ∧ g < w.heap.size ∧ m < w.heap.size ∧ ¬ S g ∧ ¬ S m ∧ ∀ x, S x → x < w.heap.size
theorem Bk.keep {w w' : World} {S : Nat → Prop} {g m : Nat} {cur : List Value} {b : Book} (h : Bk w S g m cur b) (k : Ext w w') : Bk w' S g m cur b := by
  obtain ⟨h1, h2, h3, h4, h5, h6, h7, h8, h9, h10⟩ := h
  have hs := k.size
  exact ⟨h1.keep (k.blk h6) (fun x hx hl => k.blk hl) (fun x hx _ => hx), h2, h3, h4.keep (k.blk h7) (fun x hx hl => k.blk hl) (fun x hx _ => hx), h5, by omega, by omega, h8, h9, fun x hx => by have := h10 x hx; omega⟩
theorem impl_bookNew_n {g : Nat} {w0 : World} (hg0 : w0.heap.size ≤ g) : ∀ (d k : Nat) (e : Env) (w : World) (S : Nat → Prop) (m : Nat) (cur : List Value) (vs : List (List Tag)), k + d = 4 → vs.length = k → (∀ v ∈ vs, v = List.replicate 4 ⟨0, 0⟩) → e 1 = pt g 0 → e 6 = i64 k → w0.heap.size ≤ m → (∀ x, S x → w0.heap.size ≤ x) → Ext w0 w → Bk w S g m cur ⟨vs, []⟩ →
    Ret (impl_bookNew_l1 e w) fun r => r.1 = pt g 0 ∧ Ext w0 r.2 ∧ ∃ S m cur, w0.heap.size ≤ m ∧ (∀ x, S x → w0.heap.size ≤ x) ∧ Bk r.2 S g m cur book0 := by
  intro d
  induction d with
  | zero =>
    intro k e w S m cur vs hd hv hz e1 e6 hm hS E0 hb
    have zE0 := E0.size
    try simp only [World.size_alloc, size_setRow, dw_size] at zE0
    rw [impl_bookNew_l1_eq]
    obtain rfl : k = 4 := by omega
    have hvs : vs = List.replicate 4 (List.replicate 4 ⟨0, 0⟩) := List.eq_replicate_iff.2 ⟨hv, hz⟩
    subst hvs
    refine Ret.post fun Q hQ => ?_
    simp (maxSteps := 1000000) (disch := first | assumption | omega | (simp only [World.size_alloc, size_setRow, dw_size]; done) | (simp only [World.size_alloc, size_setRow, dw_size] <;> omega) | (simp only [List.length_set, Array.length_toList, List.length_cons, List.length_nil, List.length_append, bts_size] <;> omega) | (simp only [List.all_cons, List.all_nil, Value.oneCell', Bool.and_self, Bool.and_true]; done)) [-Option.bind_some, hp_alloc_lt, hp_alloc_eq, hp_set_ne, wrap_small, ups_ap_cons, ups_ap_nil, upd_same, upd_other, env0_ap0, env0_aps, xt_a, xt_b, xt_c, -splice_eq, -stR_cells, stR_box, stR_boxA, stR_row, stR_row0, stR_row1, stR_rowA, stR_rowA0, splice_rowv, splice_rowv0, splice_rowv1, splice_z, splice_n, splice_s, nth_rowv, nth_rowv0, nth_rowv1, rowv_len, e1, e6, e1, e6, E0.blk]
    exact hQ _ ⟨rfl, E0, S, m, cur, hm, hS, hb⟩
  | succ d ih =>
    intro k e w S m cur vs hd hv hz e1 e6 hm hS E0 hb
    have zE0 := E0.size
    try simp only [World.size_alloc, size_setRow, dw_size] at zE0
    rw [impl_bookNew_l1_eq]
    have hlt : k < 4 := by omega
    have hk0 : (k : Int) < 4 := by omega
    obtain ⟨⟨X1, hc4, hvs⟩, hc5, hc, hmp, hgm, hgl, hml, hSg, hSm, hSl⟩ := hb
    refine Ret.post fun Q hQ => ?_
    simp (maxSteps := 1000000) (disch := first | assumption | omega | (simp only [World.size_alloc, size_setRow, dw_size]; done) | (simp only [World.size_alloc, size_setRow, dw_size] <;> omega) | (simp only [List.length_set, Array.length_toList, List.length_cons, List.length_nil, List.length_append, bts_size] <;> omega) | (simp only [List.all_cons, List.all_nil, Value.oneCell', Bool.and_self, Bool.and_true]; done)) [-Option.bind_some, hp_alloc_lt, hp_alloc_eq, hp_set_ne, wrap_small, ups_ap_cons, ups_ap_nil, upd_same, upd_other, env0_ap0, env0_aps, xt_a, xt_b, xt_c, -splice_eq, -stR_cells, stR_box, stR_boxA, stR_row, stR_row0, stR_row1, stR_rowA, stR_rowA0, splice_rowv, splice_rowv0, splice_rowv1, splice_z, splice_n, splice_s, nth_rowv, nth_rowv0, nth_rowv1, rowv_len, e1, e6, hlt, hk0, nk_ptr, e1, e6, E0.blk, hlt, X1]
    refine Ret.bind (impl_PastNone_m) ?_
    rintro ⟨_, w1⟩ ⟨a1, c1, rfl, o1, E1⟩
    try dsimp only at a1 c1 o1 E1
    have zE1 := E1.size
    try simp only [World.size_alloc, size_setRow, dw_size] at zE1
    have zE1' := E1.size
    have hl1 : (List.replicate 4 (⟨0, 0⟩ : Tag)).length = 4 := rfl
    have hXg : hp w1 g = some (.cells cur.toArray 81 (0, 0)) := (E1.blk hgl).trans X1
    have F1 : Ext w w1 := (dw_ext w).tr E1
    have hfl : splice cur k [.slice a1 4 c1] = cur.set k (.slice a1 4 c1) := by
      unfold splice
      rw [List.set_eq_take_append_cons_drop, if_pos (by omega)]
      rfl
    simp (maxSteps := 1000000) (disch := first | assumption | omega | (simp only [World.size_alloc, size_setRow, dw_size]; done) | (simp only [World.size_alloc, size_setRow, dw_size] <;> omega) | (simp only [List.length_set, Array.length_toList, List.length_cons, List.length_nil, List.length_append, bts_size] <;> omega) | (simp only [List.all_cons, List.all_nil, Value.oneCell', Bool.and_self, Bool.and_true]; done)) [-Option.bind_some, hp_alloc_lt, hp_alloc_eq, hp_set_ne, wrap_small, ups_ap_cons, ups_ap_nil, upd_same, upd_other, env0_ap0, env0_aps, xt_a, xt_b, xt_c, -splice_eq, -stR_cells, stR_box, stR_boxA, stR_row, stR_row0, stR_row1, stR_rowA, stR_rowA0, splice_rowv, splice_rowv0, splice_rowv1, splice_z, splice_n, splice_s, nth_rowv, nth_rowv0, nth_rowv1, rowv_len, e1, e6, hlt, hk0, nk_ptr, ia_arr (P := P) Try.underlying78 (by kernel_rfl : szB P 32 = some 1), hXg, hc5, stR_put, e1, e6, E0.blk, hlt, X1, E1.blk]
    have y1 : m < w1.heap.size := by have := F1.size; omega
    have y2 : g < w1.heap.size := by have := F1.size; omega
    have oD := o1.d
    have V1 : Vw tTags w1 (fun x => S x ∨ In (dw w).heap.size w1.heap.size x) 81 g cur vs :=
      Vw.keep (w := w) (S := S) ⟨X1, by omega, hvs⟩ (F1.blk hgl) (fun b _ hb => F1.blk hb) (fun b hb _ => .inl hb)
    have hg1 : ¬ (S g ∨ In (dw w).heap.size w1.heap.size g) := by
      rintro (h | h)
      · exact hSg h
      · simp only [In, dw_size] at h; omega
    have hm1 : ¬ (S m ∨ In (dw w).heap.size w1.heap.size m) := by
      rintro (h | h)
      · exact hSm h
      · simp only [In, dw_size] at h; omega
    have happ : Vw tTags (w1.setRow g (splice cur k [.slice a1 4 c1]).toArray) (fun x => S x ∨ In (dw w).heap.size w1.heap.size x) 81 g (splice cur k [.slice a1 4 c1]) (vs ++ [List.replicate 4 ⟨0, 0⟩]) := by
      obtain ⟨k1, k2, k3⟩ := V1
      have kk : ∀ b, (S b ∨ In (dw w).heap.size w1.heap.size b) → b < w1.heap.size → hp (w1.setRow g (splice cur k [.slice a1 4 c1]).toArray) b = hp w1 b := fun b hb _ => hp_set_ne (fun e => hg1 (e ▸ hb))
      refine ⟨by rw [hp_set_eq, k1]; rfl, by rw [hfl]; simp; omega, fun j v hj' => ?_⟩
      by_cases hj : j = k
      · rw [hj, ← hv, List.getElem?_append_right (by omega), Nat.sub_self] at hj'
        obtain rfl := Option.some.inj hj'
        refine ⟨a1, c1, by rw [hfl, hj, List.getElem?_set_self (by omega)]; rfl, (oD.wide (fun b hb _ => .inr hb)).keep kk⟩
      · have hj2 : j < vs.length := by
          have := (List.getElem?_eq_some_iff.1 hj').1
          simp only [List.length_append, List.length_cons, List.length_nil] at this
          omega
        rw [List.getElem?_append_left hj2] at hj'
        obtain ⟨a', c', h4, h5⟩ := k3 j v hj'
        exact ⟨a', c', by rw [hfl, List.getElem?_set_ne (Ne.symm hj)]; exact h4, h5.keep kk⟩
    refine Ret.mono (ih (k + 1) _ _ (fun x => S x ∨ In (dw w).heap.size w1.heap.size x) m (splice cur k [.slice a1 4 c1]) (vs ++ [List.replicate 4 ⟨0, 0⟩]) (by omega) (by simp; omega) ?_ (by first | omega | assumption | rfl | exact congrArg i64 (by omega) | (simp; done) | (simp; omega)) (by first | omega | assumption | rfl | exact congrArg i64 (by omega) | (simp; done) | (simp; omega)) hm ?_ (Ext.set (E0.tr F1) hg0 _) ⟨happ, ?_, ?_, ?_, hgm, by simpa using y2, by simpa using y1, hg1, hm1, ?_⟩) hQ
    · intro v hvm
      rcases List.mem_append.1 hvm with h | h
      · exact hz v h
      · simpa using h
    · rintro x (h | h)
      · exact hS x h
      · have := E0.size
        simp only [In, dw_size] at h
        omega
    · rw [hfl, List.length_set]; exact hc5
    · rw [hfl, List.getElem?_set_ne (by omega)]; exact hc
    · refine hmp.keep ((hp_set_ne (Ne.symm hgm)).trans (F1.blk hml)) (fun b hb hl => (hp_set_ne (by intro e; subst e; exact hSg hb)).trans (F1.blk hl)) (fun b hb _ => .inl hb)
    · rintro x (h | h)
      · have := hSl x h
        have := F1.size
        simp only [size_setRow]
        omega
      · simp only [In, dw_size, size_setRow] at *
        omega
theorem impl_bookNew_m {w : World} : Ret (EV P 94 #[] w) fun r => ∃ g S m cur, r.1 = pt g 0 ∧ Ext w r.2 ∧ w.heap.size ≤ g ∧ w.heap.size ≤ m ∧ (∀ x, S x → w.heap.size ≤ x) ∧ Bk r.2 S g m cur book0 := by
  refine Ret.post fun Q hQ => ?_
  refine Ret.enter plain mixed (impl_bookNew_fn _) (by kernel_rfl) (n := 0) (by kernel_rfl) rfl ?_
  simp (maxSteps := 1000000) (disch := first | assumption | omega | (simp only [World.size_alloc, size_setRow, dw_size]; done) | (simp only [World.size_alloc, size_setRow, dw_size] <;> omega) | (simp only [List.length_set, Array.length_toList, List.length_cons, List.length_nil, List.length_append, bts_size] <;> omega) | (simp only [List.all_cons, List.all_nil, Value.oneCell', Bool.and_self, Bool.and_true]; done)) [-Option.bind_some, hp_alloc_lt, hp_alloc_eq, hp_set_ne, wrap_small, ups_ap_cons, ups_ap_nil, upd_same, upd_other, env0_ap0, env0_aps, xt_a, xt_b, xt_c, -splice_eq, -stR_cells, stR_box, stR_boxA, stR_row, stR_row0, stR_row1, stR_rowA, stR_rowA0, splice_rowv, splice_rowv0, splice_rowv1, splice_z, splice_n, splice_s, nth_rowv, nth_rowv0, nth_rowv1, rowv_len, mm_map]
  refine Ret.mono (impl_bookNew_n (w0 := w) (g := w.heap.size + 1) (by omega) 4 0 _ _ (fun _ => False) w.heap.size [.slice none 0 0, .slice none 0 0, .slice none 0 0, .slice none 0 0, .map (some w.heap.size)] [] (by omega) rfl (by simp) (by first | omega | assumption | rfl | exact congrArg i64 (by omega) | (simp; done) | (simp; omega)) (by first | omega | assumption | rfl | exact congrArg i64 (by omega) | (simp; done) | (simp; omega)) (Nat.le_refl _) (fun _ h => h.elim) (by (repeat (first | exact Ext.rfl | assumption | (refine Ext.al ?_ _) | (refine Ext.dw ?_) | (refine Ext.set ?_ (by first | omega | (simp only [World.size_alloc, size_setRow, dw_size]; omega)) _) | (refine Ext.tr ?_ (by assumption))))) ⟨⟨(by first | assumption | rfl | (simp (maxSteps := 1000000) (disch := first | assumption | omega | (simp only [World.size_alloc, size_setRow, dw_size]; done) | (simp only [World.size_alloc, size_setRow, dw_size] <;> omega) | (simp only [List.length_set, Array.length_toList, List.length_cons, List.length_nil, List.length_append, bts_size] <;> omega) | (simp only [List.all_cons, List.all_nil, Value.oneCell', Bool.and_self, Bool.and_true]; done)) [-Option.bind_some, hp_alloc_lt, hp_alloc_eq, hp_set_ne, wrap_small, ups_ap_cons, ups_ap_nil, upd_same, upd_other, env0_ap0, env0_aps, xt_a, xt_b, xt_c, -splice_eq, -stR_cells, stR_box, stR_boxA, stR_row, stR_row0, stR_row1, stR_rowA, stR_rowA0, splice_rowv, splice_rowv0, splice_rowv1, splice_z, splice_n, splice_s, nth_rowv, nth_rowv0, nth_rowv1, rowv_len]; done)), by simp, by simp⟩, rfl, rfl, ⟨[], (by first | assumption | rfl | (simp (maxSteps := 1000000) (disch := first | assumption | omega | (simp only [World.size_alloc, size_setRow, dw_size]; done) | (simp only [World.size_alloc, size_setRow, dw_size] <;> omega) | (simp only [List.length_set, Array.length_toList, List.length_cons, List.length_nil, List.length_append, bts_size] <;> omega) | (simp only [List.all_cons, List.all_nil, Value.oneCell', Bool.and_self, Bool.and_true]; done)) [-Option.bind_some, hp_alloc_lt, hp_alloc_eq, hp_set_ne, wrap_small, ups_ap_cons, ups_ap_nil, upd_same, upd_other, env0_ap0, env0_aps, xt_a, xt_b, xt_c, -splice_eq, -stR_cells, stR_box, stR_boxA, stR_row, stR_row0, stR_row1, stR_rowA, stR_rowA0, splice_rowv, splice_rowv0, splice_rowv1, splice_z, splice_n, splice_s, nth_rowv, nth_rowv0, nth_rowv1, rowv_len]; done)), trivial⟩, by omega, by simp, by simp; omega, id, id, fun _ h => h.elim⟩) ?_
  rintro r ⟨h1, h2, S, m, cur, h3, h4, h5⟩
  exact hQ _ ⟨_, S, m, cur, h1, h2, by omega, h3, h4, h5⟩
end Go.Proofs.Ytcafhepclddcaaa.X
set_option linter.unusedVariables false
set_option linter.unusedSimpArgs false
set_option maxRecDepth 100000
set_option maxHeartbeats 1000000
namespace Go.Proofs.Ytcafhepclddcaaa.X
open Go Go.Ev Go.RowKit
theorem Bk.upd {w w3 : World} {S : Nat → Prop} {g m i lo : Nat} {cur : List Value} {b : Book} (h : Bk w S g m cur b) (F : Ext w w3) (hi : i < b.vs.length) (hi4 : i < 4) (hlo : w.heap.size ≤ lo) {a : Option Addr} {c : Nat} {x : List Tag}
    (hx : D tTags (In lo w3.heap.size) w3 [.slice a x.length c] x) : Bk (w3.setRow g (splice cur i [.slice a x.length c]).toArray) (fun y => S y ∨ In lo w3.heap.size y) g m (splice cur i [.slice a x.length c]) ⟨b.vs.set i x, b.wr⟩ := by
  obtain ⟨k1, k2, k3, k4, k5, k6, k7, k8, k9, k10⟩ := h
  have hs := F.size
  have hfl : splice cur i [.slice a x.length c] = cur.set i (.slice a x.length c) := by
    have := k1.2.1
    unfold splice
    rw [List.set_eq_take_append_cons_drop, if_pos (by omega)]
    rfl
  have hg1 : ¬ (S g ∨ In lo w3.heap.size g) := by
    rintro (h | h)
    · exact k8 h
    · simp only [In] at h; omega
  have V := Vw.keep (S' := fun y => S y ∨ In lo w3.heap.size y) k1 (F.blk k6) (fun b _ hb => F.blk hb) (fun b hb _ => .inl hb)
  refine ⟨V.put hg1 hi (hx.wide fun b hb _ => .inr hb) rfl, by rw [hfl, List.length_set]; exact k2, ?_, ?_, k5, by simp; omega, by simp; omega, hg1, ?_, ?_⟩
  · rw [hfl, List.getElem?_set_ne (by omega)]
    exact k3
  · exact k4.keep ((hp_set_ne (Ne.symm k5)).trans (F.blk k7)) (fun b hb hl => (hp_set_ne (by intro e; subst e; exact k8 hb)).trans (F.blk hl)) (fun b hb _ => .inl hb)
  · rintro (h | h)
    · exact k9 h
    · simp only [In] at h; omega
  · rintro y (h | h)
    · have := k10 y h
      simp; omega
    · simp only [In] at h
      simp; omega
theorem Bk.wrote {w w3 : World} {S : Nat → Prop} {g m : Nat} {cur : List Value} {b : Book} {l : List (Tag × Value)} (h : Bk w S g m cur b) (F : Ext w w3) (hl : hp w m = some (mapO l)) {t : Tag} {s k : Int} {a : Option Addr} {c : Nat} {x : List Tag}
    (hx : D tTags S w [.slice a x.length c] x) : Bk (setM w3 m (mapO (l ++ [(t, .agg #[i64 s, i64 k, .slice a x.length c])]))) S g m cur ⟨b.vs, b.wr ++ [(t, s, k, x)]⟩ := by
  obtain ⟨k1, k2, k3, ⟨l', k4, k4'⟩, k5, k6, k7, k8, k9, k10⟩ := h
  have hs := F.size
  obtain rfl : l = l' := mapO_inj (Option.some.inj (hl.symm.trans k4))
  have hne : ∀ b, S b → b ≠ m := fun b hb e => k9 (e ▸ hb)
  have kk : ∀ b, S b → b < w.heap.size → hp (setM w3 m (mapO (l ++ [(t, .agg #[i64 s, i64 k, .slice a x.length c])]))) b = hp w b := fun b hb hb' => (hp_setM_ne (hne b hb)).trans (F.blk hb')
  refine ⟨k1.keep ((hp_setM_ne k5).trans (F.blk k6)) kk (fun b hb _ => hb), k2, k3, ⟨_, hp_setM_eq (by omega), ?_⟩, k5, by rw [size_setM]; omega, by rw [size_setM]; omega, k8, k9, fun y hy => by have := k10 y hy; rw [size_setM]; omega⟩
  refine All2.app (k4'.imp fun p q h => ?_) ⟨rfl, a, c, rfl, hx.keep kk⟩
  obtain ⟨h3, a', c', h4, h5⟩ := h
  exact ⟨h3, a', c', h4, h5.keep kk⟩
set_option maxHeartbeats 6000000 in
theorem impl_book_add_m {w : World} {S : Nat → Prop} {g m : Nat} {cur : List Value} {b : Book} {d : Done} (hb : Bk w S g m cur b) (hok : b.Ok) (hd : opOk d = true) :
    Ret (EV P 95 #[pt g 0, .agg (doneC d).toArray] w) fun r => r.1 = .bool (hstep b d).isSome ∧ (hstep b d = none → Ext w r.2) ∧ Ev.Mod (fun x => x = g ∨ x = m) w r.2 ∧ ∀ b', hstep b d = some b' → ∃ S' cur', Bk r.2 S' g m cur' b' ∧ ∀ x, S' x → S x ∨ w.heap.size ≤ x := by
  have hb' := hb
  obtain ⟨⟨X1, hc4, hvs⟩, hc5, hc, ⟨l, Xm, hrel⟩, hgm, hgl, hml, hSg, hSm, hSl⟩ := hb
  obtain ⟨⟨hs0, hs3⟩, ⟨hk1, hk3⟩, ⟨hy0, hy3⟩, htag, hkt⟩ := opOk_iff.1 hd
  have hvl := view_len hok hd
  obtain ⟨a, c, hcell, hD⟩ := hvs _ _ (view_get hok hd)
  have q0 : nth cur d.sess.toNat = some (.slice a (view b d).length c) := by rw [← nth_eq]; exact hcell
  have q4 : nth cur 4 = some (.map (some m)) := by rw [← nth_eq]; exact hc
  have hD' := hD
  rw [hvl] at q0 hD
  have hs4 : d.sess < 4 := by omega
  have hy4 : d.key < 4 := by omega
  have hz : ((d.tag.t == 0) && (d.tag.p == 0)) = !decide (0 < d.tag.t) := by
    rw [Bool.eq_iff_iff]
    simp only [tagOk, Bool.or_eq_true, Bool.and_eq_true, beq_iff_eq, decide_eq_true_eq] at htag
    simp only [Bool.and_eq_true, beq_iff_eq, Bool.not_eq_true', decide_eq_false_iff_not]
    omega
  refine Ret.post fun Q hQ => ?_
  refine Ret.enter plain mixed (impl_book_add_fn _ _ _) (by kernel_rfl) (n := 2) (by kernel_rfl) rfl ?_
  cases hkind : (d.kind == 1)
  · have hlt : d.key.toNat < (view b d).length := by omega
    obtain ⟨x, hx, _⟩ := drop_at hlt
    have hgd : (view b d).getD d.key.toNat ⟨0, 0⟩ = x := by rw [List.getD_eq_getElem?_getD, hx]; rfl
    obtain ⟨b1, o1, cs1, rfl, A1, D1, hSb1, l1⟩ := hD.at (by decide) hx
    obtain rfl := D.tag.1 D1
    have p0 := A1 0 _ rfl
    have p1 := A1 1 _ rfl
    simp only [LVer_n, LTag_n, LNode_n, Nat.add_zero] at p0 p1
    have hk2 : ¬ d.kind = 1 := by simpa using hkind
    have hst : hstep b d = if tagLess d.tag x then none else if decide (0 < d.tag.t) then (match wfind b.wr d.tag with
      | none => none
      | some (s, k, past) => if k != d.key || ((d.kind == 3) && (s != d.sess)) then none else some ⟨b.vs.set d.sess.toNat (withT (joinT (view b d) past) d.key.toNat d.tag), b.wr⟩) else some b := by
      unfold hstep
      rw [hkind, hgd]
      rfl
    rw [hst] at hQ
    rcases mfind_rel hrel d.tag with ⟨m1, m2⟩ | ⟨s, k, past, a2, c2, m1, m2, D2⟩
    · simp (maxSteps := 1000000) (disch := first | assumption | omega | (simp only [World.size_alloc, size_setRow, dw_size]; done) | (simp only [World.size_alloc, size_setRow, dw_size] <;> omega) | (simp only [List.length_set, Array.length_toList, List.length_cons, List.length_nil, List.length_append, bts_size] <;> omega) | (simp only [List.all_cons, List.all_nil, Value.oneCell', Bool.and_self, Bool.and_true]; done)) [-Option.bind_some, hp_alloc_lt, hp_alloc_eq, hp_set_ne, wrap_small, ups_ap_cons, ups_ap_nil, upd_same, upd_other, env0_ap0, env0_aps, xt_a, xt_b, xt_c, -splice_eq, -stR_cells, stR_box, stR_boxA, stR_row, stR_row0, stR_row1, stR_rowA, stR_rowA0, splice_rowv, splice_rowv0, splice_rowv1, splice_z, splice_n, splice_s, nth_rowv, nth_rowv0, nth_rowv1, rowv_len, hkind, nk_ptr, ia_arr (P := P) Try.underlying78 (by kernel_rfl : szB P 32 = some 1), X1, Xm, hs0, hs4, q0, q4, lk_lkR tagM, lkR_map, m1, hy0, hy4, ia_30, X1, hlt, p0, p1]
      refine Ret.bind (impl_TagLess_c d.tag x _) ?_
      rintro ⟨_, w1⟩ ⟨rfl, E1⟩
      try dsimp only at E1
      have zE1 := E1.size
      try simp only [World.size_alloc, size_setRow, dw_size] at zE1
      have F1 : Ext w w1 := by (repeat (first | exact Ext.rfl | assumption | (refine Ext.al ?_ _) | (refine Ext.dw ?_) | (refine Ext.set ?_ (by first | omega | (simp only [World.size_alloc, size_setRow, dw_size]; omega)) _) | (refine Ext.tr ?_ (by assumption))))
      simp only [m2] at hQ
      cases hless : tagLess d.tag x
      · cases hpos : decide (0 < d.tag.t)
        · rw [hpos] at hz
          simp (maxSteps := 1000000) (disch := first | assumption | omega | (simp only [World.size_alloc, size_setRow, dw_size]; done) | (simp only [World.size_alloc, size_setRow, dw_size] <;> omega) | (simp only [List.length_set, Array.length_toList, List.length_cons, List.length_nil, List.length_append, bts_size] <;> omega) | (simp only [List.all_cons, List.all_nil, Value.oneCell', Bool.and_self, Bool.and_true]; done)) [-Option.bind_some, hp_alloc_lt, hp_alloc_eq, hp_set_ne, wrap_small, ups_ap_cons, ups_ap_nil, upd_same, upd_other, env0_ap0, env0_aps, xt_a, xt_b, xt_c, -splice_eq, -stR_cells, stR_box, stR_boxA, stR_row, stR_row0, stR_row1, stR_rowA, stR_rowA0, splice_rowv, splice_rowv0, splice_rowv1, splice_z, splice_n, splice_s, nth_rowv, nth_rowv0, nth_rowv1, rowv_len, hless, hz, hpos, Tag.v, X1, hlt, p0, p1, E1.blk]
          refine hQ _ ⟨by simp [hless, hpos], fun hn2 => by first | (simp [hless, hpos] at hn2; done) | (repeat (first | exact Ext.rfl | assumption | (refine Ext.al ?_ _) | (refine Ext.dw ?_) | (refine Ext.set ?_ (by first | omega | (simp only [World.size_alloc, size_setRow, dw_size]; omega)) _) | (refine Ext.tr ?_ (by assumption)))), by (repeat (first | exact Mod.rfl | assumption | (refine Mod.al ?_ _) | (refine Mod.dw' ?_) | (refine Mod.set' ?_ (by first | (left; omega) | (left; simp only [World.size_alloc, size_setRow, dw_size]; omega) | (right; assumption) | (right; simp; done)) _) | (refine Mod.ex ?_ (by assumption)))), fun b' hb2 => ?_⟩
          simp [hless, hpos] at hb2
          subst hb2
          exact ⟨S, cur, hb'.keep (by (repeat (first | exact Ext.rfl | assumption | (refine Ext.al ?_ _) | (refine Ext.dw ?_) | (refine Ext.set ?_ (by first | omega | (simp only [World.size_alloc, size_setRow, dw_size]; omega)) _) | (refine Ext.tr ?_ (by assumption))))), fun x hx => .inl hx⟩
        · rw [hpos] at hz
          simp (maxSteps := 1000000) (disch := first | assumption | omega | (simp only [World.size_alloc, size_setRow, dw_size]; done) | (simp only [World.size_alloc, size_setRow, dw_size] <;> omega) | (simp only [List.length_set, Array.length_toList, List.length_cons, List.length_nil, List.length_append, bts_size] <;> omega) | (simp only [List.all_cons, List.all_nil, Value.oneCell', Bool.and_self, Bool.and_true]; done)) [-Option.bind_some, hp_alloc_lt, hp_alloc_eq, hp_set_ne, wrap_small, ups_ap_cons, ups_ap_nil, upd_same, upd_other, env0_ap0, env0_aps, xt_a, xt_b, xt_c, -splice_eq, -stR_cells, stR_box, stR_boxA, stR_row, stR_row0, stR_row1, stR_rowA, stR_rowA0, splice_rowv, splice_rowv0, splice_rowv1, splice_z, splice_n, splice_s, nth_rowv, nth_rowv0, nth_rowv1, rowv_len, hless, hz, hpos, Tag.v, X1, hlt, p0, p1, E1.blk]
          refine hQ _ ⟨by simp [hless, hpos], fun hn2 => by first | (simp [hless, hpos] at hn2; done) | (repeat (first | exact Ext.rfl | assumption | (refine Ext.al ?_ _) | (refine Ext.dw ?_) | (refine Ext.set ?_ (by first | omega | (simp only [World.size_alloc, size_setRow, dw_size]; omega)) _) | (refine Ext.tr ?_ (by assumption)))), by (repeat (first | exact Mod.rfl | assumption | (refine Mod.al ?_ _) | (refine Mod.dw' ?_) | (refine Mod.set' ?_ (by first | (left; omega) | (left; simp only [World.size_alloc, size_setRow, dw_size]; omega) | (right; assumption) | (right; simp; done)) _) | (refine Mod.ex ?_ (by assumption)))), fun b' hb2 => ?_⟩
          simp [hless, hpos] at hb2
      · simp (maxSteps := 1000000) (disch := first | assumption | omega | (simp only [World.size_alloc, size_setRow, dw_size]; done) | (simp only [World.size_alloc, size_setRow, dw_size] <;> omega) | (simp only [List.length_set, Array.length_toList, List.length_cons, List.length_nil, List.length_append, bts_size] <;> omega) | (simp only [List.all_cons, List.all_nil, Value.oneCell', Bool.and_self, Bool.and_true]; done)) [-Option.bind_some, hp_alloc_lt, hp_alloc_eq, hp_set_ne, wrap_small, ups_ap_cons, ups_ap_nil, upd_same, upd_other, env0_ap0, env0_aps, xt_a, xt_b, xt_c, -splice_eq, -stR_cells, stR_box, stR_boxA, stR_row, stR_row0, stR_row1, stR_rowA, stR_rowA0, splice_rowv, splice_rowv0, splice_rowv1, splice_z, splice_n, splice_s, nth_rowv, nth_rowv0, nth_rowv1, rowv_len, hless, X1, hlt, p0, p1, E1.blk]
        refine hQ _ ⟨by simp [hless], fun hn2 => by first | (simp [hless] at hn2; done) | (repeat (first | exact Ext.rfl | assumption | (refine Ext.al ?_ _) | (refine Ext.dw ?_) | (refine Ext.set ?_ (by first | omega | (simp only [World.size_alloc, size_setRow, dw_size]; omega)) _) | (refine Ext.tr ?_ (by assumption)))), by (repeat (first | exact Mod.rfl | assumption | (refine Mod.al ?_ _) | (refine Mod.dw' ?_) | (refine Mod.set' ?_ (by first | (left; omega) | (left; simp only [World.size_alloc, size_setRow, dw_size]; omega) | (right; assumption) | (right; simp; done)) _) | (refine Mod.ex ?_ (by assumption)))), fun b' hb2 => ?_⟩
        simp [hless] at hb2
    · have hpl : past.length = 4 := hok.2.2 _ (wfind_mem m2)
      simp (maxSteps := 1000000) (disch := first | assumption | omega | (simp only [World.size_alloc, size_setRow, dw_size]; done) | (simp only [World.size_alloc, size_setRow, dw_size] <;> omega) | (simp only [List.length_set, Array.length_toList, List.length_cons, List.length_nil, List.length_append, bts_size] <;> omega) | (simp only [List.all_cons, List.all_nil, Value.oneCell', Bool.and_self, Bool.and_true]; done)) [-Option.bind_some, hp_alloc_lt, hp_alloc_eq, hp_set_ne, wrap_small, ups_ap_cons, ups_ap_nil, upd_same, upd_other, env0_ap0, env0_aps, xt_a, xt_b, xt_c, -splice_eq, -stR_cells, stR_box, stR_boxA, stR_row, stR_row0, stR_row1, stR_rowA, stR_rowA0, splice_rowv, splice_rowv0, splice_rowv1, splice_z, splice_n, splice_s, nth_rowv, nth_rowv0, nth_rowv1, rowv_len, hkind, nk_ptr, ia_arr (P := P) Try.underlying78 (by kernel_rfl : szB P 32 = some 1), X1, Xm, hs0, hs4, q0, q4, lk_lkR tagM, lkR_map, m1, hy0, hy4, ia_30, X1, hlt, p0, p1]
      refine Ret.bind (impl_TagLess_c d.tag x _) ?_
      rintro ⟨_, w1⟩ ⟨rfl, E1⟩
      try dsimp only at E1
      have zE1 := E1.size
      try simp only [World.size_alloc, size_setRow, dw_size] at zE1
      have F1 : Ext w w1 := by (repeat (first | exact Ext.rfl | assumption | (refine Ext.al ?_ _) | (refine Ext.dw ?_) | (refine Ext.set ?_ (by first | omega | (simp only [World.size_alloc, size_setRow, dw_size]; omega)) _) | (refine Ext.tr ?_ (by assumption))))
      simp only [m2] at hQ
      cases hless : tagLess d.tag x
      · cases hpos : decide (0 < d.tag.t)
        · rw [hpos] at hz
          simp (maxSteps := 1000000) (disch := first | assumption | omega | (simp only [World.size_alloc, size_setRow, dw_size]; done) | (simp only [World.size_alloc, size_setRow, dw_size] <;> omega) | (simp only [List.length_set, Array.length_toList, List.length_cons, List.length_nil, List.length_append, bts_size] <;> omega) | (simp only [List.all_cons, List.all_nil, Value.oneCell', Bool.and_self, Bool.and_true]; done)) [-Option.bind_some, hp_alloc_lt, hp_alloc_eq, hp_set_ne, wrap_small, ups_ap_cons, ups_ap_nil, upd_same, upd_other, env0_ap0, env0_aps, xt_a, xt_b, xt_c, -splice_eq, -stR_cells, stR_box, stR_boxA, stR_row, stR_row0, stR_row1, stR_rowA, stR_rowA0, splice_rowv, splice_rowv0, splice_rowv1, splice_z, splice_n, splice_s, nth_rowv, nth_rowv0, nth_rowv1, rowv_len, hless, hz, hpos, Tag.v, X1, hlt, p0, p1, E1.blk]
          refine hQ _ ⟨by simp [hless, hpos], fun hn2 => by first | (simp [hless, hpos] at hn2; done) | (repeat (first | exact Ext.rfl | assumption | (refine Ext.al ?_ _) | (refine Ext.dw ?_) | (refine Ext.set ?_ (by first | omega | (simp only [World.size_alloc, size_setRow, dw_size]; omega)) _) | (refine Ext.tr ?_ (by assumption)))), by (repeat (first | exact Mod.rfl | assumption | (refine Mod.al ?_ _) | (refine Mod.dw' ?_) | (refine Mod.set' ?_ (by first | (left; omega) | (left; simp only [World.size_alloc, size_setRow, dw_size]; omega) | (right; assumption) | (right; simp; done)) _) | (refine Mod.ex ?_ (by assumption)))), fun b' hb2 => ?_⟩
          simp [hless, hpos] at hb2
          subst hb2
          exact ⟨S, cur, hb'.keep (by (repeat (first | exact Ext.rfl | assumption | (refine Ext.al ?_ _) | (refine Ext.dw ?_) | (refine Ext.set ?_ (by first | omega | (simp only [World.size_alloc, size_setRow, dw_size]; omega)) _) | (refine Ext.tr ?_ (by assumption))))), fun x hx => .inl hx⟩
        · rw [hpos] at hz
          cases h1 : (k != d.key)
          · cases hcan : ((d.kind == 3) && (s != d.sess))
            · have J := fun w' (h : Ext w w') => impl_Past_join_m (xs := view b d) (ys := past) (by omega) (hD'.ext h) (D2.ext h)
              simp only [hvl] at J
              have hcan' := hcan
              simp only [Bool.and_eq_false_iff] at hcan'
              have hkn : ((d.key.toNat : Nat) : Int) = d.key := Int.toNat_of_nonneg hy0
              have hsl : d.sess.toNat < cur.length := by omega
              have hsl4 : d.sess.toNat < b.vs.length := by have := hok.1; omega
              rcases hcan' with h3 | h4
              · simp (maxSteps := 1000000) (disch := first | assumption | omega | (simp only [World.size_alloc, size_setRow, dw_size]; done) | (simp only [World.size_alloc, size_setRow, dw_size] <;> omega) | (simp only [List.length_set, Array.length_toList, List.length_cons, List.length_nil, List.length_append, bts_size] <;> omega) | (simp only [List.all_cons, List.all_nil, Value.oneCell', Bool.and_self, Bool.and_true]; done)) [-Option.bind_some, hp_alloc_lt, hp_alloc_eq, hp_set_ne, wrap_small, ups_ap_cons, ups_ap_nil, upd_same, upd_other, env0_ap0, env0_aps, xt_a, xt_b, xt_c, -splice_eq, -stR_cells, stR_box, stR_boxA, stR_row, stR_row0, stR_row1, stR_rowA, stR_rowA0, splice_rowv, splice_rowv0, splice_rowv1, splice_z, splice_n, splice_s, nth_rowv, nth_rowv0, nth_rowv1, rowv_len, hless, hz, hpos, h1, h3, Tag.v, nk_ptr, ia_arr (P := P) Try.underlying78 (by kernel_rfl : szB P 32 = some 1), X1, hs0, hs4, X1, hlt, p0, p1, E1.blk]
                refine Ret.bind (J _ (by (repeat (first | exact Ext.rfl | assumption | (refine Ext.al ?_ _) | (refine Ext.dw ?_) | (refine Ext.set ?_ (by first | omega | (simp only [World.size_alloc, size_setRow, dw_size]; omega)) _) | (refine Ext.tr ?_ (by assumption)))))) ?_
                rintro ⟨_, w2⟩ ⟨a1, c1, rfl, o1', E2⟩
                try dsimp only at a1 c1 o1' E2
                have zE2 := E2.size
                try simp only [World.size_alloc, size_setRow, dw_size] at zE2
                have o1d := o1'.d
                have Wt := impl_Past_with_m (k := d.key.toNat) (t := d.tag) (w := w2) (by rw [joinT_len _ _ (by omega)]; omega) o1d
                rw [hkn] at Wt
                simp (maxSteps := 1000000) (disch := first | assumption | omega | (simp only [World.size_alloc, size_setRow, dw_size]; done) | (simp only [World.size_alloc, size_setRow, dw_size] <;> omega) | (simp only [List.length_set, Array.length_toList, List.length_cons, List.length_nil, List.length_append, bts_size] <;> omega) | (simp only [List.all_cons, List.all_nil, Value.oneCell', Bool.and_self, Bool.and_true]; done)) [-Option.bind_some, hp_alloc_lt, hp_alloc_eq, hp_set_ne, wrap_small, ups_ap_cons, ups_ap_nil, upd_same, upd_other, env0_ap0, env0_aps, xt_a, xt_b, xt_c, -splice_eq, -stR_cells, stR_box, stR_boxA, stR_row, stR_row0, stR_row1, stR_rowA, stR_rowA0, splice_rowv, splice_rowv0, splice_rowv1, splice_z, splice_n, splice_s, nth_rowv, nth_rowv0, nth_rowv1, rowv_len, hless, hz, hpos, h1, h3, Tag.v, nk_ptr, ia_arr (P := P) Try.underlying78 (by kernel_rfl : szB P 32 = some 1), X1, hs0, hs4, X1, hlt, p0, p1, E1.blk, E2.blk]
                refine Ret.bind (Wt) ?_
                rintro ⟨_, w3⟩ ⟨a3, c3, rfl, o3, E3⟩
                try dsimp only at a3 c3 o3 E3
                have zE3 := E3.size
                try simp only [World.size_alloc, size_setRow, dw_size] at zE3
                have F3 : Ext w w3 := by (repeat (first | exact Ext.rfl | assumption | (refine Ext.al ?_ _) | (refine Ext.dw ?_) | (refine Ext.set ?_ (by first | omega | (simp only [World.size_alloc, size_setRow, dw_size]; omega)) _) | (refine Ext.tr ?_ (by assumption))))
                simp (maxSteps := 1000000) (disch := first | assumption | omega | (simp only [World.size_alloc, size_setRow, dw_size]; done) | (simp only [World.size_alloc, size_setRow, dw_size] <;> omega) | (simp only [List.length_set, Array.length_toList, List.length_cons, List.length_nil, List.length_append, bts_size] <;> omega) | (simp only [List.all_cons, List.all_nil, Value.oneCell', Bool.and_self, Bool.and_true]; done)) [-Option.bind_some, hp_alloc_lt, hp_alloc_eq, hp_set_ne, wrap_small, ups_ap_cons, ups_ap_nil, upd_same, upd_other, env0_ap0, env0_aps, xt_a, xt_b, xt_c, -splice_eq, -stR_cells, stR_box, stR_boxA, stR_row, stR_row0, stR_row1, stR_rowA, stR_rowA0, splice_rowv, splice_rowv0, splice_rowv1, splice_z, splice_n, splice_s, nth_rowv, nth_rowv0, nth_rowv1, rowv_len, nk_ptr, ia_arr (P := P) Try.underlying78 (by kernel_rfl : szB P 32 = some 1), X1, hs0, hs4, hsl, stR_put, X1, hlt, p0, p1, E1.blk, E2.blk, E3.blk]
                have o3d := o3.d
                refine hQ _ ⟨by simp [hless, hpos, h1, hcan], fun hn2 => by first | (simp [hless, hpos, h1, hcan] at hn2; done) | (repeat (first | exact Ext.rfl | assumption | (refine Ext.al ?_ _) | (refine Ext.dw ?_) | (refine Ext.set ?_ (by first | omega | (simp only [World.size_alloc, size_setRow, dw_size]; omega)) _) | (refine Ext.tr ?_ (by assumption)))), Mod.set' (Mod.of F3 _) (.inr (.inl rfl)) _, fun b' hb2 => ?_⟩
                simp [hless, hpos, h1, hcan] at hb2
                subst hb2
                exact ⟨fun x => S x ∨ In w2.heap.size w3.heap.size x, _, Bk.upd hb' F3 hsl4 (by omega) (by have := F3.size; have := E2.size; simp only [World.size_alloc, dw_size] at *; omega) o3d, fun x hx => hx.imp id fun h => by simp only [In] at h; omega⟩
              · cases h3 : (d.kind == 3)
                · simp (maxSteps := 1000000) (disch := first | assumption | omega | (simp only [World.size_alloc, size_setRow, dw_size]; done) | (simp only [World.size_alloc, size_setRow, dw_size] <;> omega) | (simp only [List.length_set, Array.length_toList, List.length_cons, List.length_nil, List.length_append, bts_size] <;> omega) | (simp only [List.all_cons, List.all_nil, Value.oneCell', Bool.and_self, Bool.and_true]; done)) [-Option.bind_some, hp_alloc_lt, hp_alloc_eq, hp_set_ne, wrap_small, ups_ap_cons, ups_ap_nil, upd_same, upd_other, env0_ap0, env0_aps, xt_a, xt_b, xt_c, -splice_eq, -stR_cells, stR_box, stR_boxA, stR_row, stR_row0, stR_row1, stR_rowA, stR_rowA0, splice_rowv, splice_rowv0, splice_rowv1, splice_z, splice_n, splice_s, nth_rowv, nth_rowv0, nth_rowv1, rowv_len, hless, hz, hpos, h1, h3, Tag.v, nk_ptr, ia_arr (P := P) Try.underlying78 (by kernel_rfl : szB P 32 = some 1), X1, hs0, hs4, X1, hlt, p0, p1, E1.blk]
                  refine Ret.bind (J _ (by (repeat (first | exact Ext.rfl | assumption | (refine Ext.al ?_ _) | (refine Ext.dw ?_) | (refine Ext.set ?_ (by first | omega | (simp only [World.size_alloc, size_setRow, dw_size]; omega)) _) | (refine Ext.tr ?_ (by assumption)))))) ?_
                  rintro ⟨_, w2⟩ ⟨a1, c1, rfl, o1', E2⟩
                  try dsimp only at a1 c1 o1' E2
                  have zE2 := E2.size
                  try simp only [World.size_alloc, size_setRow, dw_size] at zE2
                  have o1d := o1'.d
                  have Wt := impl_Past_with_m (k := d.key.toNat) (t := d.tag) (w := w2) (by rw [joinT_len _ _ (by omega)]; omega) o1d
                  rw [hkn] at Wt
                  simp (maxSteps := 1000000) (disch := first | assumption | omega | (simp only [World.size_alloc, size_setRow, dw_size]; done) | (simp only [World.size_alloc, size_setRow, dw_size] <;> omega) | (simp only [List.length_set, Array.length_toList, List.length_cons, List.length_nil, List.length_append, bts_size] <;> omega) | (simp only [List.all_cons, List.all_nil, Value.oneCell', Bool.and_self, Bool.and_true]; done)) [-Option.bind_some, hp_alloc_lt, hp_alloc_eq, hp_set_ne, wrap_small, ups_ap_cons, ups_ap_nil, upd_same, upd_other, env0_ap0, env0_aps, xt_a, xt_b, xt_c, -splice_eq, -stR_cells, stR_box, stR_boxA, stR_row, stR_row0, stR_row1, stR_rowA, stR_rowA0, splice_rowv, splice_rowv0, splice_rowv1, splice_z, splice_n, splice_s, nth_rowv, nth_rowv0, nth_rowv1, rowv_len, hless, hz, hpos, h1, h3, Tag.v, nk_ptr, ia_arr (P := P) Try.underlying78 (by kernel_rfl : szB P 32 = some 1), X1, hs0, hs4, X1, hlt, p0, p1, E1.blk, E2.blk]
                  refine Ret.bind (Wt) ?_
                  rintro ⟨_, w3⟩ ⟨a3, c3, rfl, o3, E3⟩
                  try dsimp only at a3 c3 o3 E3
                  have zE3 := E3.size
                  try simp only [World.size_alloc, size_setRow, dw_size] at zE3
                  have F3 : Ext w w3 := by (repeat (first | exact Ext.rfl | assumption | (refine Ext.al ?_ _) | (refine Ext.dw ?_) | (refine Ext.set ?_ (by first | omega | (simp only [World.size_alloc, size_setRow, dw_size]; omega)) _) | (refine Ext.tr ?_ (by assumption))))
                  simp (maxSteps := 1000000) (disch := first | assumption | omega | (simp only [World.size_alloc, size_setRow, dw_size]; done) | (simp only [World.size_alloc, size_setRow, dw_size] <;> omega) | (simp only [List.length_set, Array.length_toList, List.length_cons, List.length_nil, List.length_append, bts_size] <;> omega) | (simp only [List.all_cons, List.all_nil, Value.oneCell', Bool.and_self, Bool.and_true]; done)) [-Option.bind_some, hp_alloc_lt, hp_alloc_eq, hp_set_ne, wrap_small, ups_ap_cons, ups_ap_nil, upd_same, upd_other, env0_ap0, env0_aps, xt_a, xt_b, xt_c, -splice_eq, -stR_cells, stR_box, stR_boxA, stR_row, stR_row0, stR_row1, stR_rowA, stR_rowA0, splice_rowv, splice_rowv0, splice_rowv1, splice_z, splice_n, splice_s, nth_rowv, nth_rowv0, nth_rowv1, rowv_len, nk_ptr, ia_arr (P := P) Try.underlying78 (by kernel_rfl : szB P 32 = some 1), X1, hs0, hs4, hsl, stR_put, X1, hlt, p0, p1, E1.blk, E2.blk, E3.blk]
                  have o3d := o3.d
                  refine hQ _ ⟨by simp [hless, hpos, h1, hcan], fun hn2 => by first | (simp [hless, hpos, h1, hcan] at hn2; done) | (repeat (first | exact Ext.rfl | assumption | (refine Ext.al ?_ _) | (refine Ext.dw ?_) | (refine Ext.set ?_ (by first | omega | (simp only [World.size_alloc, size_setRow, dw_size]; omega)) _) | (refine Ext.tr ?_ (by assumption)))), Mod.set' (Mod.of F3 _) (.inr (.inl rfl)) _, fun b' hb2 => ?_⟩
                  simp [hless, hpos, h1, hcan] at hb2
                  subst hb2
                  exact ⟨fun x => S x ∨ In w2.heap.size w3.heap.size x, _, Bk.upd hb' F3 hsl4 (by omega) (by have := F3.size; have := E2.size; simp only [World.size_alloc, dw_size] at *; omega) o3d, fun x hx => hx.imp id fun h => by simp only [In] at h; omega⟩
                · simp (maxSteps := 1000000) (disch := first | assumption | omega | (simp only [World.size_alloc, size_setRow, dw_size]; done) | (simp only [World.size_alloc, size_setRow, dw_size] <;> omega) | (simp only [List.length_set, Array.length_toList, List.length_cons, List.length_nil, List.length_append, bts_size] <;> omega) | (simp only [List.all_cons, List.all_nil, Value.oneCell', Bool.and_self, Bool.and_true]; done)) [-Option.bind_some, hp_alloc_lt, hp_alloc_eq, hp_set_ne, wrap_small, ups_ap_cons, ups_ap_nil, upd_same, upd_other, env0_ap0, env0_aps, xt_a, xt_b, xt_c, -splice_eq, -stR_cells, stR_box, stR_boxA, stR_row, stR_row0, stR_row1, stR_rowA, stR_rowA0, splice_rowv, splice_rowv0, splice_rowv1, splice_z, splice_n, splice_s, nth_rowv, nth_rowv0, nth_rowv1, rowv_len, hless, hz, hpos, h1, h3, h4, Tag.v, nk_ptr, ia_arr (P := P) Try.underlying78 (by kernel_rfl : szB P 32 = some 1), X1, hs0, hs4, X1, hlt, p0, p1, E1.blk]
                  refine Ret.bind (J _ (by (repeat (first | exact Ext.rfl | assumption | (refine Ext.al ?_ _) | (refine Ext.dw ?_) | (refine Ext.set ?_ (by first | omega | (simp only [World.size_alloc, size_setRow, dw_size]; omega)) _) | (refine Ext.tr ?_ (by assumption)))))) ?_
                  rintro ⟨_, w2⟩ ⟨a1, c1, rfl, o1', E2⟩
                  try dsimp only at a1 c1 o1' E2
                  have zE2 := E2.size
                  try simp only [World.size_alloc, size_setRow, dw_size] at zE2
                  have o1d := o1'.d
                  have Wt := impl_Past_with_m (k := d.key.toNat) (t := d.tag) (w := w2) (by rw [joinT_len _ _ (by omega)]; omega) o1d
                  rw [hkn] at Wt
                  simp (maxSteps := 1000000) (disch := first | assumption | omega | (simp only [World.size_alloc, size_setRow, dw_size]; done) | (simp only [World.size_alloc, size_setRow, dw_size] <;> omega) | (simp only [List.length_set, Array.length_toList, List.length_cons, List.length_nil, List.length_append, bts_size] <;> omega) | (simp only [List.all_cons, List.all_nil, Value.oneCell', Bool.and_self, Bool.and_true]; done)) [-Option.bind_some, hp_alloc_lt, hp_alloc_eq, hp_set_ne, wrap_small, ups_ap_cons, ups_ap_nil, upd_same, upd_other, env0_ap0, env0_aps, xt_a, xt_b, xt_c, -splice_eq, -stR_cells, stR_box, stR_boxA, stR_row, stR_row0, stR_row1, stR_rowA, stR_rowA0, splice_rowv, splice_rowv0, splice_rowv1, splice_z, splice_n, splice_s, nth_rowv, nth_rowv0, nth_rowv1, rowv_len, hless, hz, hpos, h1, h3, h4, Tag.v, nk_ptr, ia_arr (P := P) Try.underlying78 (by kernel_rfl : szB P 32 = some 1), X1, hs0, hs4, X1, hlt, p0, p1, E1.blk, E2.blk]
                  refine Ret.bind (Wt) ?_
                  rintro ⟨_, w3⟩ ⟨a3, c3, rfl, o3, E3⟩
                  try dsimp only at a3 c3 o3 E3
                  have zE3 := E3.size
                  try simp only [World.size_alloc, size_setRow, dw_size] at zE3
                  have F3 : Ext w w3 := by (repeat (first | exact Ext.rfl | assumption | (refine Ext.al ?_ _) | (refine Ext.dw ?_) | (refine Ext.set ?_ (by first | omega | (simp only [World.size_alloc, size_setRow, dw_size]; omega)) _) | (refine Ext.tr ?_ (by assumption))))
                  simp (maxSteps := 1000000) (disch := first | assumption | omega | (simp only [World.size_alloc, size_setRow, dw_size]; done) | (simp only [World.size_alloc, size_setRow, dw_size] <;> omega) | (simp only [List.length_set, Array.length_toList, List.length_cons, List.length_nil, List.length_append, bts_size] <;> omega) | (simp only [List.all_cons, List.all_nil, Value.oneCell', Bool.and_self, Bool.and_true]; done)) [-Option.bind_some, hp_alloc_lt, hp_alloc_eq, hp_set_ne, wrap_small, ups_ap_cons, ups_ap_nil, upd_same, upd_other, env0_ap0, env0_aps, xt_a, xt_b, xt_c, -splice_eq, -stR_cells, stR_box, stR_boxA, stR_row, stR_row0, stR_row1, stR_rowA, stR_rowA0, splice_rowv, splice_rowv0, splice_rowv1, splice_z, splice_n, splice_s, nth_rowv, nth_rowv0, nth_rowv1, rowv_len, nk_ptr, ia_arr (P := P) Try.underlying78 (by kernel_rfl : szB P 32 = some 1), X1, hs0, hs4, hsl, stR_put, X1, hlt, p0, p1, E1.blk, E2.blk, E3.blk]
                  have o3d := o3.d
                  refine hQ _ ⟨by simp [hless, hpos, h1, hcan], fun hn2 => by first | (simp [hless, hpos, h1, hcan] at hn2; done) | (repeat (first | exact Ext.rfl | assumption | (refine Ext.al ?_ _) | (refine Ext.dw ?_) | (refine Ext.set ?_ (by first | omega | (simp only [World.size_alloc, size_setRow, dw_size]; omega)) _) | (refine Ext.tr ?_ (by assumption)))), Mod.set' (Mod.of F3 _) (.inr (.inl rfl)) _, fun b' hb2 => ?_⟩
                  simp [hless, hpos, h1, hcan] at hb2
                  subst hb2
                  exact ⟨fun x => S x ∨ In w2.heap.size w3.heap.size x, _, Bk.upd hb' F3 hsl4 (by omega) (by have := F3.size; have := E2.size; simp only [World.size_alloc, dw_size] at *; omega) o3d, fun x hx => hx.imp id fun h => by simp only [In] at h; omega⟩
            · have hcan' := hcan
              simp only [Bool.and_eq_true] at hcan'
              obtain ⟨h3, h4⟩ := hcan'
              simp (maxSteps := 1000000) (disch := first | assumption | omega | (simp only [World.size_alloc, size_setRow, dw_size]; done) | (simp only [World.size_alloc, size_setRow, dw_size] <;> omega) | (simp only [List.length_set, Array.length_toList, List.length_cons, List.length_nil, List.length_append, bts_size] <;> omega) | (simp only [List.all_cons, List.all_nil, Value.oneCell', Bool.and_self, Bool.and_true]; done)) [-Option.bind_some, hp_alloc_lt, hp_alloc_eq, hp_set_ne, wrap_small, ups_ap_cons, ups_ap_nil, upd_same, upd_other, env0_ap0, env0_aps, xt_a, xt_b, xt_c, -splice_eq, -stR_cells, stR_box, stR_boxA, stR_row, stR_row0, stR_row1, stR_rowA, stR_rowA0, splice_rowv, splice_rowv0, splice_rowv1, splice_z, splice_n, splice_s, nth_rowv, nth_rowv0, nth_rowv1, rowv_len, hless, hz, hpos, h1, h3, h4, Tag.v, X1, hlt, p0, p1, E1.blk]
              refine hQ _ ⟨by simp [hless, hpos, h1, hcan], fun hn2 => by first | (simp [hless, hpos, h1, hcan] at hn2; done) | (repeat (first | exact Ext.rfl | assumption | (refine Ext.al ?_ _) | (refine Ext.dw ?_) | (refine Ext.set ?_ (by first | omega | (simp only [World.size_alloc, size_setRow, dw_size]; omega)) _) | (refine Ext.tr ?_ (by assumption)))), by (repeat (first | exact Mod.rfl | assumption | (refine Mod.al ?_ _) | (refine Mod.dw' ?_) | (refine Mod.set' ?_ (by first | (left; omega) | (left; simp only [World.size_alloc, size_setRow, dw_size]; omega) | (right; assumption) | (right; simp; done)) _) | (refine Mod.ex ?_ (by assumption)))), fun b' hb2 => ?_⟩
              simp [hless, hpos, h1, hcan] at hb2
          · simp (maxSteps := 1000000) (disch := first | assumption | omega | (simp only [World.size_alloc, size_setRow, dw_size]; done) | (simp only [World.size_alloc, size_setRow, dw_size] <;> omega) | (simp only [List.length_set, Array.length_toList, List.length_cons, List.length_nil, List.length_append, bts_size] <;> omega) | (simp only [List.all_cons, List.all_nil, Value.oneCell', Bool.and_self, Bool.and_true]; done)) [-Option.bind_some, hp_alloc_lt, hp_alloc_eq, hp_set_ne, wrap_small, ups_ap_cons, ups_ap_nil, upd_same, upd_other, env0_ap0, env0_aps, xt_a, xt_b, xt_c, -splice_eq, -stR_cells, stR_box, stR_boxA, stR_row, stR_row0, stR_row1, stR_rowA, stR_rowA0, splice_rowv, splice_rowv0, splice_rowv1, splice_z, splice_n, splice_s, nth_rowv, nth_rowv0, nth_rowv1, rowv_len, hless, hz, hpos, h1, Tag.v, X1, hlt, p0, p1, E1.blk]
            refine hQ _ ⟨by simp [hless, hpos, h1], fun hn2 => by first | (simp [hless, hpos, h1] at hn2; done) | (repeat (first | exact Ext.rfl | assumption | (refine Ext.al ?_ _) | (refine Ext.dw ?_) | (refine Ext.set ?_ (by first | omega | (simp only [World.size_alloc, size_setRow, dw_size]; omega)) _) | (refine Ext.tr ?_ (by assumption)))), by (repeat (first | exact Mod.rfl | assumption | (refine Mod.al ?_ _) | (refine Mod.dw' ?_) | (refine Mod.set' ?_ (by first | (left; omega) | (left; simp only [World.size_alloc, size_setRow, dw_size]; omega) | (right; assumption) | (right; simp; done)) _) | (refine Mod.ex ?_ (by assumption)))), fun b' hb2 => ?_⟩
            simp [hless, hpos, h1] at hb2
      · simp (maxSteps := 1000000) (disch := first | assumption | omega | (simp only [World.size_alloc, size_setRow, dw_size]; done) | (simp only [World.size_alloc, size_setRow, dw_size] <;> omega) | (simp only [List.length_set, Array.length_toList, List.length_cons, List.length_nil, List.length_append, bts_size] <;> omega) | (simp only [List.all_cons, List.all_nil, Value.oneCell', Bool.and_self, Bool.and_true]; done)) [-Option.bind_some, hp_alloc_lt, hp_alloc_eq, hp_set_ne, wrap_small, ups_ap_cons, ups_ap_nil, upd_same, upd_other, env0_ap0, env0_aps, xt_a, xt_b, xt_c, -splice_eq, -stR_cells, stR_box, stR_boxA, stR_row, stR_row0, stR_row1, stR_rowA, stR_rowA0, splice_rowv, splice_rowv0, splice_rowv1, splice_z, splice_n, splice_s, nth_rowv, nth_rowv0, nth_rowv1, rowv_len, hless, X1, hlt, p0, p1, E1.blk]
        refine hQ _ ⟨by simp [hless], fun hn2 => by first | (simp [hless] at hn2; done) | (repeat (first | exact Ext.rfl | assumption | (refine Ext.al ?_ _) | (refine Ext.dw ?_) | (refine Ext.set ?_ (by first | omega | (simp only [World.size_alloc, size_setRow, dw_size]; omega)) _) | (refine Ext.tr ?_ (by assumption)))), by (repeat (first | exact Mod.rfl | assumption | (refine Mod.al ?_ _) | (refine Mod.dw' ?_) | (refine Mod.set' ?_ (by first | (left; omega) | (left; simp only [World.size_alloc, size_setRow, dw_size]; omega) | (right; assumption) | (right; simp; done)) _) | (refine Mod.ex ?_ (by assumption)))), fun b' hb2 => ?_⟩
        simp [hless] at hb2
  · have hst : hstep b d = if (wfind b.wr d.tag).isSome || decide (d.tag.t ≤ latest 0 (view b d)) then none else some ⟨b.vs, b.wr ++ [(d.tag, d.sess, d.key, view b d)]⟩ := by
      unfold hstep
      rw [hkind]
      rfl
    rw [hst] at hQ
    rcases mfind_rel hrel d.tag with ⟨m1, m2⟩ | ⟨s, k, past, a2, c2, m1, m2, D2⟩
    · simp only [m2] at hQ
      simp (maxSteps := 1000000) (disch := first | assumption | omega | (simp only [World.size_alloc, size_setRow, dw_size]; done) | (simp only [World.size_alloc, size_setRow, dw_size] <;> omega) | (simp only [List.length_set, Array.length_toList, List.length_cons, List.length_nil, List.length_append, bts_size] <;> omega) | (simp only [List.all_cons, List.all_nil, Value.oneCell', Bool.and_self, Bool.and_true]; done)) [-Option.bind_some, hp_alloc_lt, hp_alloc_eq, hp_set_ne, wrap_small, ups_ap_cons, ups_ap_nil, upd_same, upd_other, env0_ap0, env0_aps, xt_a, xt_b, xt_c, -splice_eq, -stR_cells, stR_box, stR_boxA, stR_row, stR_row0, stR_row1, stR_rowA, stR_rowA0, splice_rowv, splice_rowv0, splice_rowv1, splice_z, splice_n, splice_s, nth_rowv, nth_rowv0, nth_rowv1, rowv_len, hkind, nk_ptr, ia_arr (P := P) Try.underlying78 (by kernel_rfl : szB P 32 = some 1), X1, Xm, hs0, hs4, q0, q4, lk_lkR tagM, lkR_map, m1, mu_muR tagM, muR_map, size_setM, X1]
      refine Ret.bind (impl_Past_latest_c ((hD.ext (by (repeat (first | exact Ext.rfl | assumption | (refine Ext.al ?_ _) | (refine Ext.dw ?_) | (refine Ext.set ?_ (by first | omega | (simp only [World.size_alloc, size_setRow, dw_size]; omega)) _) | (refine Ext.tr ?_ (by assumption)))))).rTags)) ?_
      rintro ⟨_, w1⟩ ⟨rfl, E1⟩
      try dsimp only at E1
      have zE1 := E1.size
      try simp only [World.size_alloc, size_setRow, dw_size] at zE1
      have F1 : Ext w w1 := by (repeat (first | exact Ext.rfl | assumption | (refine Ext.al ?_ _) | (refine Ext.dw ?_) | (refine Ext.set ?_ (by first | omega | (simp only [World.size_alloc, size_setRow, dw_size]; omega)) _) | (refine Ext.tr ?_ (by assumption))))
      cases hlat : decide (d.tag.t ≤ latest 0 (view b d))
      · simp (maxSteps := 1000000) (disch := first | assumption | omega | (simp only [World.size_alloc, size_setRow, dw_size]; done) | (simp only [World.size_alloc, size_setRow, dw_size] <;> omega) | (simp only [List.length_set, Array.length_toList, List.length_cons, List.length_nil, List.length_append, bts_size] <;> omega) | (simp only [List.all_cons, List.all_nil, Value.oneCell', Bool.and_self, Bool.and_true]; done)) [-Option.bind_some, hp_alloc_lt, hp_alloc_eq, hp_set_ne, wrap_small, ups_ap_cons, ups_ap_nil, upd_same, upd_other, env0_ap0, env0_aps, xt_a, xt_b, xt_c, -splice_eq, -stR_cells, stR_box, stR_boxA, stR_row, stR_row0, stR_row1, stR_rowA, stR_rowA0, splice_rowv, splice_rowv0, splice_rowv1, splice_z, splice_n, splice_s, nth_rowv, nth_rowv0, nth_rowv1, rowv_len, hkind, nk_ptr, ia_arr (P := P) Try.underlying78 (by kernel_rfl : szB P 32 = some 1), X1, Xm, hs0, hs4, q0, q4, lk_lkR tagM, lkR_map, m1, mu_muR tagM, muR_map, size_setM, hlat, X1, E1.blk]
        refine hQ _ ⟨by simp [hlat], fun hn2 => by first | (simp [hlat] at hn2; done) | (repeat (first | exact Ext.rfl | assumption | (refine Ext.al ?_ _) | (refine Ext.dw ?_) | (refine Ext.set ?_ (by first | omega | (simp only [World.size_alloc, size_setRow, dw_size]; omega)) _) | (refine Ext.tr ?_ (by assumption)))), ?_, fun b' hb2 => ?_⟩
        · exact (Mod.of F1.dw (fun x => x = g ∨ x = m)).after' (Mod.setM _ m _) (fun x _ h => .inr h)
        · simp [hlat] at hb2
          subst hb2
          have := Bk.wrote hb' F1.dw Xm (t := d.tag) (s := d.sess) (k := d.key) hD'
          rw [hvl] at this
          exact ⟨S, cur, this, fun x hx => .inl hx⟩
      · simp (maxSteps := 1000000) (disch := first | assumption | omega | (simp only [World.size_alloc, size_setRow, dw_size]; done) | (simp only [World.size_alloc, size_setRow, dw_size] <;> omega) | (simp only [List.length_set, Array.length_toList, List.length_cons, List.length_nil, List.length_append, bts_size] <;> omega) | (simp only [List.all_cons, List.all_nil, Value.oneCell', Bool.and_self, Bool.and_true]; done)) [-Option.bind_some, hp_alloc_lt, hp_alloc_eq, hp_set_ne, wrap_small, ups_ap_cons, ups_ap_nil, upd_same, upd_other, env0_ap0, env0_aps, xt_a, xt_b, xt_c, -splice_eq, -stR_cells, stR_box, stR_boxA, stR_row, stR_row0, stR_row1, stR_rowA, stR_rowA0, splice_rowv, splice_rowv0, splice_rowv1, splice_z, splice_n, splice_s, nth_rowv, nth_rowv0, nth_rowv1, rowv_len, hkind, nk_ptr, ia_arr (P := P) Try.underlying78 (by kernel_rfl : szB P 32 = some 1), X1, Xm, hs0, hs4, q0, q4, lk_lkR tagM, lkR_map, m1, mu_muR tagM, muR_map, size_setM, hlat, X1, E1.blk]
        refine hQ _ ⟨by simp [hlat], fun hn2 => by first | (simp [hlat] at hn2; done) | (repeat (first | exact Ext.rfl | assumption | (refine Ext.al ?_ _) | (refine Ext.dw ?_) | (refine Ext.set ?_ (by first | omega | (simp only [World.size_alloc, size_setRow, dw_size]; omega)) _) | (refine Ext.tr ?_ (by assumption)))), by (repeat (first | exact Mod.rfl | assumption | (refine Mod.al ?_ _) | (refine Mod.dw' ?_) | (refine Mod.set' ?_ (by first | (left; omega) | (left; simp only [World.size_alloc, size_setRow, dw_size]; omega) | (right; assumption) | (right; simp; done)) _) | (refine Mod.ex ?_ (by assumption)))), fun b' hb2 => ?_⟩
        simp [hlat] at hb2
    · simp only [m2] at hQ
      simp (maxSteps := 1000000) (disch := first | assumption | omega | (simp only [World.size_alloc, size_setRow, dw_size]; done) | (simp only [World.size_alloc, size_setRow, dw_size] <;> omega) | (simp only [List.length_set, Array.length_toList, List.length_cons, List.length_nil, List.length_append, bts_size] <;> omega) | (simp only [List.all_cons, List.all_nil, Value.oneCell', Bool.and_self, Bool.and_true]; done)) [-Option.bind_some, hp_alloc_lt, hp_alloc_eq, hp_set_ne, wrap_small, ups_ap_cons, ups_ap_nil, upd_same, upd_other, env0_ap0, env0_aps, xt_a, xt_b, xt_c, -splice_eq, -stR_cells, stR_box, stR_boxA, stR_row, stR_row0, stR_row1, stR_rowA, stR_rowA0, splice_rowv, splice_rowv0, splice_rowv1, splice_z, splice_n, splice_s, nth_rowv, nth_rowv0, nth_rowv1, rowv_len, hkind, nk_ptr, ia_arr (P := P) Try.underlying78 (by kernel_rfl : szB P 32 = some 1), X1, Xm, hs0, hs4, q0, q4, lk_lkR tagM, lkR_map, m1, mu_muR tagM, muR_map, size_setM, X1]
      refine hQ _ ⟨by simp, fun hn2 => by first | (simp at hn2; done) | (repeat (first | exact Ext.rfl | assumption | (refine Ext.al ?_ _) | (refine Ext.dw ?_) | (refine Ext.set ?_ (by first | omega | (simp only [World.size_alloc, size_setRow, dw_size]; omega)) _) | (refine Ext.tr ?_ (by assumption)))), by (repeat (first | exact Mod.rfl | assumption | (refine Mod.al ?_ _) | (refine Mod.dw' ?_) | (refine Mod.set' ?_ (by first | (left; omega) | (left; simp only [World.size_alloc, size_setRow, dw_size]; omega) | (right; assumption) | (right; simp; done)) _) | (refine Mod.ex ?_ (by assumption)))), fun b' hb2 => ?_⟩
      simp at hb2
end Go.Proofs.Ytcafhepclddcaaa.X
