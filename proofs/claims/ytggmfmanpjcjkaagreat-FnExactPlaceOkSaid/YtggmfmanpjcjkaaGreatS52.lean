/- A part of the proof: an evaluator of the model, its laws, and contracts of functions; no condition. -/
import Derived.Test.YtggmfmanpjcjkaaGreatS50
set_option linter.unusedVariables false
set_option linter.unusedSimpArgs false
set_option maxRecDepth 100000
set_option maxHeartbeats 1000000
namespace Go.Proofs.YtggmfmanpjcjkaaGreat.X
open Go Go.Ev Go.RowKit
def headP (clock : Int) (ns : List CNode) : Bool := match ns[0]? with
  | some x => x.store.all fun v => decide (v.tag.t ≤ clock)
  | none => true
def placeOkS (p : PlaceD) : Bool := (decide (0 ≤ p.me) && decide (p.me ≤ 2)) && (decide (0 ≤ p.clock) && decide (p.clock ≤ 999)) && (p.got.length == 3) && chainOk p.chain && causesP (tagsOf (lastStore p.chain)) p.chain && logOkP p.log p.me && gotGo p.me 0 p.got && headP p.clock p.chain
theorem spec_l4Ok_n2 {a : Option Addr} {c g1 g4 : Nat} {S : Nat → Prop} {st : List Ver} {clock me : Int} {x2 x3 x4 : Value} {fl : Bool} {w0 : World} (hs4 : st.length = 4) (ha : D tVers S w0 [.slice a 4 c] st)
    (X1 : hp w0 g1 = some (.cells #[i64 me, i64 clock, x2, x3, x4, .bool fl] 50 (0, 0))) (X4 : hp w0 g4 = some (.cells #[.slice a 4 c] 91 (0, 0))) :
    ∀ (d k : Nat) (e : Env) (w : World), k + d = 4 → e 1 = pt g1 0 → e 4 = pt g4 0 → e 5 = i64 k → Ext w0 w →
    Ret (spec_l4Ok_l2 e w) fun r => r.1 = .bool ((st.drop k).all (fun v => decide (v.tag.t ≤ clock))) ∧ Ext w0 r.2 := by
  have y1 := hp_lt X1
  have y4 := hp_lt X4
  intro d
  induction d with
  | zero =>
    intro k e w hd e1 e4 e5 E0
    have zE0 := E0.size
    try simp only [World.size_alloc, size_setRow, dw_size] at zE0
    rw [spec_l4Ok_l2_eq]
    obtain rfl : k = 4 := by omega
    rw [List.drop_of_length_le (by omega), List.all_nil]
    refine Ret.post fun Q hQ => ?_
    simp (maxSteps := 1000000) (disch := first | assumption | omega | (simp only [World.size_alloc, size_setRow, dw_size]; done) | (simp only [World.size_alloc, size_setRow, dw_size] <;> omega) | (simp only [List.length_set, Array.length_toList, List.length_cons, List.length_nil, List.length_append, bts_size] <;> omega) | (simp only [List.all_cons, List.all_nil, Value.oneCell', Bool.and_self, Bool.and_true]; done)) [-Option.bind_some, hp_alloc_lt, hp_alloc_eq, hp_set_ne, wrap_small, ups_ap_cons, ups_ap_nil, upd_same, upd_other, env0_ap0, env0_aps, xt_a, xt_b, xt_c, -splice_eq, -stR_cells, stR_box, stR_boxA, stR_row, stR_row0, stR_row1, stR_rowA, stR_rowA0, splice_rowv, splice_rowv0, splice_rowv1, splice_z, splice_n, splice_s, nth_rowv, nth_rowv0, nth_rowv1, rowv_len, e1, e4, e5, e1, e4, e5, E0.blk]
    exact hQ _ ⟨rfl, E0⟩
  | succ d ih =>
    intro k e w hd e1 e4 e5 E0
    have zE0 := E0.size
    try simp only [World.size_alloc, size_setRow, dw_size] at zE0
    rw [spec_l4Ok_l2_eq]
    have hk4 : k < 4 := by omega
    have hk40 : (k : Int) < 4 := by omega
    obtain ⟨v, hv, hdv⟩ := drop_at (l := st) (k := k) (by omega)
    have X1' := (E0.blk y1).trans X1
    have X4' := (E0.blk y4).trans X4
    obtain ⟨b2, o2, cs2, rfl, A2, D2, _, l2⟩ := (ha.ext E0).at (by decide) hv
    obtain ⟨av, cv, rfl, hq1, _⟩ := D.ver.1 D2
    have q0 := A2 0 _ rfl
    have q1 := A2 1 _ rfl
    have q2 := A2 2 _ rfl
    have q3 := A2 3 _ rfl
    have q4 := A2 4 _ rfl
    have q5 := A2 5 _ rfl
    simp only [LVer_n, LTag_n, LNode_n, Nat.add_zero] at q0 q1 q2 q3 q4 q5
    rw [hdv, List.all_cons]
    refine Ret.post fun Q hQ => ?_
    cases ht : decide (v.tag.t ≤ clock)
    · rw [ht] at hQ
      simp only [decide_eq_false_iff_not] at ht
      simp (maxSteps := 1000000) (disch := first | assumption | omega | (simp only [World.size_alloc, size_setRow, dw_size]; done) | (simp only [World.size_alloc, size_setRow, dw_size] <;> omega) | (simp only [List.length_set, Array.length_toList, List.length_cons, List.length_nil, List.length_append, bts_size] <;> omega) | (simp only [List.all_cons, List.all_nil, Value.oneCell', Bool.and_self, Bool.and_true]; done)) [-Option.bind_some, hp_alloc_lt, hp_alloc_eq, hp_set_ne, wrap_small, ups_ap_cons, ups_ap_nil, upd_same, upd_other, env0_ap0, env0_aps, xt_a, xt_b, xt_c, -splice_eq, -stR_cells, stR_box, stR_boxA, stR_row, stR_row0, stR_row1, stR_rowA, stR_rowA0, splice_rowv, splice_rowv0, splice_rowv1, splice_z, splice_n, splice_s, nth_rowv, nth_rowv0, nth_rowv1, rowv_len, e1, e4, e5, X1', X4', ia_47, hk4, hk40, show clock < v.tag.t by omega, e1, e4, e5, E0.blk, q0, q1, q2, q3, q4, q5]
      exact hQ _ ⟨rfl, E0.tr (dw_ext _)⟩
    · rw [ht, Bool.true_and] at hQ
      simp only [decide_eq_true_eq] at ht
      simp (maxSteps := 1000000) (disch := first | assumption | omega | (simp only [World.size_alloc, size_setRow, dw_size]; done) | (simp only [World.size_alloc, size_setRow, dw_size] <;> omega) | (simp only [List.length_set, Array.length_toList, List.length_cons, List.length_nil, List.length_append, bts_size] <;> omega) | (simp only [List.all_cons, List.all_nil, Value.oneCell', Bool.and_self, Bool.and_true]; done)) [-Option.bind_some, hp_alloc_lt, hp_alloc_eq, hp_set_ne, wrap_small, ups_ap_cons, ups_ap_nil, upd_same, upd_other, env0_ap0, env0_aps, xt_a, xt_b, xt_c, -splice_eq, -stR_cells, stR_box, stR_boxA, stR_row, stR_row0, stR_row1, stR_rowA, stR_rowA0, splice_rowv, splice_rowv0, splice_rowv1, splice_z, splice_n, splice_s, nth_rowv, nth_rowv0, nth_rowv1, rowv_len, e1, e4, e5, X1', X4', ia_47, hk4, hk40, show ¬ clock < v.tag.t by omega, e1, e4, e5, E0.blk, q0, q1, q2, q3, q4, q5]
      exact Ret.mono (ih (k + 1) _ _ (by omega) (by first | omega | assumption | rfl | exact congrArg i64 (by omega) | (simp; done) | (simp; omega)) (by first | omega | assumption | rfl | exact congrArg i64 (by omega) | (simp; done) | (simp; omega)) (by first | omega | assumption | rfl | exact congrArg i64 (by omega) | (simp; done) | (simp; omega)) (E0.tr (dw_ext _))) hQ
theorem spec_l4Ok_n1 {a a2 : Option Addr} {c c2 g1 : Nat} {S S2 : Nat → Prop} {ns : List CNode} {x : CNode} {got : List (List Ver)} {clock me : Int} {x3 : Value} {fl : Bool} {w0 : World} (hx : ns[0]? = some x) (hs4 : x.store.length = 4) (hg3 : got.length = 3) (ha : D tNodes S w0 [.slice a ns.length c] ns) (hb : D tVerSS S2 w0 [.slice a2 3 c2] got)
    (X1 : hp w0 g1 = some (.cells #[i64 me, i64 clock, .slice a ns.length c, x3, .slice a2 3 c2, .bool fl] 50 (0, 0))) :
    ∀ (d j : Nat) (e : Env) (w : World), j + d = 3 → e 1 = pt g1 0 → e 3 = i64 j → Ext w0 w →
    Ret (spec_l4Ok_l1 e w) fun r => r.1 = .bool (gotGo me j (got.drop j) && headP clock ns) ∧ Ext w0 r.2 := by
  have y1 := hp_lt X1
  have hl0 : 0 < ns.length := (List.getElem?_eq_some_iff.1 hx).1
  intro d
  induction d with
  | zero =>
    intro j e w hd e1 e3 E0
    have zE0 := E0.size
    try simp only [World.size_alloc, size_setRow, dw_size] at zE0
    rw [spec_l4Ok_l1_eq]
    obtain rfl : j = 3 := by omega
    have X1' := (E0.blk y1).trans X1
    have zE0' := E0.size
    obtain ⟨b1, o1, cs1, rfl, A1, D1, _, l1⟩ := (ha.ext E0).at (by decide) hx
    obtain ⟨a3, c3, a4, c4, rfl, h1, h2⟩ := D.node.1 D1
    have p0 := A1 0 _ rfl
    have p1 := A1 1 _ rfl
    simp only [LVer_n, LTag_n, LNode_n, Nat.add_zero] at p0 p1
    rw [hs4] at h1 p0
    rw [List.drop_of_length_le (by omega), gotGo, Bool.true_and, headP, hx]
    refine Ret.post fun Q hQ => ?_
    simp (maxSteps := 1000000) (disch := first | assumption | omega | (simp only [World.size_alloc, size_setRow, dw_size]; done) | (simp only [World.size_alloc, size_setRow, dw_size] <;> omega) | (simp only [List.length_set, Array.length_toList, List.length_cons, List.length_nil, List.length_append, bts_size] <;> omega) | (simp only [List.all_cons, List.all_nil, Value.oneCell', Bool.and_self, Bool.and_true]; done)) [-Option.bind_some, hp_alloc_lt, hp_alloc_eq, hp_set_ne, wrap_small, ups_ap_cons, ups_ap_nil, upd_same, upd_other, env0_ap0, env0_aps, xt_a, xt_b, xt_c, -splice_eq, -stR_cells, stR_box, stR_boxA, stR_row, stR_row0, stR_row1, stR_rowA, stR_rowA0, splice_rowv, splice_rowv0, splice_rowv1, splice_z, splice_n, splice_s, nth_rowv, nth_rowv0, nth_rowv1, rowv_len, e1, e3, X1', ia_44, hl0, e1, e3, E0.blk, p0, p1]
    refine Ret.mono (spec_l4Ok_n2 (g1 := g1) (g4 := w.heap.size) (me := me) (clock := clock) (x2 := .slice (some ⟨b1, o1, none⟩) ns.length c) (x3 := x3) (x4 := .slice a2 3 c2) (fl := fl) (w0 := (w.alloc (.cells #[.slice none 0 0] 91)).setRow w.heap.size #[.slice a3 4 c3]) hs4 (h1.ext (by (repeat (first | exact Ext.rfl | assumption | (refine Ext.al ?_ _) | (refine Ext.dw ?_) | (refine Ext.set ?_ (by first | omega | (simp only [World.size_alloc, size_setRow, dw_size]; omega)) _) | (refine Ext.tr ?_ (by assumption)))))) (by first | assumption | rfl | (simp (maxSteps := 1000000) (disch := first | assumption | omega | (simp only [World.size_alloc, size_setRow, dw_size]; done) | (simp only [World.size_alloc, size_setRow, dw_size] <;> omega) | (simp only [List.length_set, Array.length_toList, List.length_cons, List.length_nil, List.length_append, bts_size] <;> omega) | (simp only [List.all_cons, List.all_nil, Value.oneCell', Bool.and_self, Bool.and_true]; done)) [-Option.bind_some, hp_alloc_lt, hp_alloc_eq, hp_set_ne, wrap_small, ups_ap_cons, ups_ap_nil, upd_same, upd_other, env0_ap0, env0_aps, xt_a, xt_b, xt_c, X1', e1, e3, E0.blk, p0, p1]; done)) (by first | assumption | rfl | (simp (maxSteps := 1000000) (disch := first | assumption | omega | (simp only [World.size_alloc, size_setRow, dw_size]; done) | (simp only [World.size_alloc, size_setRow, dw_size] <;> omega) | (simp only [List.length_set, Array.length_toList, List.length_cons, List.length_nil, List.length_append, bts_size] <;> omega) | (simp only [List.all_cons, List.all_nil, Value.oneCell', Bool.and_self, Bool.and_true]; done)) [-Option.bind_some, hp_alloc_lt, hp_alloc_eq, hp_set_ne, wrap_small, ups_ap_cons, ups_ap_nil, upd_same, upd_other, env0_ap0, env0_aps, xt_a, xt_b, xt_c, -splice_eq, -stR_cells, stR_box, stR_boxA, stR_row, stR_row0, stR_row1, stR_rowA, stR_rowA0, splice_rowv, splice_rowv0, splice_rowv1, splice_z, splice_n, splice_s, nth_rowv, nth_rowv0, nth_rowv1, rowv_len, e1, e3, E0.blk, p0, p1]; done)) 4 0 _ _ (by omega) (by first | omega | assumption | rfl | exact congrArg i64 (by omega) | (simp; done) | (simp; omega)) (by first | omega | assumption | rfl | exact congrArg i64 (by omega) | (simp; done) | (simp; omega)) (by first | omega | assumption | rfl | exact congrArg i64 (by omega) | (simp; done) | (simp; omega)) Ext.rfl) ?_
    rintro r ⟨h3, h4⟩
    refine hQ _ ⟨by rw [h3]; rfl, (E0.tr ?_).tr h4⟩
    (repeat (first | exact Ext.rfl | assumption | (refine Ext.al ?_ _) | (refine Ext.dw ?_) | (refine Ext.set ?_ (by first | omega | (simp only [World.size_alloc, size_setRow, dw_size]; omega)) _) | (refine Ext.tr ?_ (by assumption))))
  | succ d ih =>
    intro j e w hd e1 e3 E0
    have zE0 := E0.size
    try simp only [World.size_alloc, size_setRow, dw_size] at zE0
    rw [spec_l4Ok_l1_eq]
    have hk3 : j < 3 := by omega
    have hk30 : (j : Int) < 3 := by omega
    obtain ⟨l, hl, hdl⟩ := drop_at (l := got) (k := j) (by omega)
    have X1' := (E0.blk y1).trans X1
    obtain ⟨b2, o2, cs2, rfl, A2, D2, _, l2⟩ := (hb.ext E0).at (by decide) hl
    obtain ⟨al, cl, rfl, hd1⟩ := D2.sl'
    have q0 : cellO (hp w b2) (o2 + j) = some (.slice al l.length cl) := by have := A2 0 _ rfl; simpa only [LList_n, Nat.mul_one, Nat.add_zero] using this
    have hln := hd1.n
    rw [hdl, gotGo]
    refine Ret.post fun Q hQ => ?_
    simp (maxSteps := 1000000) (disch := first | assumption | omega | (simp only [World.size_alloc, size_setRow, dw_size]; done) | (simp only [World.size_alloc, size_setRow, dw_size] <;> omega) | (simp only [List.length_set, Array.length_toList, List.length_cons, List.length_nil, List.length_append, bts_size] <;> omega) | (simp only [List.all_cons, List.all_nil, Value.oneCell', Bool.and_self, Bool.and_true]; done)) [-Option.bind_some, hp_alloc_lt, hp_alloc_eq, hp_set_ne, wrap_small, ups_ap_cons, ups_ap_nil, upd_same, upd_other, env0_ap0, env0_aps, xt_a, xt_b, xt_c, -splice_eq, -stR_cells, stR_box, stR_boxA, stR_row, stR_row0, stR_row1, stR_rowA, stR_rowA0, splice_rowv, splice_rowv0, splice_rowv1, splice_z, splice_n, splice_s, nth_rowv, nth_rowv0, nth_rowv1, rowv_len, e1, e3, hk3, hk30, ia_48, q0, X1', e1, e3, E0.blk]
    refine Ret.bind (spec_l4Log_m (hd1.ext (by (repeat (first | exact Ext.rfl | assumption | (refine Ext.al ?_ _) | (refine Ext.dw ?_) | (refine Ext.set ?_ (by first | omega | (simp only [World.size_alloc, size_setRow, dw_size]; omega)) _) | (refine Ext.tr ?_ (by assumption))))))) ?_
    rintro ⟨_, w1⟩ ⟨rfl, E1⟩
    try dsimp only at E1
    have zE1 := E1.size
    try simp only [World.size_alloc, size_setRow, dw_size] at zE1
    have EX : Ext w w1 := by (repeat (first | exact Ext.rfl | assumption | (refine Ext.al ?_ _) | (refine Ext.dw ?_) | (refine Ext.set ?_ (by first | omega | (simp only [World.size_alloc, size_setRow, dw_size]; omega)) _) | (refine Ext.tr ?_ (by assumption))))
    cases h1 : logOkP l (j : Int)
    · rw [h1] at hQ
      simp (maxSteps := 1000000) (disch := first | assumption | omega | (simp only [World.size_alloc, size_setRow, dw_size]; done) | (simp only [World.size_alloc, size_setRow, dw_size] <;> omega) | (simp only [List.length_set, Array.length_toList, List.length_cons, List.length_nil, List.length_append, bts_size] <;> omega) | (simp only [List.all_cons, List.all_nil, Value.oneCell', Bool.and_self, Bool.and_true]; done)) [-Option.bind_some, hp_alloc_lt, hp_alloc_eq, hp_set_ne, wrap_small, ups_ap_cons, ups_ap_nil, upd_same, upd_other, env0_ap0, env0_aps, xt_a, xt_b, xt_c, -splice_eq, -stR_cells, stR_box, stR_boxA, stR_row, stR_row0, stR_row1, stR_rowA, stR_rowA0, splice_rowv, splice_rowv0, splice_rowv1, splice_z, splice_n, splice_s, nth_rowv, nth_rowv0, nth_rowv1, rowv_len, e1, e3, E0.blk, E1.blk]
      exact hQ _ ⟨rfl, E0.tr EX⟩
    rw [h1, Bool.true_and] at hQ
    cases h2 : ((j : Int) == me)
    · rw [h2] at hQ
      simp (maxSteps := 1000000) (disch := first | assumption | omega | (simp only [World.size_alloc, size_setRow, dw_size]; done) | (simp only [World.size_alloc, size_setRow, dw_size] <;> omega) | (simp only [List.length_set, Array.length_toList, List.length_cons, List.length_nil, List.length_append, bts_size] <;> omega) | (simp only [List.all_cons, List.all_nil, Value.oneCell', Bool.and_self, Bool.and_true]; done)) [-Option.bind_some, hp_alloc_lt, hp_alloc_eq, hp_set_ne, wrap_small, ups_ap_cons, ups_ap_nil, upd_same, upd_other, env0_ap0, env0_aps, xt_a, xt_b, xt_c, -splice_eq, -stR_cells, stR_box, stR_boxA, stR_row, stR_row0, stR_row1, stR_rowA, stR_rowA0, splice_rowv, splice_rowv0, splice_rowv1, splice_z, splice_n, splice_s, nth_rowv, nth_rowv0, nth_rowv1, rowv_len, e1, e3, X1', h2, e1, e3, E0.blk, E1.blk]
      refine Ret.mono (ih (j + 1) _ _ (by omega) (by first | omega | assumption | rfl | exact congrArg i64 (by omega) | (simp; done) | (simp; omega)) (by first | omega | assumption | rfl | exact congrArg i64 (by omega) | (simp; done) | (simp; omega)) (E0.tr EX)) ?_
      rintro r ⟨h3, h4⟩
      exact hQ _ ⟨by rw [h3]; rfl, h4⟩
    rw [h2, Bool.true_and] at hQ
    cases h3 : decide (0 < l.length)
    · rw [h3] at hQ
      simp only [decide_eq_false_iff_not] at h3
      simp (maxSteps := 1000000) (disch := first | assumption | omega | (simp only [World.size_alloc, size_setRow, dw_size]; done) | (simp only [World.size_alloc, size_setRow, dw_size] <;> omega) | (simp only [List.length_set, Array.length_toList, List.length_cons, List.length_nil, List.length_append, bts_size] <;> omega) | (simp only [List.all_cons, List.all_nil, Value.oneCell', Bool.and_self, Bool.and_true]; done)) [-Option.bind_some, hp_alloc_lt, hp_alloc_eq, hp_set_ne, wrap_small, ups_ap_cons, ups_ap_nil, upd_same, upd_other, env0_ap0, env0_aps, xt_a, xt_b, xt_c, -splice_eq, -stR_cells, stR_box, stR_boxA, stR_row, stR_row0, stR_row1, stR_rowA, stR_rowA0, splice_rowv, splice_rowv0, splice_rowv1, splice_z, splice_n, splice_s, nth_rowv, nth_rowv0, nth_rowv1, rowv_len, e1, e3, X1', h2, h3, hk3, hk30, ia_48, q0, show ¬ (0 : Int) < l.length by omega, e1, e3, E0.blk, E1.blk]
      refine Ret.mono (ih (j + 1) _ _ (by omega) (by first | omega | assumption | rfl | exact congrArg i64 (by omega) | (simp; done) | (simp; omega)) (by first | omega | assumption | rfl | exact congrArg i64 (by omega) | (simp; done) | (simp; omega)) (E0.tr EX)) ?_
      rintro r ⟨h3, h4⟩
      exact hQ _ ⟨by rw [h3]; rfl, h4⟩
    · rw [h3] at hQ
      simp only [decide_eq_true_eq] at h3
      simp (maxSteps := 1000000) (disch := first | assumption | omega | (simp only [World.size_alloc, size_setRow, dw_size]; done) | (simp only [World.size_alloc, size_setRow, dw_size] <;> omega) | (simp only [List.length_set, Array.length_toList, List.length_cons, List.length_nil, List.length_append, bts_size] <;> omega) | (simp only [List.all_cons, List.all_nil, Value.oneCell', Bool.and_self, Bool.and_true]; done)) [-Option.bind_some, hp_alloc_lt, hp_alloc_eq, hp_set_ne, wrap_small, ups_ap_cons, ups_ap_nil, upd_same, upd_other, env0_ap0, env0_aps, xt_a, xt_b, xt_c, -splice_eq, -stR_cells, stR_box, stR_boxA, stR_row, stR_row0, stR_row1, stR_rowA, stR_rowA0, splice_rowv, splice_rowv0, splice_rowv1, splice_z, splice_n, splice_s, nth_rowv, nth_rowv0, nth_rowv1, rowv_len, e1, e3, X1', h2, h3, hk3, hk30, ia_48, q0, show (0 : Int) < l.length by omega, e1, e3, E0.blk, E1.blk]
      exact hQ _ ⟨rfl, E0.tr EX⟩
theorem spec_l4Ok_m {S : Nat → Prop} {cs : List Value} {p : PlaceD} {w : World} (ho : D tPlace S w cs p) : Ret (EV P 40 #[.agg cs.toArray] w) fun r => r.1 = .bool (placeOkS p) ∧ Ext w r.2 := by
  obtain ⟨a, c, a1, c1, a2, c2, rfl, h1, h2, h3⟩ := D.place.1 ho
  have n1 := h1.n
  have n2 := h2.n
  have n3 := h3.n
  refine Ret.post fun Q hQ => ?_
  refine Ret.enter plain mixed (spec_l4Ok_fn _ _) (by kernel_rfl) (n := 1) (by kernel_rfl) rfl ?_
  simp (maxSteps := 1000000) (disch := first | assumption | omega | (simp only [World.size_alloc, size_setRow, dw_size]; done) | (simp only [World.size_alloc, size_setRow, dw_size] <;> omega) | (simp only [List.length_set, Array.length_toList, List.length_cons, List.length_nil, List.length_append, bts_size] <;> omega) | (simp only [List.all_cons, List.all_nil, Value.oneCell', Bool.and_self, Bool.and_true]; done)) [-Option.bind_some, hp_alloc_lt, hp_alloc_eq, hp_set_ne, wrap_small, ups_ap_cons, ups_ap_nil, upd_same, upd_other, env0_ap0, env0_aps, xt_a, xt_b, xt_c, -splice_eq, -stR_cells, stR_box, stR_boxA, stR_row, stR_row0, stR_row1, stR_rowA, stR_rowA0, splice_rowv, splice_rowv0, splice_rowv1, splice_z, splice_n, splice_s, nth_rowv, nth_rowv0, nth_rowv1, rowv_len]
  refine Ret.bind (spec_l1In_c _ _ _ _) ?_
  rintro _ rfl
  cases b1 : (decide (0 ≤ p.me) && decide (p.me ≤ 2))
  · rw [show placeOkS p = false by simp only [placeOkS, b1, Bool.false_and, Bool.and_false]] at hQ
    simp (maxSteps := 1000000) (disch := first | assumption | omega | (simp only [World.size_alloc, size_setRow, dw_size]; done) | (simp only [World.size_alloc, size_setRow, dw_size] <;> omega) | (simp only [List.length_set, Array.length_toList, List.length_cons, List.length_nil, List.length_append, bts_size] <;> omega) | (simp only [List.all_cons, List.all_nil, Value.oneCell', Bool.and_self, Bool.and_true]; done)) [-Option.bind_some, hp_alloc_lt, hp_alloc_eq, hp_set_ne, wrap_small, ups_ap_cons, ups_ap_nil, upd_same, upd_other, env0_ap0, env0_aps, xt_a, xt_b, xt_c, -splice_eq, -stR_cells, stR_box, stR_boxA, stR_row, stR_row0, stR_row1, stR_rowA, stR_rowA0, splice_rowv, splice_rowv0, splice_rowv1, splice_z, splice_n, splice_s, nth_rowv, nth_rowv0, nth_rowv1, rowv_len]
    exact hQ _ ⟨rfl, by (repeat (first | exact Ext.rfl | assumption | (refine Ext.al ?_ _) | (refine Ext.dw ?_) | (refine Ext.set ?_ (by first | omega | (simp only [World.size_alloc, size_setRow, dw_size]; omega)) _) | (refine Ext.tr ?_ (by assumption))))⟩
  simp (maxSteps := 1000000) (disch := first | assumption | omega | (simp only [World.size_alloc, size_setRow, dw_size]; done) | (simp only [World.size_alloc, size_setRow, dw_size] <;> omega) | (simp only [List.length_set, Array.length_toList, List.length_cons, List.length_nil, List.length_append, bts_size] <;> omega) | (simp only [List.all_cons, List.all_nil, Value.oneCell', Bool.and_self, Bool.and_true]; done)) [-Option.bind_some, hp_alloc_lt, hp_alloc_eq, hp_set_ne, wrap_small, ups_ap_cons, ups_ap_nil, upd_same, upd_other, env0_ap0, env0_aps, xt_a, xt_b, xt_c, -splice_eq, -stR_cells, stR_box, stR_boxA, stR_row, stR_row0, stR_row1, stR_rowA, stR_rowA0, splice_rowv, splice_rowv0, splice_rowv1, splice_z, splice_n, splice_s, nth_rowv, nth_rowv0, nth_rowv1, rowv_len]
  refine Ret.bind (spec_l1In_c _ _ _ _) ?_
  rintro _ rfl
  cases b2 : (decide (0 ≤ p.clock) && decide (p.clock ≤ 999))
  · rw [show placeOkS p = false by simp only [placeOkS, b2, Bool.false_and, Bool.and_false]] at hQ
    simp (maxSteps := 1000000) (disch := first | assumption | omega | (simp only [World.size_alloc, size_setRow, dw_size]; done) | (simp only [World.size_alloc, size_setRow, dw_size] <;> omega) | (simp only [List.length_set, Array.length_toList, List.length_cons, List.length_nil, List.length_append, bts_size] <;> omega) | (simp only [List.all_cons, List.all_nil, Value.oneCell', Bool.and_self, Bool.and_true]; done)) [-Option.bind_some, hp_alloc_lt, hp_alloc_eq, hp_set_ne, wrap_small, ups_ap_cons, ups_ap_nil, upd_same, upd_other, env0_ap0, env0_aps, xt_a, xt_b, xt_c, -splice_eq, -stR_cells, stR_box, stR_boxA, stR_row, stR_row0, stR_row1, stR_rowA, stR_rowA0, splice_rowv, splice_rowv0, splice_rowv1, splice_z, splice_n, splice_s, nth_rowv, nth_rowv0, nth_rowv1, rowv_len]
    exact hQ _ ⟨rfl, by (repeat (first | exact Ext.rfl | assumption | (refine Ext.al ?_ _) | (refine Ext.dw ?_) | (refine Ext.set ?_ (by first | omega | (simp only [World.size_alloc, size_setRow, dw_size]; omega)) _) | (refine Ext.tr ?_ (by assumption))))⟩
  cases b5 : (p.got.length == 3)
  · rw [show placeOkS p = false by simp only [placeOkS, b5, Bool.false_and, Bool.and_false]] at hQ
    have b5' : ((p.got.length : Int) != 3) = true := by
      rw [bne_iff_ne]
      rw [beq_eq_false_iff_ne] at b5
      omega
    simp (maxSteps := 1000000) (disch := first | assumption | omega | (simp only [World.size_alloc, size_setRow, dw_size]; done) | (simp only [World.size_alloc, size_setRow, dw_size] <;> omega) | (simp only [List.length_set, Array.length_toList, List.length_cons, List.length_nil, List.length_append, bts_size] <;> omega) | (simp only [List.all_cons, List.all_nil, Value.oneCell', Bool.and_self, Bool.and_true]; done)) [-Option.bind_some, hp_alloc_lt, hp_alloc_eq, hp_set_ne, wrap_small, ups_ap_cons, ups_ap_nil, upd_same, upd_other, env0_ap0, env0_aps, xt_a, xt_b, xt_c, -splice_eq, -stR_cells, stR_box, stR_boxA, stR_row, stR_row0, stR_row1, stR_rowA, stR_rowA0, splice_rowv, splice_rowv0, splice_rowv1, splice_z, splice_n, splice_s, nth_rowv, nth_rowv0, nth_rowv1, rowv_len, b5']
    exact hQ _ ⟨rfl, by (repeat (first | exact Ext.rfl | assumption | (refine Ext.al ?_ _) | (refine Ext.dw ?_) | (refine Ext.set ?_ (by first | omega | (simp only [World.size_alloc, size_setRow, dw_size]; omega)) _) | (refine Ext.tr ?_ (by assumption))))⟩
  have b5' : ((p.got.length : Int) != 3) = false := by
    rw [beq_iff_eq] at b5
    simp [b5]
  have hg3 : p.got.length = 3 := by simpa using b5
  rw [hg3] at h3
  simp (maxSteps := 1000000) (disch := first | assumption | omega | (simp only [World.size_alloc, size_setRow, dw_size]; done) | (simp only [World.size_alloc, size_setRow, dw_size] <;> omega) | (simp only [List.length_set, Array.length_toList, List.length_cons, List.length_nil, List.length_append, bts_size] <;> omega) | (simp only [List.all_cons, List.all_nil, Value.oneCell', Bool.and_self, Bool.and_true]; done)) [-Option.bind_some, hp_alloc_lt, hp_alloc_eq, hp_set_ne, wrap_small, ups_ap_cons, ups_ap_nil, upd_same, upd_other, env0_ap0, env0_aps, xt_a, xt_b, xt_c, -splice_eq, -stR_cells, stR_box, stR_boxA, stR_row, stR_row0, stR_row1, stR_rowA, stR_rowA0, splice_rowv, splice_rowv0, splice_rowv1, splice_z, splice_n, splice_s, nth_rowv, nth_rowv0, nth_rowv1, rowv_len, b5', hg3, hg3]
  refine Ret.bind (spec_l3Ok_m (h1.ext (by (repeat (first | exact Ext.rfl | assumption | (refine Ext.al ?_ _) | (refine Ext.dw ?_) | (refine Ext.set ?_ (by first | omega | (simp only [World.size_alloc, size_setRow, dw_size]; omega)) _) | (refine Ext.tr ?_ (by assumption))))))) ?_
  rintro ⟨_, w1⟩ ⟨rfl, E1⟩
  try dsimp only at E1
  have zE1 := E1.size
  try simp only [World.size_alloc, size_setRow, dw_size] at zE1
  cases b3 : chainOk p.chain
  · rw [show placeOkS p = false by simp only [placeOkS, b3, Bool.false_and, Bool.and_false]] at hQ
    simp (maxSteps := 1000000) (disch := first | assumption | omega | (simp only [World.size_alloc, size_setRow, dw_size]; done) | (simp only [World.size_alloc, size_setRow, dw_size] <;> omega) | (simp only [List.length_set, Array.length_toList, List.length_cons, List.length_nil, List.length_append, bts_size] <;> omega) | (simp only [List.all_cons, List.all_nil, Value.oneCell', Bool.and_self, Bool.and_true]; done)) [-Option.bind_some, hp_alloc_lt, hp_alloc_eq, hp_set_ne, wrap_small, ups_ap_cons, ups_ap_nil, upd_same, upd_other, env0_ap0, env0_aps, xt_a, xt_b, xt_c, -splice_eq, -stR_cells, stR_box, stR_boxA, stR_row, stR_row0, stR_row1, stR_rowA, stR_rowA0, splice_rowv, splice_rowv0, splice_rowv1, splice_z, splice_n, splice_s, nth_rowv, nth_rowv0, nth_rowv1, rowv_len, hg3, E1.blk]
    exact hQ _ ⟨rfl, by (repeat (first | exact Ext.rfl | assumption | (refine Ext.al ?_ _) | (refine Ext.dw ?_) | (refine Ext.set ?_ (by first | omega | (simp only [World.size_alloc, size_setRow, dw_size]; omega)) _) | (refine Ext.tr ?_ (by assumption))))⟩
  simp (maxSteps := 1000000) (disch := first | assumption | omega | (simp only [World.size_alloc, size_setRow, dw_size]; done) | (simp only [World.size_alloc, size_setRow, dw_size] <;> omega) | (simp only [List.length_set, Array.length_toList, List.length_cons, List.length_nil, List.length_append, bts_size] <;> omega) | (simp only [List.all_cons, List.all_nil, Value.oneCell', Bool.and_self, Bool.and_true]; done)) [-Option.bind_some, hp_alloc_lt, hp_alloc_eq, hp_set_ne, wrap_small, ups_ap_cons, ups_ap_nil, upd_same, upd_other, env0_ap0, env0_aps, xt_a, xt_b, xt_c, -splice_eq, -stR_cells, stR_box, stR_boxA, stR_row, stR_row0, stR_row1, stR_rowA, stR_rowA0, splice_rowv, splice_rowv0, splice_rowv1, splice_z, splice_n, splice_s, nth_rowv, nth_rowv0, nth_rowv1, rowv_len, b5', hg3, hg3, E1.blk]
  refine Ret.bind (spec_l4Causes_m b3 (h1.ext (by (repeat (first | exact Ext.rfl | assumption | (refine Ext.al ?_ _) | (refine Ext.dw ?_) | (refine Ext.set ?_ (by first | omega | (simp only [World.size_alloc, size_setRow, dw_size]; omega)) _) | (refine Ext.tr ?_ (by assumption))))))) ?_
  rintro ⟨_, w2⟩ ⟨rfl, E2⟩
  try dsimp only at E2
  have zE2 := E2.size
  try simp only [World.size_alloc, size_setRow, dw_size] at zE2
  cases b6 : causesP (tagsOf (lastStore p.chain)) p.chain
  · rw [show placeOkS p = false by simp only [placeOkS, b6, Bool.false_and, Bool.and_false]] at hQ
    simp (maxSteps := 1000000) (disch := first | assumption | omega | (simp only [World.size_alloc, size_setRow, dw_size]; done) | (simp only [World.size_alloc, size_setRow, dw_size] <;> omega) | (simp only [List.length_set, Array.length_toList, List.length_cons, List.length_nil, List.length_append, bts_size] <;> omega) | (simp only [List.all_cons, List.all_nil, Value.oneCell', Bool.and_self, Bool.and_true]; done)) [-Option.bind_some, hp_alloc_lt, hp_alloc_eq, hp_set_ne, wrap_small, ups_ap_cons, ups_ap_nil, upd_same, upd_other, env0_ap0, env0_aps, xt_a, xt_b, xt_c, -splice_eq, -stR_cells, stR_box, stR_boxA, stR_row, stR_row0, stR_row1, stR_rowA, stR_rowA0, splice_rowv, splice_rowv0, splice_rowv1, splice_z, splice_n, splice_s, nth_rowv, nth_rowv0, nth_rowv1, rowv_len, hg3, E1.blk, E2.blk]
    exact hQ _ ⟨rfl, by (repeat (first | exact Ext.rfl | assumption | (refine Ext.al ?_ _) | (refine Ext.dw ?_) | (refine Ext.set ?_ (by first | omega | (simp only [World.size_alloc, size_setRow, dw_size]; omega)) _) | (refine Ext.tr ?_ (by assumption))))⟩
  simp (maxSteps := 1000000) (disch := first | assumption | omega | (simp only [World.size_alloc, size_setRow, dw_size]; done) | (simp only [World.size_alloc, size_setRow, dw_size] <;> omega) | (simp only [List.length_set, Array.length_toList, List.length_cons, List.length_nil, List.length_append, bts_size] <;> omega) | (simp only [List.all_cons, List.all_nil, Value.oneCell', Bool.and_self, Bool.and_true]; done)) [-Option.bind_some, hp_alloc_lt, hp_alloc_eq, hp_set_ne, wrap_small, ups_ap_cons, ups_ap_nil, upd_same, upd_other, env0_ap0, env0_aps, xt_a, xt_b, xt_c, -splice_eq, -stR_cells, stR_box, stR_boxA, stR_row, stR_row0, stR_row1, stR_rowA, stR_rowA0, splice_rowv, splice_rowv0, splice_rowv1, splice_z, splice_n, splice_s, nth_rowv, nth_rowv0, nth_rowv1, rowv_len, b5', hg3, hg3, E1.blk, E2.blk]
  refine Ret.bind (spec_l4Log_m (h2.ext (by (repeat (first | exact Ext.rfl | assumption | (refine Ext.al ?_ _) | (refine Ext.dw ?_) | (refine Ext.set ?_ (by first | omega | (simp only [World.size_alloc, size_setRow, dw_size]; omega)) _) | (refine Ext.tr ?_ (by assumption))))))) ?_
  rintro ⟨_, w3⟩ ⟨rfl, E3⟩
  try dsimp only at E3
  have zE3 := E3.size
  try simp only [World.size_alloc, size_setRow, dw_size] at zE3
  cases b4 : logOkP p.log p.me
  · rw [show placeOkS p = false by simp only [placeOkS, b4, Bool.false_and, Bool.and_false]] at hQ
    simp (maxSteps := 1000000) (disch := first | assumption | omega | (simp only [World.size_alloc, size_setRow, dw_size]; done) | (simp only [World.size_alloc, size_setRow, dw_size] <;> omega) | (simp only [List.length_set, Array.length_toList, List.length_cons, List.length_nil, List.length_append, bts_size] <;> omega) | (simp only [List.all_cons, List.all_nil, Value.oneCell', Bool.and_self, Bool.and_true]; done)) [-Option.bind_some, hp_alloc_lt, hp_alloc_eq, hp_set_ne, wrap_small, ups_ap_cons, ups_ap_nil, upd_same, upd_other, env0_ap0, env0_aps, xt_a, xt_b, xt_c, -splice_eq, -stR_cells, stR_box, stR_boxA, stR_row, stR_row0, stR_row1, stR_rowA, stR_rowA0, splice_rowv, splice_rowv0, splice_rowv1, splice_z, splice_n, splice_s, nth_rowv, nth_rowv0, nth_rowv1, rowv_len, hg3, E1.blk, E2.blk, E3.blk]
    exact hQ _ ⟨rfl, by (repeat (first | exact Ext.rfl | assumption | (refine Ext.al ?_ _) | (refine Ext.dw ?_) | (refine Ext.set ?_ (by first | omega | (simp only [World.size_alloc, size_setRow, dw_size]; omega)) _) | (refine Ext.tr ?_ (by assumption))))⟩
  obtain ⟨x, hx, hno, hl0, hl4⟩ := chainOk_head b3
  have hs4 := (storeOk_iff.1 (nodeOk_parts hno).1).2
  rw [show placeOkS p = (gotGo p.me 0 p.got && headP p.clock p.chain) by simp only [placeOkS, b1, b2, b3, b4, b5, b6, Bool.true_and]] at hQ
  simp (maxSteps := 1000000) (disch := first | assumption | omega | (simp only [World.size_alloc, size_setRow, dw_size]; done) | (simp only [World.size_alloc, size_setRow, dw_size] <;> omega) | (simp only [List.length_set, Array.length_toList, List.length_cons, List.length_nil, List.length_append, bts_size] <;> omega) | (simp only [List.all_cons, List.all_nil, Value.oneCell', Bool.and_self, Bool.and_true]; done)) [-Option.bind_some, hp_alloc_lt, hp_alloc_eq, hp_set_ne, wrap_small, ups_ap_cons, ups_ap_nil, upd_same, upd_other, env0_ap0, env0_aps, xt_a, xt_b, xt_c, -splice_eq, -stR_cells, stR_box, stR_boxA, stR_row, stR_row0, stR_row1, stR_rowA, stR_rowA0, splice_rowv, splice_rowv0, splice_rowv1, splice_z, splice_n, splice_s, nth_rowv, nth_rowv0, nth_rowv1, rowv_len, b5', hg3, hg3, E1.blk, E2.blk, E3.blk]
  have EX : Ext w w3 := by (repeat (first | exact Ext.rfl | assumption | (refine Ext.al ?_ _) | (refine Ext.dw ?_) | (refine Ext.set ?_ (by first | omega | (simp only [World.size_alloc, size_setRow, dw_size]; omega)) _) | (refine Ext.tr ?_ (by assumption))))
  refine Ret.mono (spec_l4Ok_n1 (g1 := w.heap.size) (me := p.me) (clock := p.clock) (fl := p.fell) (x3 := .slice a1 p.log.length c1) (w0 := w3) hx hs4 hg3 (h1.ext EX) (h3.ext EX) (by first | assumption | rfl | (simp (maxSteps := 1000000) (disch := first | assumption | omega | (simp only [World.size_alloc, size_setRow, dw_size]; done) | (simp only [World.size_alloc, size_setRow, dw_size] <;> omega) | (simp only [List.length_set, Array.length_toList, List.length_cons, List.length_nil, List.length_append, bts_size] <;> omega) | (simp only [List.all_cons, List.all_nil, Value.oneCell', Bool.and_self, Bool.and_true]; done)) [-Option.bind_some, hp_alloc_lt, hp_alloc_eq, hp_set_ne, wrap_small, ups_ap_cons, ups_ap_nil, upd_same, upd_other, env0_ap0, env0_aps, xt_a, xt_b, xt_c, hg3, hg3, E1.blk, E2.blk, E3.blk]; done)) 3 0 _ w3 (by omega) (by first | omega | assumption | rfl | exact congrArg i64 (by omega) | (simp; done) | (simp; omega)) rfl Ext.rfl) ?_
  rintro r ⟨h4, h5⟩
  exact hQ _ ⟨h4, EX.tr h5⟩
theorem fits_mono : ∀ (w s t : List Ver), fitsL s w t = true → ∀ (k : Nat) (a : Ver), s[k]? = some a → ∃ b, t[k]? = some b ∧ tagLess b.tag a.tag = false
  | [], s, t, h, k, a, ha => by
    obtain rfl := sameV_iff.1 (show sameV s t = true from h)
    exact ⟨a, ha, less_self _⟩
  | v :: w, s, t, h, k, a, ha => by
    cases hs : s[v.key.toNat]? with
    | none => rw [fitsL, hs] at h; cases h
    | some u =>
      rw [fitsL, hs] at h
      simp only [Bool.and_eq_true] at h
      have hlt := (List.getElem?_eq_some_iff.1 hs).1
      by_cases hk : v.key.toNat = k
      · subst hk
        rw [hs] at ha
        obtain rfl := Option.some.inj ha
        obtain ⟨b, hb, hl⟩ := fits_mono w _ t h.2 v.key.toNat v (List.getElem?_set_self hlt)
        refine ⟨b, hb, ?_⟩
        cases hc : tagLess b.tag u.tag
        · rfl
        · rw [less_tr hc h.1] at hl; cases hl
      · exact fits_mono w _ t h.2 k a (by rw [List.getElem?_set_ne hk]; exact ha)
theorem fits_le : ∀ (w s t : List Ver), fitsL s w t = true → ∀ v ∈ w, ∃ b ∈ t, tagLess b.tag v.tag = false
  | [], _, _, _, v, hv => by simp at hv
  | v :: w, s, t, h, u, hu => by
    cases hs : s[v.key.toNat]? with
    | none => rw [fitsL, hs] at h; cases h
    | some z =>
      rw [fitsL, hs] at h
      simp only [Bool.and_eq_true] at h
      have hlt := (List.getElem?_eq_some_iff.1 hs).1
      rcases List.mem_cons.1 hu with rfl | hu
      · obtain ⟨b, hb, hl⟩ := fits_mono w _ t h.2 u.key.toNat u (List.getElem?_set_self hlt)
        exact ⟨b, List.mem_of_getElem? hb, hl⟩
      · exact fits_le w _ t h.2 u hu
theorem zero_iff {t : Tag} (h : tagOk t = true) : (t == Tag.zero) = !decide (0 < t.t) := by
  rw [tag_beq, show Tag.zero.t = 0 from rfl, show Tag.zero.p = 0 from rfl]
  simp only [tagOk, Bool.or_eq_true, Bool.and_eq_true, beq_iff_eq, decide_eq_true_eq] at h
  rw [Bool.eq_iff_iff]
  simp only [Bool.and_eq_true, beq_iff_eq, Bool.not_eq_true', decide_eq_false_iff_not]
  omega
theorem ver_pos {v : Ver} (h : verOk v = true) : 0 < v.tag.t := by
  simp only [verOk, Bool.and_eq_true, decide_eq_true_eq] at h
  have := Go.Ev.latest_ge v.past 0
  omega
theorem all_eq {α : Type} {l : List α} {f g : α → Bool} (h : ∀ x ∈ l, f x = g x) : l.all f = l.all g := by
  rw [Bool.eq_iff_iff, List.all_eq_true, List.all_eq_true]
  exact ⟨fun k x hx => (h x hx) ▸ k x hx, fun k x hx => (h x hx).symm ▸ k x hx⟩
theorem node_all {x : CNode} (stable : List Tag) (h : nodeOk x = true) : ((x.store ++ x.wait).all fun v => (v.tag == Tag.zero) || under v.past stable) = ((x.store.all fun v => !decide (0 < v.tag.t) || under v.past stable) && x.wait.all fun v => under v.past stable) := by
  obtain ⟨h1, _, h3⟩ := nodeOk_parts h
  rw [List.all_append, all_eq (g := fun v => !decide (0 < v.tag.t) || under v.past stable) (l := x.store) fun v hv => by rw [zero_iff (store_tags h1 v hv)],
    all_eq (g := fun v => under v.past stable) (l := x.wait) fun v hv => by
      have hvo := h3 v hv
      have ht : tagOk v.tag = true := by
        simp only [verOk, Bool.and_eq_true] at hvo
        exact hvo.2.1
      rw [zero_iff ht, decide_eq_true (ver_pos hvo)]
      rfl]
theorem causesP_cons (stable : List Tag) (x : CNode) (l : List CNode) : causesP stable (x :: l) = (((x.store.all fun v => !decide (0 < v.tag.t) || under v.past stable) && x.wait.all fun v => under v.past stable) && causesP stable l) := by
  unfold causesP
  rw [List.all_cons]
theorem nodesGo_pos (stable : List Tag) (clock : Int) : ∀ (ns : List CNode) (k : Nat), 0 < k → (∀ x ∈ ns, nodeOk x = true) → nodesGo stable clock k ns = causesP stable ns
  | [], _, _, _ => rfl
  | x :: l, k, hk, h => by
    have ih := nodesGo_pos stable clock l (k + 1) (by omega) fun y hy => h y (List.mem_cons_of_mem _ hy)
    have hx := h x List.mem_cons_self
    have h0 : (k == 0) = false := by rw [beq_eq_false_iff_ne]; omega
    rw [nodesGo, ih, causesP_cons, ← node_all stable hx]
    rw [all_eq (g := fun v => (v.tag == Tag.zero) || under v.past stable) (l := x.store ++ x.wait) fun v _ => by simp only [placeV, h0, Bool.not_false, Bool.true_or, Bool.and_true]]
theorem nodesGo_head {ns : List CNode} (stable : List Tag) (clock : Int) (h : chainOk ns = true) : nodesGo stable clock 0 ns = (causesP stable ns && headP clock ns) := by
  have hall : ∀ x ∈ ns, nodeOk x = true := by
    simp only [chainOk, Bool.and_eq_true, List.all_eq_true] at h
    exact h.1.2
  have hlk : links ns = true := by
    simp only [chainOk, Bool.and_eq_true] at h
    exact h.2
  cases ns with
  | nil => rfl
  | cons x l =>
    have hx := hall x List.mem_cons_self
    have hwl : ∀ v ∈ x.wait, ∃ b ∈ x.store, tagLess b.tag v.tag = false := by
      cases l with
      | nil =>
        simp only [links, beq_iff_eq, List.length_eq_zero_iff] at hlk
        rw [hlk]
        simp
      | cons y l =>
        have he : links (x :: y :: l) = (fitsL y.store x.wait x.store && links (y :: l)) := by rw [links]
        rw [he, Bool.and_eq_true] at hlk
        exact fits_le _ _ _ hlk.1
    have hsp : ((x.store ++ x.wait).all (placeV stable clock 0)) = (((x.store ++ x.wait).all fun v => (v.tag == Tag.zero) || under v.past stable) && x.store.all fun v => decide (v.tag.t ≤ clock)) := by
      rw [Bool.eq_iff_iff]
      simp only [Bool.and_eq_true, List.all_eq_true, placeV, beq_self_eq_true, Bool.not_true, Bool.false_or, decide_eq_true_eq]
      constructor
      · intro k
        exact ⟨fun v hv => (k v hv).1, fun v hv => (k v (List.mem_append_left _ hv)).2⟩
      · rintro ⟨k1, k2⟩ v hv
        refine ⟨k1 v hv, ?_⟩
        rcases List.mem_append.1 hv with hv | hv
        · exact k2 v hv
        · obtain ⟨b, hb, hl⟩ := hwl v hv
          have := k2 b hb
          rw [less_no] at hl
          omega
    rw [nodesGo, nodesGo_pos stable clock l 1 (by omega) fun y hy => hall y (List.mem_cons_of_mem _ hy), hsp, node_all stable hx]
    show _ = (causesP stable (x :: l) && x.store.all fun v => decide (v.tag.t ≤ clock))
    rw [causesP_cons]
    generalize (x.store.all fun v => decide (v.tag.t ≤ clock)) = A
    generalize causesP stable l = B
    cases A <;> cases B <;> simp only [Bool.and_true, Bool.and_false, Bool.false_and]
theorem placeOk_same (p : PlaceD) : placeOkS p = placeOkP p := by
  unfold placeOkS placeOkP
  cases h : chainOk p.chain
  · simp only [Bool.and_false, Bool.false_and]
  · rw [nodesGo_head _ _ h]
    generalize causesP (tagsOf (lastStore p.chain)) p.chain = b1
    generalize headP p.clock p.chain = b2
    generalize logOkP p.log p.me = b3
    generalize (p.got.length == 3) = b4
    generalize gotGo p.me 0 p.got = b5
    generalize (decide (0 ≤ p.me) && decide (p.me ≤ 2)) = b6
    generalize (decide (0 ≤ p.clock) && decide (p.clock ≤ 999)) = b7
    cases b1 <;> cases b2 <;> cases b3 <;> cases b4 <;> cases b5 <;> cases b6 <;> cases b7 <;> rfl
theorem spec_PlaceOk_m {S : Nat → Prop} {cs : List Value} {p : PlaceD} {w : World} (ho : D tPlace S w cs p) : Ret (EV P 13 #[.agg cs.toArray] w) fun r => r.1 = .bool (placeOkP p) ∧ Ext w r.2 := by
  have ho' := D.place.1 ho
  obtain ⟨a, c, a1, c1, a2, c2, rfl, _⟩ := ho'
  rw [← placeOk_same]
  refine Ret.post fun Q hQ => ?_
  refine Ret.enter plain mixed (spec_PlaceOk_fn _ _) (by kernel_rfl) (n := 1) (by kernel_rfl) rfl ?_
  simp (maxSteps := 1000000) (disch := first | assumption | omega | (simp only [World.size_alloc, size_setRow, dw_size]; done) | (simp only [World.size_alloc, size_setRow, dw_size] <;> omega) | (simp only [List.length_set, Array.length_toList, List.length_cons, List.length_nil, List.length_append, bts_size] <;> omega) | (simp only [List.all_cons, List.all_nil, Value.oneCell', Bool.and_self, Bool.and_true]; done)) [-Option.bind_some, hp_alloc_lt, hp_alloc_eq, hp_set_ne, wrap_small, ups_ap_cons, ups_ap_nil, upd_same, upd_other, env0_ap0, env0_aps, xt_a, xt_b, xt_c, -splice_eq, -stR_cells, stR_box, stR_boxA, stR_row, stR_row0, stR_row1, stR_rowA, stR_rowA0, splice_rowv, splice_rowv0, splice_rowv1, splice_z, splice_n, splice_s, nth_rowv, nth_rowv0, nth_rowv1, rowv_len]
  refine Ret.bind (spec_l4Ok_m (ho.ext (by (repeat (first | exact Ext.rfl | assumption | (refine Ext.al ?_ _) | (refine Ext.dw ?_) | (refine Ext.set ?_ (by first | omega | (simp only [World.size_alloc, size_setRow, dw_size]; omega)) _) | (refine Ext.tr ?_ (by assumption))))))) ?_
  rintro ⟨_, w1⟩ ⟨rfl, E1⟩
  try dsimp only at E1
  have zE1 := E1.size
  try simp only [World.size_alloc, size_setRow, dw_size] at zE1
  simp (maxSteps := 1000000) (disch := first | assumption | omega | (simp only [World.size_alloc, size_setRow, dw_size]; done) | (simp only [World.size_alloc, size_setRow, dw_size] <;> omega) | (simp only [List.length_set, Array.length_toList, List.length_cons, List.length_nil, List.length_append, bts_size] <;> omega) | (simp only [List.all_cons, List.all_nil, Value.oneCell', Bool.and_self, Bool.and_true]; done)) [-Option.bind_some, hp_alloc_lt, hp_alloc_eq, hp_set_ne, wrap_small, ups_ap_cons, ups_ap_nil, upd_same, upd_other, env0_ap0, env0_aps, xt_a, xt_b, xt_c, -splice_eq, -stR_cells, stR_box, stR_boxA, stR_row, stR_row0, stR_row1, stR_rowA, stR_rowA0, splice_rowv, splice_rowv0, splice_rowv1, splice_z, splice_n, splice_s, nth_rowv, nth_rowv0, nth_rowv1, rowv_len, E1.blk]
  exact hQ _ ⟨rfl, by (repeat (first | exact Ext.rfl | assumption | (refine Ext.al ?_ _) | (refine Ext.dw ?_) | (refine Ext.set ?_ (by first | omega | (simp only [World.size_alloc, size_setRow, dw_size]; omega)) _) | (refine Ext.tr ?_ (by assumption))))⟩
end Go.Proofs.YtggmfmanpjcjkaaGreat.X
set_option linter.unusedVariables false
set_option linter.unusedSimpArgs false
set_option maxRecDepth 100000
set_option maxHeartbeats 1000000
namespace Go.Proofs.YtggmfmanpjcjkaaGreat.X
open Go Go.Ev Go.RowKit
theorem laws_toPlace_m {S : Nat → Prop} {cs : List Value} {x : PlaceD} {w : World} (ha : D tPlace S w cs x) :
    Ret (EV P 14 #[.agg cs.toArray] w) fun r => ∃ ds, r.1 = .agg ds.toArray ∧ O tPlace (In w.heap.size r.2.heap.size) r.2 ds x ∧ Ext w r.2 := by
  obtain ⟨a, c, a1, c1, a2, c2, rfl, h1, h2, h3⟩ := D.place.1 ha
  refine Ret.post fun Q hQ => ?_
  refine Ret.enter plain mixed (laws_toPlace_fn _ _) (by kernel_rfl) (n := 1) (by kernel_rfl) rfl ?_
  simp (maxSteps := 1000000) (disch := first | assumption | omega | (simp only [World.size_alloc, size_setRow, dw_size]; done) | (simp only [World.size_alloc, size_setRow, dw_size] <;> omega) | (simp only [List.length_set, Array.length_toList, List.length_cons, List.length_nil, List.length_append, bts_size] <;> omega) | (simp only [List.all_cons, List.all_nil, Value.oneCell', Bool.and_self, Bool.and_true]; done)) [-Option.bind_some, hp_alloc_lt, hp_alloc_eq, hp_set_ne, wrap_small, ups_ap_cons, ups_ap_nil, upd_same, upd_other, env0_ap0, env0_aps, xt_a, xt_b, xt_c, -splice_eq, -stR_cells, stR_box, stR_boxA, stR_row, stR_row0, stR_row1, stR_rowA, stR_rowA0, splice_rowv, splice_rowv0, splice_rowv1, splice_z, splice_n, splice_s, nth_rowv, nth_rowv0, nth_rowv1, rowv_len]
  refine Ret.bind (laws_toChain_m (h1.ext (by (repeat (first | exact Ext.rfl | assumption | (refine Ext.al ?_ _) | (refine Ext.dw ?_) | (refine Ext.set ?_ (by first | omega | (simp only [World.size_alloc, size_setRow, dw_size]; omega)) _) | (refine Ext.tr ?_ (by assumption))))))) ?_
  rintro ⟨_, w1⟩ ⟨d1, rfl, o1, E1⟩
  try dsimp only at d1 o1 E1
  have zE1 := E1.size
  try simp only [World.size_alloc, size_setRow, dw_size] at zE1
  obtain ⟨b1, i1, rfl, o1⟩ := o1.sl'
  simp (maxSteps := 1000000) (disch := first | assumption | omega | (simp only [World.size_alloc, size_setRow, dw_size]; done) | (simp only [World.size_alloc, size_setRow, dw_size] <;> omega) | (simp only [List.length_set, Array.length_toList, List.length_cons, List.length_nil, List.length_append, bts_size] <;> omega) | (simp only [List.all_cons, List.all_nil, Value.oneCell', Bool.and_self, Bool.and_true]; done)) [-Option.bind_some, hp_alloc_lt, hp_alloc_eq, hp_set_ne, wrap_small, ups_ap_cons, ups_ap_nil, upd_same, upd_other, env0_ap0, env0_aps, xt_a, xt_b, xt_c, -splice_eq, -stR_cells, stR_box, stR_boxA, stR_row, stR_row0, stR_row1, stR_rowA, stR_rowA0, splice_rowv, splice_rowv0, splice_rowv1, splice_z, splice_n, splice_s, nth_rowv, nth_rowv0, nth_rowv1, rowv_len, E1.blk]
  refine Ret.bind (laws_toVerS_m (h2.ext (by (repeat (first | exact Ext.rfl | assumption | (refine Ext.al ?_ _) | (refine Ext.dw ?_) | (refine Ext.set ?_ (by first | omega | (simp only [World.size_alloc, size_setRow, dw_size]; omega)) _) | (refine Ext.tr ?_ (by assumption))))))) ?_
  rintro ⟨_, w2⟩ ⟨b2, i2, rfl, o2, E2⟩
  try dsimp only at b2 i2 o2 E2
  have zE2 := E2.size
  try simp only [World.size_alloc, size_setRow, dw_size] at zE2
  simp (maxSteps := 1000000) (disch := first | assumption | omega | (simp only [World.size_alloc, size_setRow, dw_size]; done) | (simp only [World.size_alloc, size_setRow, dw_size] <;> omega) | (simp only [List.length_set, Array.length_toList, List.length_cons, List.length_nil, List.length_append, bts_size] <;> omega) | (simp only [List.all_cons, List.all_nil, Value.oneCell', Bool.and_self, Bool.and_true]; done)) [-Option.bind_some, hp_alloc_lt, hp_alloc_eq, hp_set_ne, wrap_small, ups_ap_cons, ups_ap_nil, upd_same, upd_other, env0_ap0, env0_aps, xt_a, xt_b, xt_c, -splice_eq, -stR_cells, stR_box, stR_boxA, stR_row, stR_row0, stR_row1, stR_rowA, stR_rowA0, splice_rowv, splice_rowv0, splice_rowv1, splice_z, splice_n, splice_s, nth_rowv, nth_rowv0, nth_rowv1, rowv_len, E1.blk, E2.blk]
  refine Ret.bind (laws_toVerSS_m (h3.ext (by (repeat (first | exact Ext.rfl | assumption | (refine Ext.al ?_ _) | (refine Ext.dw ?_) | (refine Ext.set ?_ (by first | omega | (simp only [World.size_alloc, size_setRow, dw_size]; omega)) _) | (refine Ext.tr ?_ (by assumption))))))) ?_
  rintro ⟨_, w3⟩ ⟨b3, i3, rfl, o3, E3⟩
  try dsimp only at b3 i3 o3 E3
  have zE3 := E3.size
  try simp only [World.size_alloc, size_setRow, dw_size] at zE3
  simp (maxSteps := 1000000) (disch := first | assumption | omega | (simp only [World.size_alloc, size_setRow, dw_size]; done) | (simp only [World.size_alloc, size_setRow, dw_size] <;> omega) | (simp only [List.length_set, Array.length_toList, List.length_cons, List.length_nil, List.length_append, bts_size] <;> omega) | (simp only [List.all_cons, List.all_nil, Value.oneCell', Bool.and_self, Bool.and_true]; done)) [-Option.bind_some, hp_alloc_lt, hp_alloc_eq, hp_set_ne, wrap_small, ups_ap_cons, ups_ap_nil, upd_same, upd_other, env0_ap0, env0_aps, xt_a, xt_b, xt_c, -splice_eq, -stR_cells, stR_box, stR_boxA, stR_row, stR_row0, stR_row1, stR_rowA, stR_rowA0, splice_rowv, splice_rowv0, splice_rowv1, splice_z, splice_n, splice_s, nth_rowv, nth_rowv0, nth_rowv1, rowv_len, E1.blk, E2.blk, E3.blk]
  refine hQ _ ⟨[_, _, _, _, _, _], rfl, (O.place_mk (p := x) (o1.keep (by intro b hS hb; (try dsimp only at hS); (try simp only [In, World.size_alloc, size_setRow, dw_size] at hS hb); first | rfl | (simp (disch := first | assumption | omega | (simp only [World.size_alloc, size_setRow, dw_size]; omega) | (simp only [World.size_alloc, size_setRow, dw_size, In]; omega)) only [E1.blk, E2.blk, E3.blk, hp_alloc_lt, hp_set_ne, hp_dw]; done))) (o2.keep (by intro b hS hb; (try dsimp only at hS); (try simp only [In, World.size_alloc, size_setRow, dw_size] at hS hb); first | rfl | (simp (disch := first | assumption | omega | (simp only [World.size_alloc, size_setRow, dw_size]; omega) | (simp only [World.size_alloc, size_setRow, dw_size, In]; omega)) only [E1.blk, E2.blk, E3.blk, hp_alloc_lt, hp_set_ne, hp_dw]; done))) (o3.keep (by intro b hS hb; (try dsimp only at hS); (try simp only [In, World.size_alloc, size_setRow, dw_size] at hS hb); first | rfl | (simp (disch := first | assumption | omega | (simp only [World.size_alloc, size_setRow, dw_size]; omega) | (simp only [World.size_alloc, size_setRow, dw_size, In]; omega)) only [E1.blk, E2.blk, E3.blk, hp_alloc_lt, hp_set_ne, hp_dw]; done))) (by intro x hx h; (try dsimp only at h); (try simp only [In, World.size_alloc, size_setRow, dw_size] at *); omega) (by intro x hx h; (try dsimp only at h); (try simp only [In, World.size_alloc, size_setRow, dw_size] at *); omega) (by intro x hx h; (try dsimp only at h); (try simp only [In, World.size_alloc, size_setRow, dw_size] at *); omega)).wide (by intro b h1 h2; (try dsimp only at h1); (try simp only [In, World.size_alloc, size_setRow, dw_size] at *); omega), by (repeat (first | exact Ext.rfl | assumption | (refine Ext.al ?_ _) | (refine Ext.dw ?_) | (refine Ext.set ?_ (by first | omega | (simp only [World.size_alloc, size_setRow, dw_size]; omega)) _) | (refine Ext.tr ?_ (by assumption))))⟩
end Go.Proofs.YtggmfmanpjcjkaaGreat.X
