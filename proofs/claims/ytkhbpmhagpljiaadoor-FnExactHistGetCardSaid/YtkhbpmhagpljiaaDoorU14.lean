/- A part of the proof: an evaluator of the model, its laws, and contracts of functions; no condition. -/
import Derived.Test.YtkhbpmhagpljiaaDoorEvTa
import Derived.Test.YtkhbpmhagpljiaaDoorH2
import Derived.Test.YtkhbpmhagpljiaaDoorEvJ
import Derived.Test.YtkhbpmhagpljiaaDoorEvR
set_option linter.unusedVariables false
set_option linter.unusedSimpArgs false
set_option maxRecDepth 100000
set_option maxHeartbeats 1000000
namespace Go.Proofs.YtkhbpmhagpljiaaDoor.X
open Go Go.Ev Go.RowKit
theorem lineL_len {d : Done} (h : opOk d = true) : (lineL d).length ≤ 2020 := by
  obtain ⟨a1, a2, a3, a4, _⟩ := opOk_iff.1 h
  have h1 := decL_len d.sess.toNat
  have h2 := decL_len d.key.toNat
  have h3 := tagL_len a4
  have h4 : (kindL d.kind).length ≤ 5 := by unfold kindL; split; decide; split <;> decide
  simp only [lineL, List.length_append, List.length_cons]
  omega
theorem histL_len : ∀ {l : List Done}, (∀ d ∈ l, opOk d = true) → (histL l).length ≤ 2021 * l.length
  | [], _ => by simp [histL]
  | d :: l, h => by
    have h1 := lineL_len (h d List.mem_cons_self)
    have h2 := histL_len (l := l) fun x hx => h x (List.mem_cons_of_mem _ hx)
    simp only [histL, List.length_append, List.length_cons]
    omega
theorem doneNames_m (w : World) : Ret (EV P 20 #[] w) fun r => ∃ g, r.1 = .slice (some ⟨g, 0, none⟩) 4 4 ∧ StrAt r.2 g 0 kindWs ∧ Ext w r.2 := by
  refine Ret.post fun Q hQ => ?_
  refine Ret.enter plain mixed (impl_doneNames_fn _) (by kernel_rfl) (n := 0) (by kernel_rfl) rfl ?_
  simp (maxSteps := 1000000) (disch := first | assumption | omega | (simp only [World.size_alloc, size_setRow, dw_size]; done) | (simp only [World.size_alloc, size_setRow, dw_size] <;> omega) | (simp only [List.length_set, Array.length_toList, List.length_cons, List.length_nil, List.length_append, bts_size] <;> omega) | (simp only [List.all_cons, List.all_nil, Value.oneCell', Bool.and_self, Bool.and_true]; done)) [-Option.bind_some, hp_alloc_lt, hp_alloc_eq, hp_set_ne, wrap_small, ups_ap_cons, ups_ap_nil, upd_same, upd_other, env0_ap0, env0_aps, xt_a, xt_b, xt_c, nk_ptr, -splice_eq, -stR_cells, stR_box, stR_boxA, stR_row, stR_row0, stR_row1, stR_rowA, stR_rowA0, splice_rowv, splice_rowv0, splice_rowv1, splice_z, splice_n, splice_s, nth_rowv, nth_rowv0, nth_rowv1, rowv_len]
  refine hQ _ ⟨_, rfl, fun i x hx => ?_, by (repeat (first | exact Ext.rfl | assumption | (refine Ext.al ?_ _) | (refine Ext.dw ?_) | (refine Ext.set ?_ (by first | omega | (simp only [World.size_alloc, size_setRow, dw_size]; omega)) _) | (refine Ext.tr ?_ (by assumption))))⟩
  exact At.new (w := w) (cs := kindWs.map fun x => Value.string (bts x)) (E := 9) i _ (by rw [List.getElem?_map, hx]; rfl)
theorem l6Words_m (w : World) : Ret (EV P 27 #[] w) fun r => ∃ g, r.1 = .slice (some ⟨g, 0, none⟩) 4 4 ∧ StrAt r.2 g 0 kindWs ∧ Ext w r.2 := by
  refine Ret.post fun Q hQ => ?_
  refine Ret.enter plain mixed (spec_l6Words_fn _) (by kernel_rfl) (n := 0) (by kernel_rfl) rfl ?_
  simp (maxSteps := 1000000) (disch := first | assumption | omega | (simp only [World.size_alloc, size_setRow, dw_size]; done) | (simp only [World.size_alloc, size_setRow, dw_size] <;> omega) | (simp only [List.length_set, Array.length_toList, List.length_cons, List.length_nil, List.length_append, bts_size] <;> omega) | (simp only [List.all_cons, List.all_nil, Value.oneCell', Bool.and_self, Bool.and_true]; done)) [-Option.bind_some, hp_alloc_lt, hp_alloc_eq, hp_set_ne, wrap_small, ups_ap_cons, ups_ap_nil, upd_same, upd_other, env0_ap0, env0_aps, xt_a, xt_b, xt_c, nk_ptr, -splice_eq, -stR_cells, stR_box, stR_boxA, stR_row, stR_row0, stR_row1, stR_rowA, stR_rowA0, splice_rowv, splice_rowv0, splice_rowv1, splice_z, splice_n, splice_s, nth_rowv, nth_rowv0, nth_rowv1, rowv_len]
  refine hQ _ ⟨_, rfl, fun i x hx => ?_, by (repeat (first | exact Ext.rfl | assumption | (refine Ext.al ?_ _) | (refine Ext.dw ?_) | (refine Ext.set ?_ (by first | omega | (simp only [World.size_alloc, size_setRow, dw_size]; omega)) _) | (refine Ext.tr ?_ (by assumption))))⟩
  exact At.new (w := w) (cs := kindWs.map fun x => Value.string (bts x)) (E := 9) i _ (by rw [List.getElem?_map, hx]; rfl)
theorem HistPut_n {a : Option Addr} {c b B : Nat} {S : Nat → Prop} {xs : List Done} {w0 : World} (G : Glob w0) (hok : ∀ d ∈ xs, opOk d = true) (hl : xs.length ≤ 80) (hb : w0.heap.size ≤ b) (hBB : b < B) (ha : D tDones S w0 [.slice a xs.length c] xs) :
    ∀ (d k : Nat) (e : Env) (w : World), k + d = xs.length → e 3 = pt b 0 → e 9 = .slice a xs.length c → e 10 = i64 xs.length → e 11 = i64 k → Ext w0 w → B ≤ w.heap.size → BldS B w b (histL (xs.take k)) → (k = 0 → hp w b = some (.cells #[.pointer none, .slice none 0 0] 46 (0, 0))) →
      Ret (impl_HistPut_l1 e w) fun r => r.1 = .string (bts (histL xs)) ∧ Ext w0 r.2 := by
  have hn := ha.n
  intro d
  induction d with
  | zero =>
    intro k e w hd e3 e9 e10 e11 E0 hB hbl hnil
    have zE0 := E0.size
    try simp only [World.size_alloc, size_setRow, dw_size] at zE0
    rw [impl_HistPut_l1_eq]
    obtain rfl : k = xs.length := by omega
    rw [List.take_of_length_le (Nat.le_refl _)] at hbl
    have hlen := histL_len hok
    refine Ret.post fun Q hQ => ?_
    simp (maxSteps := 1000000) (disch := first | assumption | omega | (simp only [World.size_alloc, size_setRow, dw_size]; done) | (simp only [World.size_alloc, size_setRow, dw_size] <;> omega) | (simp only [List.length_set, Array.length_toList, List.length_cons, List.length_nil, List.length_append, bts_size] <;> omega) | (simp only [List.all_cons, List.all_nil, Value.oneCell', Bool.and_self, Bool.and_true]; done)) [-Option.bind_some, hp_alloc_lt, hp_alloc_eq, hp_set_ne, wrap_small, ups_ap_cons, ups_ap_nil, upd_same, upd_other, env0_ap0, env0_aps, xt_a, xt_b, xt_c, nk_ptr, -splice_eq, -stR_cells, stR_box, stR_boxA, stR_row, stR_row0, stR_row1, stR_rowA, stR_rowA0, splice_rowv, splice_rowv0, splice_rowv1, splice_z, splice_n, splice_s, nth_rowv, nth_rowv0, nth_rowv1, rowv_len, e3, e9, e10, e11, e3, e9, e10, e11, E0.blk]
    refine Ret.bind (bstring_m hbl (by omega) (fun h => hnil ?_)) ?_
    · cases xs with
      | nil => rfl
      | cons x r => have := congrArg List.length h; simp [histL] at this
    rintro ⟨_, w1⟩ ⟨rfl, M1⟩
    have zM1 := M1.size
    try simp only [World.size_alloc, size_setRow, dw_size] at zM1
    try dsimp only at M1
    simp (maxSteps := 1000000) (disch := first | assumption | omega | (simp only [World.size_alloc, size_setRow, dw_size]; done) | (simp only [World.size_alloc, size_setRow, dw_size] <;> omega) | (simp only [List.length_set, Array.length_toList, List.length_cons, List.length_nil, List.length_append, bts_size] <;> omega) | (simp only [List.all_cons, List.all_nil, Value.oneCell', Bool.and_self, Bool.and_true]; done)) [-Option.bind_some, hp_alloc_lt, hp_alloc_eq, hp_set_ne, wrap_small, ups_ap_cons, ups_ap_nil, upd_same, upd_other, env0_ap0, env0_aps, xt_a, xt_b, xt_c, nk_ptr, -splice_eq, -stR_cells, stR_box, stR_boxA, stR_row, stR_row0, stR_row1, stR_rowA, stR_rowA0, splice_rowv, splice_rowv0, splice_rowv1, splice_z, splice_n, splice_s, nth_rowv, nth_rowv0, nth_rowv1, rowv_len, e3, e9, e10, e11, E0.blk, M1.blk]
    exact hQ _ ⟨rfl, Mod.after (a := w0) E0 M1 (by intro x hx h; omega)⟩
  | succ d ih =>
    intro k e w hd e3 e9 e10 e11 E0 hB hbl hnil
    have zE0 := E0.size
    try simp only [World.size_alloc, size_setRow, dw_size] at zE0
    rw [impl_HistPut_l1_eq]
    have hlt : k < xs.length := by omega
    obtain ⟨x, hx, hdx⟩ := drop_at hlt
    have hox := hok x (List.mem_of_getElem? hx)
    have hzE := E0.size
    obtain ⟨q1, q2, q3, q4, _⟩ := opOk_iff.1 hox
    obtain ⟨s, hs⟩ : ∃ s : Nat, x.sess = s := ⟨x.sess.toNat, by omega⟩
    obtain ⟨kd, hkd⟩ : ∃ s : Nat, x.kind = s := ⟨x.kind.toNat, by omega⟩
    obtain ⟨ky, hky⟩ : ∃ s : Nat, x.key = s := ⟨x.key.toNat, by omega⟩
    have hkw := kindL_at q2.1 q2.2
    rw [show x.kind.toNat = kd by omega] at hkw
    have hll := lineL_len hox
    have e1 : lineL x = decL s ++ [32] ++ kindL x.kind ++ [32] ++ decL ky ++ [32] ++ tagL x.tag := by
      rw [lineL, show x.sess.toNat = s by omega, show x.key.toNat = ky by omega]; simp
    have hal : (histL (xs.take k)).length ≤ 2021 * 80 := by
      have h1 := histL_len (l := xs.take k) fun d hd => hok d (List.mem_of_mem_take hd)
      have h2 : (xs.take k).length ≤ 80 := by rw [List.length_take]; omega
      omega
    have d1 := decL_len s
    have d2 := decL_len ky
    have d3 := tagL_len q4
    have d4 : (kindL x.kind).length ≤ 5 := by unfold kindL; split; decide; split <;> decide
    obtain ⟨b1, o1, cs1, rfl, A1, D1, _, l1⟩ := (ha.ext E0).at (by decide) hx
    obtain rfl := D.done.1 D1
    have p0 := A1 0 _ rfl
    have p1 := A1 1 _ rfl
    have p2 := A1 2 _ rfl
    have p3 := A1 3 _ rfl
    have p4 := A1 4 _ rfl
    simp only [LVer_n, LTag_n, LNode_n, Nat.add_zero] at p0 p1 p2 p3 p4
    simp only [LDone_n] at p0 p1 p2 p3 p4
    rw [hs] at p0
    rw [hkd] at p1
    rw [hky] at p2
    refine Ret.post fun Q hQ => ?_
    simp (maxSteps := 1000000) (disch := first | assumption | omega | (simp only [World.size_alloc, size_setRow, dw_size]; done) | (simp only [World.size_alloc, size_setRow, dw_size] <;> omega) | (simp only [List.length_set, Array.length_toList, List.length_cons, List.length_nil, List.length_append, bts_size] <;> omega) | (simp only [List.all_cons, List.all_nil, Value.oneCell', Bool.and_self, Bool.and_true]; done)) [-Option.bind_some, hp_alloc_lt, hp_alloc_eq, hp_set_ne, wrap_small, ups_ap_cons, ups_ap_nil, upd_same, upd_other, env0_ap0, env0_aps, xt_a, xt_b, xt_c, nk_ptr, -splice_eq, -stR_cells, stR_box, stR_boxA, stR_row, stR_row0, stR_row1, stR_rowA, stR_rowA0, splice_rowv, splice_rowv0, splice_rowv1, splice_z, splice_n, splice_s, nth_rowv, nth_rowv0, nth_rowv1, rowv_len, e3, e9, e10, e11, hlt, ia_25, p0, p1, p2, p3, p4, e3, e9, e10, e11, E0.blk, hlt, e1, p0, p1, p2, p3, p4]
    refine Ret.bind (itoa_m (n := s) (by omega) (G.ext (by (repeat (first | exact Ext.rfl | assumption | (refine Ext.al ?_ _) | (refine Ext.dw ?_) | (refine Ext.set ?_ (by first | omega | (simp only [World.size_alloc, size_setRow, dw_size]; omega)) _) | (refine Ext.tr ?_ (by assumption))))))) ?_
    rintro ⟨_, w1⟩ ⟨rfl, E1⟩
    try dsimp only at E1
    have zE1 := E1.size
    try simp only [World.size_alloc, size_setRow, dw_size] at zE1
    have X1 : hp w1 w.heap.size = some (.cells #[i64 s, i64 kd, i64 ky, i64 x.tag.t, i64 x.tag.p] 38 (0, 0)) := (by first | assumption | rfl | (simp (maxSteps := 1000000) (disch := first | assumption | omega | (simp only [World.size_alloc, size_setRow, dw_size]; done) | (simp only [World.size_alloc, size_setRow, dw_size] <;> omega) | (simp only [List.length_set, Array.length_toList, List.length_cons, List.length_nil, List.length_append, bts_size] <;> omega) | (simp only [List.all_cons, List.all_nil, Value.oneCell', Bool.and_self, Bool.and_true]; done)) [-Option.bind_some, hp_alloc_lt, hp_alloc_eq, hp_set_ne, wrap_small, ups_ap_cons, ups_ap_nil, upd_same, upd_other, env0_ap0, env0_aps, xt_a, xt_b, xt_c, nk_ptr, -splice_eq, -stR_cells, stR_box, stR_boxA, stR_row, stR_row0, stR_row1, stR_rowA, stR_rowA0, splice_rowv, splice_rowv0, splice_rowv1, splice_z, splice_n, splice_s, nth_rowv, nth_rowv0, nth_rowv1, rowv_len, e3, e9, e10, e11, E0.blk, hlt, e1, p0, p1, p2, p3, p4, E1.blk]; done))
    simp (maxSteps := 1000000) (disch := first | assumption | omega | (simp only [World.size_alloc, size_setRow, dw_size]; done) | (simp only [World.size_alloc, size_setRow, dw_size] <;> omega) | (simp only [List.length_set, Array.length_toList, List.length_cons, List.length_nil, List.length_append, bts_size] <;> omega) | (simp only [List.all_cons, List.all_nil, Value.oneCell', Bool.and_self, Bool.and_true]; done)) [-Option.bind_some, hp_alloc_lt, hp_alloc_eq, hp_set_ne, wrap_small, ups_ap_cons, ups_ap_nil, upd_same, upd_other, env0_ap0, env0_aps, xt_a, xt_b, xt_c, nk_ptr, -splice_eq, -stR_cells, stR_box, stR_boxA, stR_row, stR_row0, stR_row1, stR_rowA, stR_rowA0, splice_rowv, splice_rowv0, splice_rowv1, splice_z, splice_n, splice_s, nth_rowv, nth_rowv0, nth_rowv1, rowv_len, X1, mk_bts, bo_add_btx, bts_list, e3, e9, e10, e11, E0.blk, hlt, e1, p0, p1, p2, p3, p4, E1.blk, X1]
    refine Ret.bind (doneNames_m _) ?_
    rintro ⟨_, w2⟩ ⟨g, rfl, A2, E2⟩
    have zE2 := E2.size
    try simp only [World.size_alloc, size_setRow, dw_size] at zE2
    try dsimp only at A2 E2
    have zE2 := E2.size
    have c2 := A2 _ _ hkw
    rw [Nat.zero_add] at c2
    have X2 := (E2.blk (hp_lt X1)).trans X1
    simp (maxSteps := 1000000) (disch := first | assumption | omega | (simp only [World.size_alloc, size_setRow, dw_size]; done) | (simp only [World.size_alloc, size_setRow, dw_size] <;> omega) | (simp only [List.length_set, Array.length_toList, List.length_cons, List.length_nil, List.length_append, bts_size] <;> omega) | (simp only [List.all_cons, List.all_nil, Value.oneCell', Bool.and_self, Bool.and_true]; done)) [-Option.bind_some, hp_alloc_lt, hp_alloc_eq, hp_set_ne, wrap_small, ups_ap_cons, ups_ap_nil, upd_same, upd_other, env0_ap0, env0_aps, xt_a, xt_b, xt_c, nk_ptr, -splice_eq, -stR_cells, stR_box, stR_boxA, stR_row, stR_row0, stR_row1, stR_rowA, stR_rowA0, splice_rowv, splice_rowv0, splice_rowv1, splice_z, splice_n, splice_s, nth_rowv, nth_rowv0, nth_rowv1, rowv_len, X2, mk_bts, bo_add_btx, bts_list, ia_52, show kd < 4 by omega, c2, e3, e9, e10, e11, E0.blk, hlt, e1, p0, p1, p2, p3, p4, E1.blk, X1, E2.blk, X2]
    refine Ret.bind (itoa_m (n := ky) (by omega) (G.ext (by (repeat (first | exact Ext.rfl | assumption | (refine Ext.al ?_ _) | (refine Ext.dw ?_) | (refine Ext.set ?_ (by first | omega | (simp only [World.size_alloc, size_setRow, dw_size]; omega)) _) | (refine Ext.tr ?_ (by assumption))))))) ?_
    rintro ⟨_, w3⟩ ⟨rfl, E3⟩
    try dsimp only at E3
    have zE3 := E3.size
    try simp only [World.size_alloc, size_setRow, dw_size] at zE3
    have X3 := (E3.blk (hp_lt X2)).trans X2
    have c3 := cellO_ext E3 c2
    simp (maxSteps := 1000000) (disch := first | assumption | omega | (simp only [World.size_alloc, size_setRow, dw_size]; done) | (simp only [World.size_alloc, size_setRow, dw_size] <;> omega) | (simp only [List.length_set, Array.length_toList, List.length_cons, List.length_nil, List.length_append, bts_size] <;> omega) | (simp only [List.all_cons, List.all_nil, Value.oneCell', Bool.and_self, Bool.and_true]; done)) [-Option.bind_some, hp_alloc_lt, hp_alloc_eq, hp_set_ne, wrap_small, ups_ap_cons, ups_ap_nil, upd_same, upd_other, env0_ap0, env0_aps, xt_a, xt_b, xt_c, nk_ptr, -splice_eq, -stR_cells, stR_box, stR_boxA, stR_row, stR_row0, stR_row1, stR_rowA, stR_rowA0, splice_rowv, splice_rowv0, splice_rowv1, splice_z, splice_n, splice_s, nth_rowv, nth_rowv0, nth_rowv1, rowv_len, X3, mk_bts, bo_add_btx, bts_list, ia_52, show kd < 4 by omega, c2, c3, e3, e9, e10, e11, E0.blk, hlt, e1, p0, p1, p2, p3, p4, E1.blk, X1, E2.blk, X2, E3.blk, X3]
    refine Ret.bind (impl_Tag_text_m q4 (G.ext (by (repeat (first | exact Ext.rfl | assumption | (refine Ext.al ?_ _) | (refine Ext.dw ?_) | (refine Ext.set ?_ (by first | omega | (simp only [World.size_alloc, size_setRow, dw_size]; omega)) _) | (refine Ext.tr ?_ (by assumption))))))) ?_
    rintro ⟨_, w4⟩ ⟨rfl, E4⟩
    try dsimp only at E4
    have zE4 := E4.size
    try simp only [World.size_alloc, size_setRow, dw_size] at zE4
    have X4 := (E4.blk (hp_lt X3)).trans X3
    have c4 := cellO_ext E4 c3
    simp (maxSteps := 1000000) (disch := first | assumption | omega | (simp only [World.size_alloc, size_setRow, dw_size]; done) | (simp only [World.size_alloc, size_setRow, dw_size] <;> omega) | (simp only [List.length_set, Array.length_toList, List.length_cons, List.length_nil, List.length_append, bts_size] <;> omega) | (simp only [List.all_cons, List.all_nil, Value.oneCell', Bool.and_self, Bool.and_true]; done)) [-Option.bind_some, hp_alloc_lt, hp_alloc_eq, hp_set_ne, wrap_small, ups_ap_cons, ups_ap_nil, upd_same, upd_other, env0_ap0, env0_aps, xt_a, xt_b, xt_c, nk_ptr, -splice_eq, -stR_cells, stR_box, stR_boxA, stR_row, stR_row0, stR_row1, stR_rowA, stR_rowA0, splice_rowv, splice_rowv0, splice_rowv1, splice_z, splice_n, splice_s, nth_rowv, nth_rowv0, nth_rowv1, rowv_len, X4, mk_bts, bo_add_btx, bts_list, ia_52, show kd < 4 by omega, c2, c3, c4, e3, e9, e10, e11, E0.blk, hlt, e1, p0, p1, p2, p3, p4, E1.blk, X1, E2.blk, X2, E3.blk, X3, E4.blk, X4]
    have F4 : Ext w w4 := by (repeat (first | exact Ext.rfl | assumption | (refine Ext.al ?_ _) | (refine Ext.dw ?_) | (refine Ext.set ?_ (by first | omega | (simp only [World.size_alloc, size_setRow, dw_size]; omega)) _) | (refine Ext.tr ?_ (by assumption))))
    have zF4 := F4.size
    have hb4 : BldS B w4 b (histL (xs.take k)) := by
      obtain ⟨p, sl, k1, k2, k3, k4⟩ := hbl
      refine ⟨p, sl, (F4.blk (hp_lt k1)).trans k1, k2, owns_keep k3 fun g hg => ?_, k4⟩
      obtain ⟨_, k3⟩ := k3
      rcases k3 with ⟨rfl, _⟩ | ⟨g', cap, cur, rfl, h5, h6, _⟩
      · cases hg
      · cases hg; exact F4.blk (hp_lt h6)
    refine Ret.bind (writeString_m (m := decL s ++ 32 :: (kindL x.kind ++ 32 :: (decL ky ++ 32 :: (tagL x.tag ++ [10])))) hb4 (by simp only [List.length_append, List.length_cons, List.length_nil]; omega) (by omega)) ?_
    rintro ⟨_, w5⟩ ⟨rfl, hb5, M5⟩
    have zM5 := M5.size
    try simp only [World.size_alloc, size_setRow, dw_size] at zM5
    try dsimp only at hb5 M5
    have zM5 := M5.size
    simp (maxSteps := 1000000) (disch := first | assumption | omega | (simp only [World.size_alloc, size_setRow, dw_size]; done) | (simp only [World.size_alloc, size_setRow, dw_size] <;> omega) | (simp only [List.length_set, Array.length_toList, List.length_cons, List.length_nil, List.length_append, bts_size] <;> omega) | (simp only [List.all_cons, List.all_nil, Value.oneCell', Bool.and_self, Bool.and_true]; done)) [-Option.bind_some, hp_alloc_lt, hp_alloc_eq, hp_set_ne, wrap_small, ups_ap_cons, ups_ap_nil, upd_same, upd_other, env0_ap0, env0_aps, xt_a, xt_b, xt_c, nk_ptr, -splice_eq, -stR_cells, stR_box, stR_boxA, stR_row, stR_row0, stR_row1, stR_rowA, stR_rowA0, splice_rowv, splice_rowv0, splice_rowv1, splice_z, splice_n, splice_s, nth_rowv, nth_rowv0, nth_rowv1, rowv_len, e3, e9, e10, e11, e3, e9, e10, e11, E0.blk, hlt, e1, p0, p1, p2, p3, p4, E1.blk, X1, E2.blk, X2, E3.blk, X3, E4.blk, X4, M5.blk]
    refine Ret.mono (ih (k + 1) _ _ (by omega) (by first | omega | assumption | rfl | exact congrArg i64 (by omega) | (simp; done) | (simp; omega)) (by first | omega | assumption | rfl | exact congrArg i64 (by omega) | (simp; done) | (simp; omega)) (by first | omega | assumption | rfl | exact congrArg i64 (by omega) | (simp; done) | (simp; omega)) (by first | omega | assumption | rfl | exact congrArg i64 (by omega) | (simp; done) | (simp; omega)) (Mod.after (a := w0) (E0.tr F4) M5 (by intro x hx h; omega)) (by omega) ?_ (by omega)) hQ
    have : histL (xs.take (k + 1)) = histL (xs.take k) ++ (decL s ++ 32 :: (kindL x.kind ++ 32 :: (decL ky ++ 32 :: (tagL x.tag ++ [10])))) := by
      rw [List.take_add_one, hx]
      simp [histL_app, histL, e1]
    rw [this]
    exact hb5
theorem impl_HistPut_m {a : Option Addr} {n c : Nat} {S : Nat → Prop} {xs : List Done} {w : World} (G : Glob w) (ha : D tDones S w [.slice a n c] xs) :
    Ret (EV P 8 #[.slice a n c] w) fun r => r.1 = .string (bts (histPutL xs)) ∧ Ext w r.2 := by
  obtain ⟨rfl, _⟩ := ha.n
  refine Ret.post fun Q hQ => ?_
  refine Ret.enter plain mixed (impl_HistPut_fn _ _) (by kernel_rfl) (n := 1) (by kernel_rfl) rfl ?_
  simp (maxSteps := 1000000) (disch := first | assumption | omega | (simp only [World.size_alloc, size_setRow, dw_size]; done) | (simp only [World.size_alloc, size_setRow, dw_size] <;> omega) | (simp only [List.length_set, Array.length_toList, List.length_cons, List.length_nil, List.length_append, bts_size] <;> omega) | (simp only [List.all_cons, List.all_nil, Value.oneCell', Bool.and_self, Bool.and_true]; done)) [-Option.bind_some, hp_alloc_lt, hp_alloc_eq, hp_set_ne, wrap_small, ups_ap_cons, ups_ap_nil, upd_same, upd_other, env0_ap0, env0_aps, xt_a, xt_b, xt_c, nk_ptr, -splice_eq, -stR_cells, stR_box, stR_boxA, stR_row, stR_row0, stR_row1, stR_rowA, stR_rowA0, splice_rowv, splice_rowv0, splice_rowv1, splice_z, splice_n, splice_s, nth_rowv, nth_rowv0, nth_rowv1, rowv_len]
  refine Ret.bind (impl_formed_m ha) ?_
  rintro ⟨_, w1⟩ ⟨rfl, E1⟩
  try dsimp only at E1
  have zE1 := E1.size
  try simp only [World.size_alloc, size_setRow, dw_size] at zE1
  cases hf : formP xs
  · simp (maxSteps := 1000000) (disch := first | assumption | omega | (simp only [World.size_alloc, size_setRow, dw_size]; done) | (simp only [World.size_alloc, size_setRow, dw_size] <;> omega) | (simp only [List.length_set, Array.length_toList, List.length_cons, List.length_nil, List.length_append, bts_size] <;> omega) | (simp only [List.all_cons, List.all_nil, Value.oneCell', Bool.and_self, Bool.and_true]; done)) [-Option.bind_some, hp_alloc_lt, hp_alloc_eq, hp_set_ne, wrap_small, ups_ap_cons, ups_ap_nil, upd_same, upd_other, env0_ap0, env0_aps, xt_a, xt_b, xt_c, nk_ptr, -splice_eq, -stR_cells, stR_box, stR_boxA, stR_row, stR_row0, stR_row1, stR_rowA, stR_rowA0, splice_rowv, splice_rowv0, splice_rowv1, splice_z, splice_n, splice_s, nth_rowv, nth_rowv0, nth_rowv1, rowv_len, hf, E1.blk]
    exact hQ _ ⟨by rw [histPutL, hf]; rfl, by (repeat (first | exact Ext.rfl | assumption | (refine Ext.al ?_ _) | (refine Ext.dw ?_) | (refine Ext.set ?_ (by first | omega | (simp only [World.size_alloc, size_setRow, dw_size]; omega)) _) | (refine Ext.tr ?_ (by assumption))))⟩
  · have hpu : histPutL xs = histL xs := by rw [histPutL, hf]; rfl
    rw [hpu] at hQ
    simp (maxSteps := 1000000) (disch := first | assumption | omega | (simp only [World.size_alloc, size_setRow, dw_size]; done) | (simp only [World.size_alloc, size_setRow, dw_size] <;> omega) | (simp only [List.length_set, Array.length_toList, List.length_cons, List.length_nil, List.length_append, bts_size] <;> omega) | (simp only [List.all_cons, List.all_nil, Value.oneCell', Bool.and_self, Bool.and_true]; done)) [-Option.bind_some, hp_alloc_lt, hp_alloc_eq, hp_set_ne, wrap_small, ups_ap_cons, ups_ap_nil, upd_same, upd_other, env0_ap0, env0_aps, xt_a, xt_b, xt_c, nk_ptr, -splice_eq, -stR_cells, stR_box, stR_boxA, stR_row, stR_row0, stR_row1, stR_rowA, stR_rowA0, splice_rowv, splice_rowv0, splice_rowv1, splice_z, splice_n, splice_s, nth_rowv, nth_rowv0, nth_rowv1, rowv_len, hf, E1.blk]
    refine Ret.mono (HistPut_n (w0 := w) (b := w1.heap.size) (B := w1.heap.size + 1) G (formP_ops hf) (formP_len hf) (by omega) (by omega) ha xs.length 0 _ _ (by omega) (by first | omega | assumption | rfl | exact congrArg i64 (by omega) | (simp; done) | (simp; omega)) (by first | omega | assumption | rfl | exact congrArg i64 (by omega) | (simp; done) | (simp; omega)) (by first | omega | assumption | rfl | exact congrArg i64 (by omega) | (simp; done) | (simp; omega)) (by first | omega | assumption | rfl | exact congrArg i64 (by omega) | (simp; done) | (simp; omega)) (by (repeat (first | exact Ext.rfl | assumption | (refine Ext.al ?_ _) | (refine Ext.dw ?_) | (refine Ext.set ?_ (by first | omega | (simp only [World.size_alloc, size_setRow, dw_size]; omega)) _) | (refine Ext.tr ?_ (by assumption))))) (by simp) (Bld.nil (by first | assumption | rfl | (simp (maxSteps := 1000000) (disch := first | assumption | omega | (simp only [World.size_alloc, size_setRow, dw_size]; done) | (simp only [World.size_alloc, size_setRow, dw_size] <;> omega) | (simp only [List.length_set, Array.length_toList, List.length_cons, List.length_nil, List.length_append, bts_size] <;> omega) | (simp only [List.all_cons, List.all_nil, Value.oneCell', Bool.and_self, Bool.and_true]; done)) [-Option.bind_some, hp_alloc_lt, hp_alloc_eq, hp_set_ne, wrap_small, ups_ap_cons, ups_ap_nil, upd_same, upd_other, env0_ap0, env0_aps, xt_a, xt_b, xt_c, nk_ptr, -splice_eq, -stR_cells, stR_box, stR_boxA, stR_row, stR_row0, stR_row1, stR_rowA, stR_rowA0, splice_rowv, splice_rowv0, splice_rowv1, splice_z, splice_n, splice_s, nth_rowv, nth_rowv0, nth_rowv1, rowv_len, E1.blk]; done))) (fun _ => (by first | assumption | rfl | (simp (maxSteps := 1000000) (disch := first | assumption | omega | (simp only [World.size_alloc, size_setRow, dw_size]; done) | (simp only [World.size_alloc, size_setRow, dw_size] <;> omega) | (simp only [List.length_set, Array.length_toList, List.length_cons, List.length_nil, List.length_append, bts_size] <;> omega) | (simp only [List.all_cons, List.all_nil, Value.oneCell', Bool.and_self, Bool.and_true]; done)) [-Option.bind_some, hp_alloc_lt, hp_alloc_eq, hp_set_ne, wrap_small, ups_ap_cons, ups_ap_nil, upd_same, upd_other, env0_ap0, env0_aps, xt_a, xt_b, xt_c, nk_ptr, -splice_eq, -stR_cells, stR_box, stR_boxA, stR_row, stR_row0, stR_row1, stR_rowA, stR_rowA0, splice_rowv, splice_rowv0, splice_rowv1, splice_z, splice_n, splice_s, nth_rowv, nth_rowv0, nth_rowv1, rowv_len, E1.blk]; done)))) hQ
theorem spec_l6Line_m {d : Done} (h : opOk d = true) (w : World) : Ret (EV P 15 #[.agg (doneC d).toArray] w) fun r => r.1 = .string (bts (lineL d ++ [10])) ∧ Ext w r.2 := by
  obtain ⟨q1, q2, q3, q4, _⟩ := opOk_iff.1 h
  obtain ⟨s, hs⟩ : ∃ s : Nat, d.sess = s := ⟨d.sess.toNat, by omega⟩
  obtain ⟨kd, hkd⟩ : ∃ s : Nat, d.kind = s := ⟨d.kind.toNat, by omega⟩
  obtain ⟨ky, hky⟩ : ∃ s : Nat, d.key = s := ⟨d.key.toNat, by omega⟩
  have hkw := kindL_at q2.1 q2.2
  rw [show d.kind.toNat = kd by omega] at hkw
  have e1 : lineL d ++ [10] = decL s ++ [32] ++ kindL d.kind ++ [32] ++ decL ky ++ [32] ++ tagL d.tag ++ [10] := by
    rw [lineL, show d.sess.toNat = s by omega, show d.key.toNat = ky by omega]; simp
  have d1 := decL_len s
  have d2 := decL_len ky
  have d3 := tagL_len q4
  have d4 : (kindL d.kind).length ≤ 5 := by unfold kindL; split; decide; split <;> decide
  rw [e1]
  generalize hkl : kindL d.kind = kl at *
  simp only [doneC]
  rw [hs, hkd, hky]
  refine Ret.post fun Q hQ => ?_
  refine Ret.enter plain mixed (spec_l6Line_fn _ _) (by kernel_rfl) (n := 1) (by kernel_rfl) rfl ?_
  simp (maxSteps := 1000000) (disch := first | assumption | omega | (simp only [World.size_alloc, size_setRow, dw_size]; done) | (simp only [World.size_alloc, size_setRow, dw_size] <;> omega) | (simp only [List.length_set, Array.length_toList, List.length_cons, List.length_nil, List.length_append, bts_size] <;> omega) | (simp only [List.all_cons, List.all_nil, Value.oneCell', Bool.and_self, Bool.and_true]; done)) [-Option.bind_some, hp_alloc_lt, hp_alloc_eq, hp_set_ne, wrap_small, ups_ap_cons, ups_ap_nil, upd_same, upd_other, env0_ap0, env0_aps, xt_a, xt_b, xt_c, nk_ptr, -splice_eq, -stR_cells, stR_box, stR_boxA, stR_row, stR_row0, stR_row1, stR_rowA, stR_rowA0, splice_rowv, splice_rowv0, splice_rowv1, splice_z, splice_n, splice_s, nth_rowv, nth_rowv0, nth_rowv1, rowv_len, e1]
  refine Ret.bind (spec_l1Dec_m s (by omega) _) ?_
  rintro ⟨_, w1⟩ ⟨rfl, E1⟩
  try dsimp only at E1
  have zE1 := E1.size
  try simp only [World.size_alloc, size_setRow, dw_size] at zE1
  have X1 : hp w1 w.heap.size = some (.cells #[i64 s, i64 kd, i64 ky, i64 d.tag.t, i64 d.tag.p] 38 (0, 0)) := (by first | assumption | rfl | (simp (maxSteps := 1000000) (disch := first | assumption | omega | (simp only [World.size_alloc, size_setRow, dw_size]; done) | (simp only [World.size_alloc, size_setRow, dw_size] <;> omega) | (simp only [List.length_set, Array.length_toList, List.length_cons, List.length_nil, List.length_append, bts_size] <;> omega) | (simp only [List.all_cons, List.all_nil, Value.oneCell', Bool.and_self, Bool.and_true]; done)) [-Option.bind_some, hp_alloc_lt, hp_alloc_eq, hp_set_ne, wrap_small, ups_ap_cons, ups_ap_nil, upd_same, upd_other, env0_ap0, env0_aps, xt_a, xt_b, xt_c, nk_ptr, -splice_eq, -stR_cells, stR_box, stR_boxA, stR_row, stR_row0, stR_row1, stR_rowA, stR_rowA0, splice_rowv, splice_rowv0, splice_rowv1, splice_z, splice_n, splice_s, nth_rowv, nth_rowv0, nth_rowv1, rowv_len, e1, E1.blk]; done))
  simp (maxSteps := 1000000) (disch := first | assumption | omega | (simp only [World.size_alloc, size_setRow, dw_size]; done) | (simp only [World.size_alloc, size_setRow, dw_size] <;> omega) | (simp only [List.length_set, Array.length_toList, List.length_cons, List.length_nil, List.length_append, bts_size] <;> omega) | (simp only [List.all_cons, List.all_nil, Value.oneCell', Bool.and_self, Bool.and_true]; done)) [-Option.bind_some, hp_alloc_lt, hp_alloc_eq, hp_set_ne, wrap_small, ups_ap_cons, ups_ap_nil, upd_same, upd_other, env0_ap0, env0_aps, xt_a, xt_b, xt_c, nk_ptr, -splice_eq, -stR_cells, stR_box, stR_boxA, stR_row, stR_row0, stR_row1, stR_rowA, stR_rowA0, splice_rowv, splice_rowv0, splice_rowv1, splice_z, splice_n, splice_s, nth_rowv, nth_rowv0, nth_rowv1, rowv_len, X1, mk_bts, bo_add_btx, bts_list, e1, E1.blk, X1]
  refine Ret.bind (l6Words_m _) ?_
  rintro ⟨_, w2⟩ ⟨g, rfl, A2, E2⟩
  have zE2 := E2.size
  try simp only [World.size_alloc, size_setRow, dw_size] at zE2
  try dsimp only at A2 E2
  have zE2 := E2.size
  have c2 := A2 _ _ hkw
  rw [Nat.zero_add] at c2
  have X2 := (E2.blk (hp_lt X1)).trans X1
  simp (maxSteps := 1000000) (disch := first | assumption | omega | (simp only [World.size_alloc, size_setRow, dw_size]; done) | (simp only [World.size_alloc, size_setRow, dw_size] <;> omega) | (simp only [List.length_set, Array.length_toList, List.length_cons, List.length_nil, List.length_append, bts_size] <;> omega) | (simp only [List.all_cons, List.all_nil, Value.oneCell', Bool.and_self, Bool.and_true]; done)) [-Option.bind_some, hp_alloc_lt, hp_alloc_eq, hp_set_ne, wrap_small, ups_ap_cons, ups_ap_nil, upd_same, upd_other, env0_ap0, env0_aps, xt_a, xt_b, xt_c, nk_ptr, -splice_eq, -stR_cells, stR_box, stR_boxA, stR_row, stR_row0, stR_row1, stR_rowA, stR_rowA0, splice_rowv, splice_rowv0, splice_rowv1, splice_z, splice_n, splice_s, nth_rowv, nth_rowv0, nth_rowv1, rowv_len, X2, mk_bts, bo_add_btx, bts_list, ia_52, show kd < 4 by omega, c2, e1, E1.blk, X1, E2.blk, X2]
  refine Ret.bind (spec_l1Dec_m ky (by omega) _) ?_
  rintro ⟨_, w3⟩ ⟨rfl, E3⟩
  try dsimp only at E3
  have zE3 := E3.size
  try simp only [World.size_alloc, size_setRow, dw_size] at zE3
  have X3 := (E3.blk (hp_lt X2)).trans X2
  have c3 := cellO_ext E3 c2
  simp (maxSteps := 1000000) (disch := first | assumption | omega | (simp only [World.size_alloc, size_setRow, dw_size]; done) | (simp only [World.size_alloc, size_setRow, dw_size] <;> omega) | (simp only [List.length_set, Array.length_toList, List.length_cons, List.length_nil, List.length_append, bts_size] <;> omega) | (simp only [List.all_cons, List.all_nil, Value.oneCell', Bool.and_self, Bool.and_true]; done)) [-Option.bind_some, hp_alloc_lt, hp_alloc_eq, hp_set_ne, wrap_small, ups_ap_cons, ups_ap_nil, upd_same, upd_other, env0_ap0, env0_aps, xt_a, xt_b, xt_c, nk_ptr, -splice_eq, -stR_cells, stR_box, stR_boxA, stR_row, stR_row0, stR_row1, stR_rowA, stR_rowA0, splice_rowv, splice_rowv0, splice_rowv1, splice_z, splice_n, splice_s, nth_rowv, nth_rowv0, nth_rowv1, rowv_len, X3, mk_bts, bo_add_btx, bts_list, ia_52, show kd < 4 by omega, c2, c3, e1, E1.blk, X1, E2.blk, X2, E3.blk, X3]
  refine Ret.bind (spec_l1Put_m q4 _) ?_
  rintro ⟨_, w4⟩ ⟨rfl, E4⟩
  try dsimp only at E4
  have zE4 := E4.size
  try simp only [World.size_alloc, size_setRow, dw_size] at zE4
  have X4 := (E4.blk (hp_lt X3)).trans X3
  have c4 := cellO_ext E4 c3
  simp (maxSteps := 1000000) (disch := first | assumption | omega | (simp only [World.size_alloc, size_setRow, dw_size]; done) | (simp only [World.size_alloc, size_setRow, dw_size] <;> omega) | (simp only [List.length_set, Array.length_toList, List.length_cons, List.length_nil, List.length_append, bts_size] <;> omega) | (simp only [List.all_cons, List.all_nil, Value.oneCell', Bool.and_self, Bool.and_true]; done)) [-Option.bind_some, hp_alloc_lt, hp_alloc_eq, hp_set_ne, wrap_small, ups_ap_cons, ups_ap_nil, upd_same, upd_other, env0_ap0, env0_aps, xt_a, xt_b, xt_c, nk_ptr, -splice_eq, -stR_cells, stR_box, stR_boxA, stR_row, stR_row0, stR_row1, stR_rowA, stR_rowA0, splice_rowv, splice_rowv0, splice_rowv1, splice_z, splice_n, splice_s, nth_rowv, nth_rowv0, nth_rowv1, rowv_len, X4, mk_bts, bo_add_btx, bts_list, ia_52, show kd < 4 by omega, c2, c3, c4, e1, E1.blk, X1, E2.blk, X2, E3.blk, X3, E4.blk, X4]
  exact hQ _ ⟨by simp, by (repeat (first | exact Ext.rfl | assumption | (refine Ext.al ?_ _) | (refine Ext.dw ?_) | (refine Ext.set ?_ (by first | omega | (simp only [World.size_alloc, size_setRow, dw_size]; omega)) _) | (refine Ext.tr ?_ (by assumption))))⟩
end Go.Proofs.YtkhbpmhagpljiaaDoor.X
set_option linter.unusedVariables false
set_option linter.unusedSimpArgs false
set_option maxRecDepth 100000
set_option maxHeartbeats 1000000
namespace Go.Proofs.YtkhbpmhagpljiaaDoor.X
open Go Go.Ev Go.RowKit
set_option maxHeartbeats 6000000 in
theorem laws_heldDoneS_n {a : Option Addr} {c : Nat} {S : Nat → Prop} {xs : List Done} {k0 : Int} (h0 : 0 ≤ k0) (hk : k0 + 10 * MDone.wtL xs ≤ 100000000000000) :
    ∀ (d j : Nat) (e : Env) (w : World), j + d = xs.length → e 0 = .slice a xs.length c → e 1 = i64 (MDone.at k0 xs j) → e 5 = i64 j → D tDones S w [.slice a xs.length c] (MDone.mkL k0 xs) →
    Ret (laws_heldDoneS_l1 e w) fun r => r.1 = i64 (MDone.nxL k0 xs) ∧ Ext w r.2 := by
  intro d
  induction d with
  | zero =>
    intro j e w hd e0 e1 e5 ho
    rw [laws_heldDoneS_l1_eq]
    obtain rfl : j = xs.length := by omega
    rw [Mk.at_end (Nat.le_refl _)] at e1
    simp (maxSteps := 1000000) (disch := first | assumption | omega | (simp only [World.size_alloc, size_setRow, dw_size]; done) | (simp only [World.size_alloc, size_setRow, dw_size] <;> omega) | (simp only [List.length_set, Array.length_toList, List.length_cons, List.length_nil, List.length_append, bts_size] <;> omega) | (simp only [List.all_cons, List.all_nil, Value.oneCell', Bool.and_self, Bool.and_true]; done)) [-Option.bind_some, hp_alloc_lt, hp_alloc_eq, hp_set_ne, wrap_small, ups_ap_cons, ups_ap_nil, upd_same, upd_other, env0_ap0, env0_aps, xt_a, xt_b, xt_c, nk_ptr, e0, e1, e5, e0, e1, e5]
    (repeat (first | exact Ext.rfl | assumption | (refine Ext.al ?_ _) | (refine Ext.dw ?_) | (refine Ext.set ?_ (by first | omega | (simp only [World.size_alloc, size_setRow, dw_size]; omega)) _) | (refine Ext.tr ?_ (by assumption))))
  | succ d ih =>
    intro j e w hd e0 e1 e5 ho
    rw [laws_heldDoneS_l1_eq]
    have hlt : j < xs.length := by omega
    obtain ⟨x, hx, _⟩ := drop_at hlt
    have hq := Mk.at_small MDone_small xs k0 j
    have hs : MDone.at k0 xs (j + 1) = MDone.at k0 xs j + 1 + 1 + 1 + 1 + 1 := Mk.at_succ hx
    have hn := ho.n
    have hx2 := Mk.mkL_get (M := MDone) xs k0 j hx
    generalize MDone.at k0 xs j = q at *
    have hmk : MDone.mk q x = ⟨q, q + 1, q + 1 + 1, ⟨q + 1 + 1 + 1, q + 1 + 1 + 1 + 1⟩⟩ := rfl
    rw [hmk] at hx2
    obtain ⟨b1, o1, cs1, rfl, A1, D1, _, l1⟩ := ho.at (by decide) hx2
    obtain rfl := D.done.1 D1
    have p0 := A1 0 _ rfl
    have p1 := A1 1 _ rfl
    have p2 := A1 2 _ rfl
    have p3 := A1 3 _ rfl
    have p4 := A1 4 _ rfl
    simp only [LDone_n, Nat.add_zero] at p0 p1 p2 p3 p4
    simp (maxSteps := 1000000) (disch := first | assumption | omega | (simp only [World.size_alloc, size_setRow, dw_size]; done) | (simp only [World.size_alloc, size_setRow, dw_size] <;> omega) | (simp only [List.length_set, Array.length_toList, List.length_cons, List.length_nil, List.length_append, bts_size] <;> omega) | (simp only [List.all_cons, List.all_nil, Value.oneCell', Bool.and_self, Bool.and_true]; done)) [-Option.bind_some, hp_alloc_lt, hp_alloc_eq, hp_set_ne, wrap_small, ups_ap_cons, ups_ap_nil, upd_same, upd_other, env0_ap0, env0_aps, xt_a, xt_b, xt_c, nk_ptr, e0, e1, e5, hlt, ia_25, p0, p1, p2, p3, p4, bne_self_eq_false, e0, e1, e5, hlt]
    refine Ret.mono (ih (j + 1) _ _ (by omega) (by first | omega | assumption | rfl | exact congrArg i64 (by omega) | (simp; done) | (simp; omega)) (by exact congrArg i64 hs.symm) (by first | omega | assumption | rfl | exact congrArg i64 (by omega) | (simp; done) | (simp; omega)) (ho.ext (by (repeat (first | exact Ext.rfl | assumption | (refine Ext.al ?_ _) | (refine Ext.dw ?_) | (refine Ext.set ?_ (by first | omega | (simp only [World.size_alloc, size_setRow, dw_size]; omega)) _) | (refine Ext.tr ?_ (by assumption))))))) ?_
    rintro r ⟨h1, h2⟩
    exact ⟨h1, Ext.tr (by (repeat (first | exact Ext.rfl | assumption | (refine Ext.al ?_ _) | (refine Ext.dw ?_) | (refine Ext.set ?_ (by first | omega | (simp only [World.size_alloc, size_setRow, dw_size]; omega)) _) | (refine Ext.tr ?_ (by assumption))))) h2⟩
theorem laws_heldDoneS_m {a : Option Addr} {n c : Nat} {S : Nat → Prop} {xs : List Done} {k : Int} (h0 : 0 ≤ k) (hk : k + 10 * MDone.wtL xs ≤ 100000000000000) {w : World} (ho : D tDones S w [.slice a n c] (MDone.mkL k xs)) :
    Ret (EV P 13 #[.slice a n c, i64 k] w) fun r => r.1 = i64 (MDone.nxL k xs) ∧ Ext w r.2 := by
  obtain ⟨rfl, _⟩ := ho.n
  rw [Mk.mkL_length] at *
  refine Ret.enter plain mixed (laws_heldDoneS_fn _ _ _) (by kernel_rfl) (n := 2) (by kernel_rfl) rfl ?_
  simp (maxSteps := 1000000) (disch := first | assumption | omega | (simp only [World.size_alloc, size_setRow, dw_size]; done) | (simp only [World.size_alloc, size_setRow, dw_size] <;> omega) | (simp only [List.length_set, Array.length_toList, List.length_cons, List.length_nil, List.length_append, bts_size] <;> omega) | (simp only [List.all_cons, List.all_nil, Value.oneCell', Bool.and_self, Bool.and_true]; done)) [-Option.bind_some, hp_alloc_lt, hp_alloc_eq, hp_set_ne, wrap_small, ups_ap_cons, ups_ap_nil, upd_same, upd_other, env0_ap0, env0_aps, xt_a, xt_b, xt_c, nk_ptr]
  exact laws_heldDoneS_n h0 hk xs.length 0 _ w (by omega) rfl (by rw [Mk.at_zero]; rfl) rfl ho
theorem index_n {g c : Nat} {xs : List (List UInt8)} {s : List UInt8} {w : World} (hA : StrAt w g 0 xs) (hl : xs.length ≤ 100) : ∀ (d k : Nat) (e : Env), k + d = xs.length → e 0 = .slice (some ⟨g, 0, none⟩) xs.length c → e 1 = .string (bts s) → e 7 = i64 xs.length → e 8 = i64 k →
    Ret (slices_Index_string_l1 e w) fun r => ∃ m, r = (i64 m, w) ∧ ∀ j, k ≤ j → xs[j]? = some s → (∀ i, i < j → xs[i]? ≠ some s) → m = j := by
  intro d
  induction d with
  | zero =>
    intro k e hd e0 e1 e7 e8
    rw [slices_Index_string_l1_eq]
    obtain rfl : k = xs.length := by omega
    refine Ret.post fun Q hQ => ?_
    simp (maxSteps := 1000000) (disch := first | assumption | omega | (simp only [World.size_alloc, size_setRow, dw_size]; done) | (simp only [World.size_alloc, size_setRow, dw_size] <;> omega) | (simp only [List.length_set, Array.length_toList, List.length_cons, List.length_nil, List.length_append, bts_size] <;> omega) | (simp only [List.all_cons, List.all_nil, Value.oneCell', Bool.and_self, Bool.and_true]; done)) [-Option.bind_some, hp_alloc_lt, hp_alloc_eq, hp_set_ne, wrap_small, ups_ap_cons, ups_ap_nil, upd_same, upd_other, env0_ap0, env0_aps, xt_a, xt_b, xt_c, nk_ptr, -splice_eq, -stR_cells, stR_box, stR_boxA, stR_row, stR_row0, stR_row1, stR_rowA, stR_rowA0, splice_rowv, splice_rowv0, splice_rowv1, splice_z, splice_n, splice_s, nth_rowv, nth_rowv0, nth_rowv1, rowv_len, e0, e1, e7, e8, e0, e1, e7, e8]
    refine hQ _ ⟨-1, rfl, fun j hj h1 => ?_⟩
    rw [List.getElem?_eq_none hj] at h1
    cases h1
  | succ d ih =>
    intro k e hd e0 e1 e7 e8
    rw [slices_Index_string_l1_eq]
    have hlt : k < xs.length := by omega
    obtain ⟨x, hx, _⟩ := drop_at hlt
    have hc := hA _ _ hx
    rw [Nat.zero_add] at hc
    refine Ret.post fun Q hQ => ?_
    by_cases hs : s = x
    · subst hs
      simp (maxSteps := 1000000) (disch := first | assumption | omega | (simp only [World.size_alloc, size_setRow, dw_size]; done) | (simp only [World.size_alloc, size_setRow, dw_size] <;> omega) | (simp only [List.length_set, Array.length_toList, List.length_cons, List.length_nil, List.length_append, bts_size] <;> omega) | (simp only [List.all_cons, List.all_nil, Value.oneCell', Bool.and_self, Bool.and_true]; done)) [-Option.bind_some, hp_alloc_lt, hp_alloc_eq, hp_set_ne, wrap_small, ups_ap_cons, ups_ap_nil, upd_same, upd_other, env0_ap0, env0_aps, xt_a, xt_b, xt_c, nk_ptr, -splice_eq, -stR_cells, stR_box, stR_boxA, stR_row, stR_row0, stR_row1, stR_rowA, stR_rowA0, splice_rowv, splice_rowv0, splice_rowv1, splice_z, splice_n, splice_s, nth_rowv, nth_rowv0, nth_rowv1, rowv_len, e0, e1, e7, e8, hlt, ia_52, hc, bts_list, e0, e1, e7, e8, hlt]
      refine hQ _ ⟨k, rfl, fun j hj h1 h2 => ?_⟩
      rcases Nat.lt_or_ge k j with h | h
      · exact absurd hx (h2 k h)
      · omega
    · have hs' : (s == x) = false := beq_eq_false_iff_ne.2 hs
      simp (maxSteps := 1000000) (disch := first | assumption | omega | (simp only [World.size_alloc, size_setRow, dw_size]; done) | (simp only [World.size_alloc, size_setRow, dw_size] <;> omega) | (simp only [List.length_set, Array.length_toList, List.length_cons, List.length_nil, List.length_append, bts_size] <;> omega) | (simp only [List.all_cons, List.all_nil, Value.oneCell', Bool.and_self, Bool.and_true]; done)) [-Option.bind_some, hp_alloc_lt, hp_alloc_eq, hp_set_ne, wrap_small, ups_ap_cons, ups_ap_nil, upd_same, upd_other, env0_ap0, env0_aps, xt_a, xt_b, xt_c, nk_ptr, -splice_eq, -stR_cells, stR_box, stR_boxA, stR_row, stR_row0, stR_row1, stR_rowA, stR_rowA0, splice_rowv, splice_rowv0, splice_rowv1, splice_z, splice_n, splice_s, nth_rowv, nth_rowv0, nth_rowv1, rowv_len, e0, e1, e7, e8, hlt, ia_52, hc, bts_list, hs', e0, e1, e7, e8, hlt]
      refine Ret.mono (ih (k + 1) _ (by omega) (by first | omega | assumption | rfl | exact congrArg i64 (by omega) | (simp; done) | (simp; omega)) (by first | omega | assumption | rfl | exact congrArg i64 (by omega) | (simp; done) | (simp; omega)) (by first | omega | assumption | rfl | exact congrArg i64 (by omega) | (simp; done) | (simp; omega)) (by first | omega | assumption | rfl | exact congrArg i64 (by omega) | (simp; done) | (simp; omega))) ?_
      rintro r ⟨m, rfl, h⟩
      refine hQ _ ⟨m, rfl, fun j hj h1 h2 => ?_⟩
      rcases Nat.lt_or_ge k j with h' | h'
      · exact h j (by omega) h1 h2
      · obtain rfl : j = k := by omega
        rw [hx] at h1
        exact absurd (Option.some.inj h1).symm hs
theorem index_m {g c : Nat} {s : List UInt8} {w : World} (hA : StrAt w g 0 kindWs) : Ret (EV P 49 #[.slice (some ⟨g, 0, none⟩) 4 c, .string (bts s)] w) fun r => ∃ m, r = (i64 m, w) ∧ ∀ k : Int, 1 ≤ k → k ≤ 3 → s = kindL k → m = k := by
  refine Ret.post fun Q hQ => ?_
  refine Ret.enter plain mixed (slices_Index_string_fn _ _ _) (by kernel_rfl) (n := 2) (by kernel_rfl) rfl ?_
  simp (maxSteps := 1000000) (disch := first | assumption | omega | (simp only [World.size_alloc, size_setRow, dw_size]; done) | (simp only [World.size_alloc, size_setRow, dw_size] <;> omega) | (simp only [List.length_set, Array.length_toList, List.length_cons, List.length_nil, List.length_append, bts_size] <;> omega) | (simp only [List.all_cons, List.all_nil, Value.oneCell', Bool.and_self, Bool.and_true]; done)) [-Option.bind_some, hp_alloc_lt, hp_alloc_eq, hp_set_ne, wrap_small, ups_ap_cons, ups_ap_nil, upd_same, upd_other, env0_ap0, env0_aps, xt_a, xt_b, xt_c, nk_ptr, -splice_eq, -stR_cells, stR_box, stR_boxA, stR_row, stR_row0, stR_row1, stR_rowA, stR_rowA0, splice_rowv, splice_rowv0, splice_rowv1, splice_z, splice_n, splice_s, nth_rowv, nth_rowv0, nth_rowv1, rowv_len]
  refine Ret.mono (index_n (g := g) (c := c) (xs := kindWs) (s := s) hA (by decide) 4 0 _ rfl rfl rfl rfl rfl) ?_
  rintro _ ⟨m, rfl, h⟩
  refine hQ _ ⟨m, rfl, fun k h1 h2 h3 => ?_⟩
  have h4 := kindL_at h1 h2
  rw [← h3] at h4
  have := h k.toNat (by omega) h4 (fun i hi h5 => ?_)
  · omega
  · rw [h3] at h5
    have hk : k = 1 ∨ k = 2 ∨ k = 3 := by omega
    have hi' : i = 0 ∨ i = 1 ∨ i = 2 := by omega
    rcases hk with rfl | rfl | rfl <;> rcases hi' with rfl | rfl | rfl <;> first | omega | (exact absurd h5 (by decide))
theorem len4 {α : Type} {l : List α} (h : l.length = 4) : ∃ a b c d, l = [a, b, c, d] := by
  match l, h with
  | [a, b, c, d], _ => exact ⟨a, b, c, d, rfl⟩
theorem split_gg {l : List UInt8} {c : UInt8} (hl : l.length ≤ 100000000) (w : World) : Ret (EV P 46 #[.string (bts l), .string (bts [c])] w) fun r => ∃ g q, r.1 = .slice (some ⟨g, 0, none⟩) (splitL c l).length q ∧ (splitL c l).length ≤ q ∧ StrAt r.2 g 0 (splitL c l) ∧ Ext w r.2 :=
  Ret.mono (split_m hl w) fun r ⟨q, h1, h2, h3, h4⟩ => ⟨_, q, h1, h2, h3, h4⟩
theorem readDone_m {l : List UInt8} (hl : l.length ≤ 100000000) {w : World} (G : GlobE w) : Ret (EV P 30 #[.string (bts l)] w) fun r => ∃ d ok, r.1 = .tuple #[.agg #[i64 d.sess, i64 d.kind, i64 d.key, i64 d.tag.t, i64 d.tag.p], .bool ok] ∧ (∀ d', opOk d' = true → lineL d' = l → ok = true ∧ d = d') ∧ Ext w r.2 := by
  have hsz := splitL_sz 32 l
  refine Ret.post fun Q hQ => ?_
  refine Ret.enter plain mixed (impl_readDone_fn _ _) (by kernel_rfl) (n := 1) (by kernel_rfl) rfl ?_
  simp (maxSteps := 1000000) (disch := first | assumption | omega | (simp only [World.size_alloc, size_setRow, dw_size]; done) | (simp only [World.size_alloc, size_setRow, dw_size] <;> omega) | (simp only [List.length_set, Array.length_toList, List.length_cons, List.length_nil, List.length_append, bts_size] <;> omega) | (simp only [List.all_cons, List.all_nil, Value.oneCell', Bool.and_self, Bool.and_true]; done)) [-Option.bind_some, hp_alloc_lt, hp_alloc_eq, hp_set_ne, wrap_small, ups_ap_cons, ups_ap_nil, upd_same, upd_other, env0_ap0, env0_aps, xt_a, xt_b, xt_c, nk_ptr, -splice_eq, -stR_cells, stR_box, stR_boxA, stR_row, stR_row0, stR_row1, stR_rowA, stR_rowA0, splice_rowv, splice_rowv0, splice_rowv1, splice_z, splice_n, splice_s, nth_rowv, nth_rowv0, nth_rowv1, rowv_len, mk_bts]
  refine Ret.bind (split_gg (c := 32) hl _) ?_
  rintro ⟨_, w1⟩ ⟨g, q, rfl, hq, A1, E1⟩
  have zE1 := E1.size
  try simp only [World.size_alloc, size_setRow, dw_size] at zE1
  try dsimp only at A1 E1
  have X1 : hp w1 w.heap.size = some (.cells #[i64 0, i64 0, i64 0, i64 0, i64 0] 38 (0, 0)) := (E1.blk (by simp)).trans (by first | assumption | rfl | (simp (maxSteps := 1000000) (disch := first | assumption | omega | (simp only [World.size_alloc, size_setRow, dw_size]; done) | (simp only [World.size_alloc, size_setRow, dw_size] <;> omega) | (simp only [List.length_set, Array.length_toList, List.length_cons, List.length_nil, List.length_append, bts_size] <;> omega) | (simp only [List.all_cons, List.all_nil, Value.oneCell', Bool.and_self, Bool.and_true]; done)) [-Option.bind_some, hp_alloc_lt, hp_alloc_eq, hp_set_ne, wrap_small, ups_ap_cons, ups_ap_nil, upd_same, upd_other, env0_ap0, env0_aps, xt_a, xt_b, xt_c, nk_ptr, -splice_eq, -stR_cells, stR_box, stR_boxA, stR_row, stR_row0, stR_row1, stR_rowA, stR_rowA0, splice_rowv, splice_rowv0, splice_rowv1, splice_z, splice_n, splice_s, nth_rowv, nth_rowv0, nth_rowv1, rowv_len, E1.blk]; done))
  have zE1 := E1.size
  simp only [World.size_alloc] at zE1
  by_cases h4 : (splitL 32 l).length = 4
  · obtain ⟨y0, y1, y2, y3, hy⟩ := len4 h4
    rw [hy] at A1 hsz hq
    have hw : ∀ d', opOk d' = true → lineL d' = l → y0 = decL d'.sess.toNat ∧ y1 = kindL d'.kind ∧ y2 = decL d'.key.toNat ∧ y3 = tagL d'.tag := by
      intro d' h1 h2
      have h3 := line_split d'
      rw [h2, hy, lineWs] at h3
      simp only [List.cons.injEq, and_true] at h3
      exact h3
    have s0 := hsz y0 (by simp)
    have s2 := hsz y2 (by simp)
    have s3 := hsz y3 (by simp)
    have c0 := A1 0 y0 rfl
    have c1 := A1 1 y1 rfl
    have c2 := A1 2 y2 rfl
    have c3 := A1 3 y3 rfl
    rw [Nat.zero_add] at c0 c1 c2 c3
    have hg1 := cellO_lt c0
    simp (maxSteps := 1000000) (disch := first | assumption | omega | (simp only [World.size_alloc, size_setRow, dw_size]; done) | (simp only [World.size_alloc, size_setRow, dw_size] <;> omega) | (simp only [List.length_set, Array.length_toList, List.length_cons, List.length_nil, List.length_append, bts_size] <;> omega) | (simp only [List.all_cons, List.all_nil, Value.oneCell', Bool.and_self, Bool.and_true]; done)) [-Option.bind_some, hp_alloc_lt, hp_alloc_eq, hp_set_ne, wrap_small, ups_ap_cons, ups_ap_nil, upd_same, upd_other, env0_ap0, env0_aps, xt_a, xt_b, xt_c, nk_ptr, -splice_eq, -stR_cells, stR_box, stR_boxA, stR_row, stR_row0, stR_row1, stR_rowA, stR_rowA0, splice_rowv, splice_rowv0, splice_rowv1, splice_z, splice_n, splice_s, nth_rowv, nth_rowv0, nth_rowv1, rowv_len, h4, c0, ia_52, E1.blk, X1, hg1]
    refine Ret.bind (atoi_m (l := y0) (by omega) (G.ext (by (repeat (first | exact Ext.rfl | assumption | (refine Ext.al ?_ _) | (refine Ext.dw ?_) | (refine Ext.set ?_ (by first | omega | (simp only [World.size_alloc, size_setRow, dw_size]; omega)) _) | (refine Ext.tr ?_ (by assumption))))))) ?_
    rintro ⟨_, w2⟩ ⟨E2, m0, er0, rfl, he0, hv0⟩
    try dsimp only at E2 m0 er0 he0 hv0
    have zE2 := E2.size
    try simp only [World.size_alloc, size_setRow, dw_size] at zE2
    have c22 := cellO_ext E2 c2
    simp (maxSteps := 1000000) (disch := first | assumption | omega | (simp only [World.size_alloc, size_setRow, dw_size]; done) | (simp only [World.size_alloc, size_setRow, dw_size] <;> omega) | (simp only [List.length_set, Array.length_toList, List.length_cons, List.length_nil, List.length_append, bts_size] <;> omega) | (simp only [List.all_cons, List.all_nil, Value.oneCell', Bool.and_self, Bool.and_true]; done)) [-Option.bind_some, hp_alloc_lt, hp_alloc_eq, hp_set_ne, wrap_small, ups_ap_cons, ups_ap_nil, upd_same, upd_other, env0_ap0, env0_aps, xt_a, xt_b, xt_c, nk_ptr, -splice_eq, -stR_cells, stR_box, stR_boxA, stR_row, stR_row0, stR_row1, stR_rowA, stR_rowA0, splice_rowv, splice_rowv0, splice_rowv1, splice_z, splice_n, splice_s, nth_rowv, nth_rowv0, nth_rowv1, rowv_len, h4, c2, c22, ia_52, xt_a, xt_b, E1.blk, X1, hg1, E2.blk]
    refine Ret.bind (atoi_m (l := y2) (by omega) (G.ext (by (repeat (first | exact Ext.rfl | assumption | (refine Ext.al ?_ _) | (refine Ext.dw ?_) | (refine Ext.set ?_ (by first | omega | (simp only [World.size_alloc, size_setRow, dw_size]; omega)) _) | (refine Ext.tr ?_ (by assumption))))))) ?_
    rintro ⟨_, w3⟩ ⟨E3, m2, er2, rfl, he2, hv2⟩
    try dsimp only at E3 m2 er2 he2 hv2
    have zE3 := E3.size
    try simp only [World.size_alloc, size_setRow, dw_size] at zE3
    have c33 := cellO_ext E3 (cellO_ext E2 c3)
    simp (maxSteps := 1000000) (disch := first | assumption | omega | (simp only [World.size_alloc, size_setRow, dw_size]; done) | (simp only [World.size_alloc, size_setRow, dw_size] <;> omega) | (simp only [List.length_set, Array.length_toList, List.length_cons, List.length_nil, List.length_append, bts_size] <;> omega) | (simp only [List.all_cons, List.all_nil, Value.oneCell', Bool.and_self, Bool.and_true]; done)) [-Option.bind_some, hp_alloc_lt, hp_alloc_eq, hp_set_ne, wrap_small, ups_ap_cons, ups_ap_nil, upd_same, upd_other, env0_ap0, env0_aps, xt_a, xt_b, xt_c, nk_ptr, -splice_eq, -stR_cells, stR_box, stR_boxA, stR_row, stR_row0, stR_row1, stR_rowA, stR_rowA0, splice_rowv, splice_rowv0, splice_rowv1, splice_z, splice_n, splice_s, nth_rowv, nth_rowv0, nth_rowv1, rowv_len, h4, c3, c33, ia_52, xt_a, xt_b, E1.blk, X1, hg1, E2.blk, E3.blk]
    refine Ret.bind (impl_TagGet_m (l := y3) (by omega) (G.ext (by (repeat (first | exact Ext.rfl | assumption | (refine Ext.al ?_ _) | (refine Ext.dw ?_) | (refine Ext.set ?_ (by first | omega | (simp only [World.size_alloc, size_setRow, dw_size]; omega)) _) | (refine Ext.tr ?_ (by assumption))))))) ?_
    rintro ⟨_, w4⟩ ⟨t, okt, rfl, hgt, E4⟩
    try dsimp only at t okt hgt E4
    have zE4 := E4.size
    try simp only [World.size_alloc, size_setRow, dw_size] at zE4
    have zE2 := E2.size
    have zE3 := E3.size
    have zE4 := E4.size
    have X4 : hp w4 w.heap.size = some (.cells #[i64 0, i64 0, i64 0, i64 0, i64 0] 38 (0, 0)) := (by first | assumption | rfl | (simp (maxSteps := 1000000) (disch := first | assumption | omega | (simp only [World.size_alloc, size_setRow, dw_size]; done) | (simp only [World.size_alloc, size_setRow, dw_size] <;> omega) | (simp only [List.length_set, Array.length_toList, List.length_cons, List.length_nil, List.length_append, bts_size] <;> omega) | (simp only [List.all_cons, List.all_nil, Value.oneCell', Bool.and_self, Bool.and_true]; done)) [-Option.bind_some, hp_alloc_lt, hp_alloc_eq, hp_set_ne, wrap_small, ups_ap_cons, ups_ap_nil, upd_same, upd_other, env0_ap0, env0_aps, xt_a, xt_b, xt_c, nk_ptr, -splice_eq, -stR_cells, stR_box, stR_boxA, stR_row, stR_row0, stR_row1, stR_rowA, stR_rowA0, splice_rowv, splice_rowv0, splice_rowv1, splice_z, splice_n, splice_s, nth_rowv, nth_rowv0, nth_rowv1, rowv_len, X1, E1.blk, X1, hg1, E2.blk, E3.blk, E4.blk]; done))
    have c14 := cellO_ext E4 (cellO_ext E3 (cellO_ext E2 c1))
    have en : ∀ (n : Nat) (er : Value) (w : World), (er = .nilIface ∨ ∃ u v, er = .iface u v) → bo P .eql 48 (.tmp n) (.const .nilIface) er .nilIface w = some (.bool (isNilV er), w) := fun n er w h => bo_eql_nili 48 _ Tryd.underlying48 n er h w
    have en0' := fun n w => en n er0 w he0
    have en2' := fun n w => en n er2 w he2
    generalize hb0 : isNilV er0 = b0 at en0'
    generalize hb2 : isNilV er2 = b2 at en2'
    simp (maxSteps := 1000000) (disch := first | assumption | omega | (simp only [World.size_alloc, size_setRow, dw_size]; done) | (simp only [World.size_alloc, size_setRow, dw_size] <;> omega) | (simp only [List.length_set, Array.length_toList, List.length_cons, List.length_nil, List.length_append, bts_size] <;> omega) | (simp only [List.all_cons, List.all_nil, Value.oneCell', Bool.and_self, Bool.and_true]; done)) [-Option.bind_some, hp_alloc_lt, hp_alloc_eq, hp_set_ne, wrap_small, ups_ap_cons, ups_ap_nil, upd_same, upd_other, env0_ap0, env0_aps, xt_a, xt_b, xt_c, nk_ptr, -splice_eq, -stR_cells, stR_box, stR_boxA, stR_row, stR_row0, stR_row1, stR_rowA, stR_rowA0, splice_rowv, splice_rowv0, splice_rowv1, splice_z, splice_n, splice_s, nth_rowv, nth_rowv0, nth_rowv1, rowv_len, h4, c1, c14, ia_52, xt_a, xt_b, en0', E1.blk, X1, hg1, E2.blk, E3.blk, E4.blk, X4]
    refine Ret.bind (doneNames_m _) ?_
    rintro ⟨_, w5⟩ ⟨g5, rfl, A5, E5⟩
    have zE5 := E5.size
    try simp only [World.size_alloc, size_setRow, dw_size] at zE5
    try dsimp only at A5 E5
    have zE5 := E5.size
    simp only [dw_size, size_setRow, World.size_alloc] at zE5
    have X5 : hp w5 w.heap.size = some (.cells #[i64 0, i64 0, i64 0, i64 0, i64 0] 38 (0, 0)) := (by first | assumption | rfl | (simp (maxSteps := 1000000) (disch := first | assumption | omega | (simp only [World.size_alloc, size_setRow, dw_size]; done) | (simp only [World.size_alloc, size_setRow, dw_size] <;> omega) | (simp only [List.length_set, Array.length_toList, List.length_cons, List.length_nil, List.length_append, bts_size] <;> omega) | (simp only [List.all_cons, List.all_nil, Value.oneCell', Bool.and_self, Bool.and_true]; done)) [-Option.bind_some, hp_alloc_lt, hp_alloc_eq, hp_set_ne, wrap_small, ups_ap_cons, ups_ap_nil, upd_same, upd_other, env0_ap0, env0_aps, xt_a, xt_b, xt_c, nk_ptr, -splice_eq, -stR_cells, stR_box, stR_boxA, stR_row, stR_row0, stR_row1, stR_rowA, stR_rowA0, splice_rowv, splice_rowv0, splice_rowv1, splice_z, splice_n, splice_s, nth_rowv, nth_rowv0, nth_rowv1, rowv_len, X4, E1.blk, X1, hg1, E2.blk, E3.blk, E4.blk, X4, E5.blk]; done))
    have T5 : hp w5 w4.heap.size = some (.cells #[i64 t.t, i64 t.p] 36 (0, 0)) := (by first | assumption | rfl | (simp (maxSteps := 1000000) (disch := first | assumption | omega | (simp only [World.size_alloc, size_setRow, dw_size]; done) | (simp only [World.size_alloc, size_setRow, dw_size] <;> omega) | (simp only [List.length_set, Array.length_toList, List.length_cons, List.length_nil, List.length_append, bts_size] <;> omega) | (simp only [List.all_cons, List.all_nil, Value.oneCell', Bool.and_self, Bool.and_true]; done)) [-Option.bind_some, hp_alloc_lt, hp_alloc_eq, hp_set_ne, wrap_small, ups_ap_cons, ups_ap_nil, upd_same, upd_other, env0_ap0, env0_aps, xt_a, xt_b, xt_c, nk_ptr, -splice_eq, -stR_cells, stR_box, stR_boxA, stR_row, stR_row0, stR_row1, stR_rowA, stR_rowA0, splice_rowv, splice_rowv0, splice_rowv1, splice_z, splice_n, splice_s, nth_rowv, nth_rowv0, nth_rowv1, rowv_len, E1.blk, X1, hg1, E2.blk, E3.blk, E4.blk, X4, E5.blk, X5]; done))
    have c15 : cellO (hp w5 g) 1 = some (.string (bts y1)) := cellO_ext (Ext.tr (by (repeat (first | exact Ext.rfl | assumption | (refine Ext.al ?_ _) | (refine Ext.dw ?_) | (refine Ext.set ?_ (by first | omega | (simp only [World.size_alloc, size_setRow, dw_size]; omega)) _) | (refine Ext.tr ?_ (by assumption))))) E5) c14
    simp (maxSteps := 1000000) (disch := first | assumption | omega | (simp only [World.size_alloc, size_setRow, dw_size]; done) | (simp only [World.size_alloc, size_setRow, dw_size] <;> omega) | (simp only [List.length_set, Array.length_toList, List.length_cons, List.length_nil, List.length_append, bts_size] <;> omega) | (simp only [List.all_cons, List.all_nil, Value.oneCell', Bool.and_self, Bool.and_true]; done)) [-Option.bind_some, hp_alloc_lt, hp_alloc_eq, hp_set_ne, wrap_small, ups_ap_cons, ups_ap_nil, upd_same, upd_other, env0_ap0, env0_aps, xt_a, xt_b, xt_c, nk_ptr, -splice_eq, -stR_cells, stR_box, stR_boxA, stR_row, stR_row0, stR_row1, stR_rowA, stR_rowA0, splice_rowv, splice_rowv0, splice_rowv1, splice_z, splice_n, splice_s, nth_rowv, nth_rowv0, nth_rowv1, rowv_len, h4, c1, c14, c15, ia_52, en0', T5, E1.blk, X1, hg1, E2.blk, E3.blk, E4.blk, X4, E5.blk, X5]
    refine Ret.bind (index_m (s := y1) A5) ?_
    rintro _ ⟨mk, rfl, hmk⟩
    have hno : ∀ d', opOk d' = true → lineL d' = l → b0 = true ∧ b2 = true ∧ okt = true ∧ (⟨m0, mk, m2, t⟩ : Done) = d' := by
      intro d' h1 h2
      obtain ⟨k0, k1, k2, k3⟩ := hw d' h1 h2
      obtain ⟨q1, q2, q3, q4, _⟩ := opOk_iff.1 h1
      have r0 := hv0 d'.sess.toNat (by omega) k0
      have r2 := hv2 d'.key.toNat (by omega) k2
      have r1 := hmk d'.kind q2.1 q2.2 k1
      have r3 : okt = true := by
        cases hh : okt
        · rw [hh] at hgt; exact absurd k3.symm ((hgt.2 rfl).2 _ q4)
        · rfl
      obtain ⟨h5, h6⟩ := hgt.1 r3
      refine ⟨by rw [← hb0, r0.1]; rfl, by rw [← hb2, r2.1]; rfl, r3, done_ext (by dsimp only; omega) r1 (by dsimp only; omega) (tagL_inj h5 q4 (h6.trans k3))⟩
    cases b0
    · simp (maxSteps := 1000000) (disch := first | assumption | omega | (simp only [World.size_alloc, size_setRow, dw_size]; done) | (simp only [World.size_alloc, size_setRow, dw_size] <;> omega) | (simp only [List.length_set, Array.length_toList, List.length_cons, List.length_nil, List.length_append, bts_size] <;> omega) | (simp only [List.all_cons, List.all_nil, Value.oneCell', Bool.and_self, Bool.and_true]; done)) [-Option.bind_some, hp_alloc_lt, hp_alloc_eq, hp_set_ne, wrap_small, ups_ap_cons, ups_ap_nil, upd_same, upd_other, env0_ap0, env0_aps, xt_a, xt_b, xt_c, nk_ptr, h4, c1, c14, c15, ia_52, en0', T5, X5, E1.blk, X1, hg1, E2.blk, E3.blk, E4.blk, X4, E5.blk, X5]
      exact hQ _ ⟨⟨m0, mk, m2, t⟩, false, rfl, fun d' h1 h2 => (by have := (hno d' h1 h2).1; cases this), by (repeat (first | exact Ext.rfl | assumption | (refine Ext.al ?_ _) | (refine Ext.dw ?_) | (refine Ext.set ?_ (by first | omega | (simp only [World.size_alloc, size_setRow, dw_size]; omega)) _) | (refine Ext.tr ?_ (by assumption))))⟩
    · cases b2
      · simp (maxSteps := 1000000) (disch := first | assumption | omega | (simp only [World.size_alloc, size_setRow, dw_size]; done) | (simp only [World.size_alloc, size_setRow, dw_size] <;> omega) | (simp only [List.length_set, Array.length_toList, List.length_cons, List.length_nil, List.length_append, bts_size] <;> omega) | (simp only [List.all_cons, List.all_nil, Value.oneCell', Bool.and_self, Bool.and_true]; done)) [-Option.bind_some, hp_alloc_lt, hp_alloc_eq, hp_set_ne, wrap_small, ups_ap_cons, ups_ap_nil, upd_same, upd_other, env0_ap0, env0_aps, xt_a, xt_b, xt_c, nk_ptr, h4, c1, c14, c15, ia_52, en0', en2', T5, X5, E1.blk, X1, hg1, E2.blk, E3.blk, E4.blk, X4, E5.blk, X5]
        exact hQ _ ⟨⟨m0, mk, m2, t⟩, false, rfl, fun d' h1 h2 => (by have := (hno d' h1 h2).2.1; cases this), by (repeat (first | exact Ext.rfl | assumption | (refine Ext.al ?_ _) | (refine Ext.dw ?_) | (refine Ext.set ?_ (by first | omega | (simp only [World.size_alloc, size_setRow, dw_size]; omega)) _) | (refine Ext.tr ?_ (by assumption))))⟩
      · simp (maxSteps := 1000000) (disch := first | assumption | omega | (simp only [World.size_alloc, size_setRow, dw_size]; done) | (simp only [World.size_alloc, size_setRow, dw_size] <;> omega) | (simp only [List.length_set, Array.length_toList, List.length_cons, List.length_nil, List.length_append, bts_size] <;> omega) | (simp only [List.all_cons, List.all_nil, Value.oneCell', Bool.and_self, Bool.and_true]; done)) [-Option.bind_some, hp_alloc_lt, hp_alloc_eq, hp_set_ne, wrap_small, ups_ap_cons, ups_ap_nil, upd_same, upd_other, env0_ap0, env0_aps, xt_a, xt_b, xt_c, nk_ptr, h4, c1, c14, c15, ia_52, en0', en2', T5, X5, E1.blk, X1, hg1, E2.blk, E3.blk, E4.blk, X4, E5.blk, X5]
        exact hQ _ ⟨⟨m0, mk, m2, t⟩, okt, rfl, fun d' h1 h2 => ⟨(hno d' h1 h2).2.2.1, (hno d' h1 h2).2.2.2⟩, by (repeat (first | exact Ext.rfl | assumption | (refine Ext.al ?_ _) | (refine Ext.dw ?_) | (refine Ext.set ?_ (by first | omega | (simp only [World.size_alloc, size_setRow, dw_size]; omega)) _) | (refine Ext.tr ?_ (by assumption))))⟩
  · have h4' : (((splitL 32 l).length : Int) != 4) = true := by simpa using (by omega : ((splitL 32 l).length : Int) ≠ 4)
    simp (maxSteps := 1000000) (disch := first | assumption | omega | (simp only [World.size_alloc, size_setRow, dw_size]; done) | (simp only [World.size_alloc, size_setRow, dw_size] <;> omega) | (simp only [List.length_set, Array.length_toList, List.length_cons, List.length_nil, List.length_append, bts_size] <;> omega) | (simp only [List.all_cons, List.all_nil, Value.oneCell', Bool.and_self, Bool.and_true]; done)) [-Option.bind_some, hp_alloc_lt, hp_alloc_eq, hp_set_ne, wrap_small, ups_ap_cons, ups_ap_nil, upd_same, upd_other, env0_ap0, env0_aps, xt_a, xt_b, xt_c, nk_ptr, h4', X1, E1.blk, X1]
    exact hQ _ ⟨⟨0, 0, 0, ⟨0, 0⟩⟩, false, rfl, fun d' h1 h2 => absurd (by rw [← h2, line_split]; rfl) h4, by (repeat (first | exact Ext.rfl | assumption | (refine Ext.al ?_ _) | (refine Ext.dw ?_) | (refine Ext.set ?_ (by first | omega | (simp only [World.size_alloc, size_setRow, dw_size]; omega)) _) | (refine Ext.tr ?_ (by assumption))))⟩
end Go.Proofs.YtkhbpmhagpljiaaDoor.X
set_option linter.unusedVariables false
set_option linter.unusedSimpArgs false
set_option maxRecDepth 100000
set_option maxHeartbeats 1000000
namespace Go.Proofs.YtkhbpmhagpljiaaDoor.X
open Go Go.Ev Go.RowKit
theorem histL_nil {l : List Done} (h : histL l = []) : l = [] := by
  cases l with
  | nil => rfl
  | cons d l => have := congrArg List.length h; simp [histL] at this
theorem cutH (rest : List UInt8) (hr : rest ≠ []) : ∃ a b f, cutV 10 rest = .tuple #[.string (bts a), .string (bts b), .bool f] ∧ a.length ≤ rest.length ∧ b.length < rest.length ∧ ∀ d zs, histL (d :: zs) = rest → a = lineL d ∧ b = histL zs := by
  have hp : 0 < rest.length := List.length_pos_iff.2 hr
  unfold cutV
  cases hc : cutL 10 rest with
  | none => exact ⟨rest, [], false, rfl, Nat.le_refl _, by simpa using hp, fun d zs h => by rw [← h, hist_cut] at hc; cases hc⟩
  | some p =>
    have h1 := (cutL_eq hc).1
    have hlen : rest.length = p.1.length + (p.2.length + 1) := by conv => lhs; rw [h1]; simp
    refine ⟨p.1, p.2, true, rfl, by omega, by omega, fun d zs h => ?_⟩
    rw [← h, hist_cut] at hc
    obtain rfl := Option.some.inj hc
    exact ⟨rfl, rfl⟩
theorem slices_Clip_Done_m {a : Option Addr} {n c : Nat} {w : World} (h : n ≤ c) (hc : c ≤ 9223372036854775807) : Ret (EV P 31 #[.slice a n c] w) fun r => r = (.slice a n n, w) := by
  refine Ret.post fun Q hQ => ?_
  refine Ret.enter plain mixed (slices_Clip_Done_fn _ _) (by kernel_rfl) (n := 1) (by kernel_rfl) rfl ?_
  simp (maxSteps := 1000000) (disch := first | assumption | omega | (simp only [World.size_alloc, size_setRow, dw_size]; done) | (simp only [World.size_alloc, size_setRow, dw_size] <;> omega) | (simp only [List.length_set, Array.length_toList, List.length_cons, List.length_nil, List.length_append, bts_size] <;> omega) | (simp only [List.all_cons, List.all_nil, Value.oneCell', Bool.and_self, Bool.and_true]; done)) [-Option.bind_some, hp_alloc_lt, hp_alloc_eq, hp_set_ne, wrap_small, ups_ap_cons, ups_ap_nil, upd_same, upd_other, env0_ap0, env0_aps, xt_a, xt_b, xt_c, nk_ptr, -splice_eq, -stR_cells, stR_box, stR_boxA, stR_row, stR_row0, stR_row1, stR_rowA, stR_rowA0, splice_rowv, splice_rowv0, splice_rowv1, splice_z, splice_n, splice_s, nth_rowv, nth_rowv0, nth_rowv1, rowv_len, sl_hm (P := P) el_25]
  exact hQ _ rfl
theorem HistGet_n {l : List UInt8} (hl : l.length ≤ 100000000) {w0 : World} (G : GlobE w0) : ∀ (N : Nat) (rest : List UInt8) (e : Env) (w : World) (acc : List Done) (a : Option Addr) (q : Nat), rest.length ≤ N → rest.length ≤ l.length → acc.length ≤ 81 → e 0 = .string (bts l) → e 4 = .slice a acc.length q → e 5 = .string (bts rest) →
      (∀ ys, formP ys = true → histL ys = l → ∃ zs, ys = acc ++ zs ∧ histL zs = rest) → O tDones (In w0.heap.size w.heap.size) w [.slice a acc.length q] acc → Ext w0 w →
      Ret (impl_HistGet_l1 e w) fun r => ∃ xs ok a q, r.1 = .tuple #[.slice a xs.length q, .bool ok] ∧ HistGot l xs ok ∧ O tDones (In w0.heap.size r.2.heap.size) r.2 [.slice a xs.length q] xs ∧ Ext w0 r.2 := by
  -- the end of the loop
  have fin : ∀ (rest : List UInt8) (e : Env) (w : World) (acc : List Done) (a : Option Addr) (q : Nat), (rest = [] ∨ 80 < acc.length) → acc.length ≤ 81 → e 0 = .string (bts l) → e 4 = .slice a acc.length q → e 5 = .string (bts rest) →
      (∀ ys, formP ys = true → histL ys = l → ∃ zs, ys = acc ++ zs ∧ histL zs = rest) → O tDones (In w0.heap.size w.heap.size) w [.slice a acc.length q] acc → Ext w0 w →
      Ret (impl_HistGet_l1 e w) fun r => ∃ xs ok a q, r.1 = .tuple #[.slice a xs.length q, .bool ok] ∧ HistGot l xs ok ∧ O tDones (In w0.heap.size r.2.heap.size) r.2 [.slice a xs.length q] xs ∧ Ext w0 r.2 := by
    intro rest e w acc a q hend hal e0 e4 e5 hi ho E0
    have zE0 := E0.size
    try simp only [World.size_alloc, size_setRow, dw_size] at zE0
    rw [impl_HistGet_l1_eq]
    have hcl := ho.clip
    have hys : ∀ ys, formP ys = true → histL ys = l → ys = acc := by
      intro ys h1 h2
      obtain ⟨zs, rfl, h3⟩ := hi ys h1 h2
      rcases hend with h | h
      · rw [h] at h3
        rw [histL_nil h3, List.append_nil]
      · have := formP_len h1
        rw [List.length_append] at this
        omega
    refine Ret.post fun Q hQ => ?_
    have bad : ∀ w', Ext w0 w' → (∀ ys, formP ys = true → histL ys ≠ l) → Q (.tuple #[.slice none 0 0, .bool false], w') := fun w' h1 h2 => hQ _ ⟨[], false, none, 0, rfl, ⟨by simp, fun _ => ⟨rfl, h2⟩⟩, O.nil, h1⟩
    have go : ∀ (e : Env) (w1 : World), Ext w w1 → e 0 = .string (bts l) → e 4 = .slice a acc.length q → True := fun _ _ _ _ _ => trivial
    have hne : (rest == []) = decide (rest = []) := by cases rest <;> rfl
    by_cases hr : rest = []
    · subst hr
      simp (maxSteps := 1000000) (disch := first | assumption | omega | (simp only [World.size_alloc, size_setRow, dw_size]; done) | (simp only [World.size_alloc, size_setRow, dw_size] <;> omega) | (simp only [List.length_set, Array.length_toList, List.length_cons, List.length_nil, List.length_append, bts_size] <;> omega) | (simp only [List.all_cons, List.all_nil, Value.oneCell', Bool.and_self, Bool.and_true]; done)) [-Option.bind_some, hp_alloc_lt, hp_alloc_eq, hp_set_ne, wrap_small, ups_ap_cons, ups_ap_nil, upd_same, upd_other, env0_ap0, env0_aps, xt_a, xt_b, xt_c, nk_ptr, -splice_eq, -stR_cells, stR_box, stR_boxA, stR_row, stR_row0, stR_row1, stR_rowA, stR_rowA0, splice_rowv, splice_rowv0, splice_rowv1, splice_z, splice_n, splice_s, nth_rowv, nth_rowv0, nth_rowv1, rowv_len, e0, e4, e5, bts_list, e0, e4, e5, E0.blk]
      refine Ret.bind (impl_formed_m ho.d) ?_
      rintro ⟨_, w1⟩ ⟨rfl, E1⟩
      try dsimp only at E1
      have zE1 := E1.size
      try simp only [World.size_alloc, size_setRow, dw_size] at zE1
      cases hf : formP acc
      · simp (maxSteps := 1000000) (disch := first | assumption | omega | (simp only [World.size_alloc, size_setRow, dw_size]; done) | (simp only [World.size_alloc, size_setRow, dw_size] <;> omega) | (simp only [List.length_set, Array.length_toList, List.length_cons, List.length_nil, List.length_append, bts_size] <;> omega) | (simp only [List.all_cons, List.all_nil, Value.oneCell', Bool.and_self, Bool.and_true]; done)) [-Option.bind_some, hp_alloc_lt, hp_alloc_eq, hp_set_ne, wrap_small, ups_ap_cons, ups_ap_nil, upd_same, upd_other, env0_ap0, env0_aps, xt_a, xt_b, xt_c, nk_ptr, -splice_eq, -stR_cells, stR_box, stR_boxA, stR_row, stR_row0, stR_row1, stR_rowA, stR_rowA0, splice_rowv, splice_rowv0, splice_rowv1, splice_z, splice_n, splice_s, nth_rowv, nth_rowv0, nth_rowv1, rowv_len, hf, e0, e4, e5, E0.blk, E1.blk]
        exact bad _ (by (repeat (first | exact Ext.rfl | assumption | (refine Ext.al ?_ _) | (refine Ext.dw ?_) | (refine Ext.set ?_ (by first | omega | (simp only [World.size_alloc, size_setRow, dw_size]; omega)) _) | (refine Ext.tr ?_ (by assumption))))) fun ys h1 h2 => by rw [hys ys h1 h2, hf] at h1; cases h1
      · simp (maxSteps := 1000000) (disch := first | assumption | omega | (simp only [World.size_alloc, size_setRow, dw_size]; done) | (simp only [World.size_alloc, size_setRow, dw_size] <;> omega) | (simp only [List.length_set, Array.length_toList, List.length_cons, List.length_nil, List.length_append, bts_size] <;> omega) | (simp only [List.all_cons, List.all_nil, Value.oneCell', Bool.and_self, Bool.and_true]; done)) [-Option.bind_some, hp_alloc_lt, hp_alloc_eq, hp_set_ne, wrap_small, ups_ap_cons, ups_ap_nil, upd_same, upd_other, env0_ap0, env0_aps, xt_a, xt_b, xt_c, nk_ptr, -splice_eq, -stR_cells, stR_box, stR_boxA, stR_row, stR_row0, stR_row1, stR_rowA, stR_rowA0, splice_rowv, splice_rowv0, splice_rowv1, splice_z, splice_n, splice_s, nth_rowv, nth_rowv0, nth_rowv1, rowv_len, hf, e0, e4, e0, e4, e5, E0.blk, E1.blk]
        refine Ret.bind (impl_HistPut_m (G.g.ext (by (repeat (first | exact Ext.rfl | assumption | (refine Ext.al ?_ _) | (refine Ext.dw ?_) | (refine Ext.set ?_ (by first | omega | (simp only [World.size_alloc, size_setRow, dw_size]; omega)) _) | (refine Ext.tr ?_ (by assumption)))))) (ho.d.ext (by (repeat (first | exact Ext.rfl | assumption | (refine Ext.al ?_ _) | (refine Ext.dw ?_) | (refine Ext.set ?_ (by first | omega | (simp only [World.size_alloc, size_setRow, dw_size]; omega)) _) | (refine Ext.tr ?_ (by assumption))))))) ?_
        rintro ⟨_, w2⟩ ⟨rfl, E2⟩
        try dsimp only at E2
        have zE2 := E2.size
        try simp only [World.size_alloc, size_setRow, dw_size] at zE2
        have hpu : histPutL acc = histL acc := by rw [histPutL, hf]; rfl
        by_cases hte : histL acc = l
        · simp (maxSteps := 1000000) (disch := first | assumption | omega | (simp only [World.size_alloc, size_setRow, dw_size]; done) | (simp only [World.size_alloc, size_setRow, dw_size] <;> omega) | (simp only [List.length_set, Array.length_toList, List.length_cons, List.length_nil, List.length_append, bts_size] <;> omega) | (simp only [List.all_cons, List.all_nil, Value.oneCell', Bool.and_self, Bool.and_true]; done)) [-Option.bind_some, hp_alloc_lt, hp_alloc_eq, hp_set_ne, wrap_small, ups_ap_cons, ups_ap_nil, upd_same, upd_other, env0_ap0, env0_aps, xt_a, xt_b, xt_c, nk_ptr, -splice_eq, -stR_cells, stR_box, stR_boxA, stR_row, stR_row0, stR_row1, stR_rowA, stR_rowA0, splice_rowv, splice_rowv0, splice_rowv1, splice_z, splice_n, splice_s, nth_rowv, nth_rowv0, nth_rowv1, rowv_len, hpu, hte, e0, e4, bts_list, e0, e4, e5, E0.blk, E1.blk, E2.blk]
          refine Ret.bind (slices_Clip_Done_m hcl.1 hcl.2.1) ?_
          rintro _ rfl
          simp (maxSteps := 1000000) (disch := first | assumption | omega | (simp only [World.size_alloc, size_setRow, dw_size]; done) | (simp only [World.size_alloc, size_setRow, dw_size] <;> omega) | (simp only [List.length_set, Array.length_toList, List.length_cons, List.length_nil, List.length_append, bts_size] <;> omega) | (simp only [List.all_cons, List.all_nil, Value.oneCell', Bool.and_self, Bool.and_true]; done)) [-Option.bind_some, hp_alloc_lt, hp_alloc_eq, hp_set_ne, wrap_small, ups_ap_cons, ups_ap_nil, upd_same, upd_other, env0_ap0, env0_aps, xt_a, xt_b, xt_c, nk_ptr, -splice_eq, -stR_cells, stR_box, stR_boxA, stR_row, stR_row0, stR_row1, stR_rowA, stR_rowA0, splice_rowv, splice_rowv0, splice_rowv1, splice_z, splice_n, splice_s, nth_rowv, nth_rowv0, nth_rowv1, rowv_len, e0, e4, e5, E0.blk, E1.blk, E2.blk]
          have zE1 := E1.size
          have zE2 := E2.size
          exact hQ _ ⟨acc, true, a, acc.length, rfl, ⟨fun _ => ⟨hf, hte⟩, by simp⟩, ((hcl.2.2.ext E1).ext E2).wide (by intro b hb _; simp only [In] at hb ⊢; omega), by (repeat (first | exact Ext.rfl | assumption | (refine Ext.al ?_ _) | (refine Ext.dw ?_) | (refine Ext.set ?_ (by first | omega | (simp only [World.size_alloc, size_setRow, dw_size]; omega)) _) | (refine Ext.tr ?_ (by assumption))))⟩
        · have hte' : (histL acc == l) = false := beq_eq_false_iff_ne.2 hte
          simp (maxSteps := 1000000) (disch := first | assumption | omega | (simp only [World.size_alloc, size_setRow, dw_size]; done) | (simp only [World.size_alloc, size_setRow, dw_size] <;> omega) | (simp only [List.length_set, Array.length_toList, List.length_cons, List.length_nil, List.length_append, bts_size] <;> omega) | (simp only [List.all_cons, List.all_nil, Value.oneCell', Bool.and_self, Bool.and_true]; done)) [-Option.bind_some, hp_alloc_lt, hp_alloc_eq, hp_set_ne, wrap_small, ups_ap_cons, ups_ap_nil, upd_same, upd_other, env0_ap0, env0_aps, xt_a, xt_b, xt_c, nk_ptr, -splice_eq, -stR_cells, stR_box, stR_boxA, stR_row, stR_row0, stR_row1, stR_rowA, stR_rowA0, splice_rowv, splice_rowv0, splice_rowv1, splice_z, splice_n, splice_s, nth_rowv, nth_rowv0, nth_rowv1, rowv_len, hpu, hte', e0, e4, bts_list, e0, e4, e5, E0.blk, E1.blk, E2.blk]
          exact bad _ (by (repeat (first | exact Ext.rfl | assumption | (refine Ext.al ?_ _) | (refine Ext.dw ?_) | (refine Ext.set ?_ (by first | omega | (simp only [World.size_alloc, size_setRow, dw_size]; omega)) _) | (refine Ext.tr ?_ (by assumption))))) fun ys h1 h2 => hte (by rw [← hys ys h1 h2]; exact h2)
    · have hr' : (rest == []) = false := beq_eq_false_iff_ne.2 hr
      have hre : rest.isEmpty = false := by cases rest; exact absurd rfl hr; rfl
      have hgt : 80 < acc.length := hend.resolve_left hr
      simp (maxSteps := 1000000) (disch := first | assumption | omega | (simp only [World.size_alloc, size_setRow, dw_size]; done) | (simp only [World.size_alloc, size_setRow, dw_size] <;> omega) | (simp only [List.length_set, Array.length_toList, List.length_cons, List.length_nil, List.length_append, bts_size] <;> omega) | (simp only [List.all_cons, List.all_nil, Value.oneCell', Bool.and_self, Bool.and_true]; done)) [-Option.bind_some, hp_alloc_lt, hp_alloc_eq, hp_set_ne, wrap_small, ups_ap_cons, ups_ap_nil, upd_same, upd_other, env0_ap0, env0_aps, xt_a, xt_b, xt_c, nk_ptr, -splice_eq, -stR_cells, stR_box, stR_boxA, stR_row, stR_row0, stR_row1, stR_rowA, stR_rowA0, splice_rowv, splice_rowv0, splice_rowv1, splice_z, splice_n, splice_s, nth_rowv, nth_rowv0, nth_rowv1, rowv_len, e0, e4, e5, bts_list, hr', hre, hr, show ¬ (acc.length : Int) ≤ 80 by omega, show ¬ acc.length ≤ 80 by omega, e0, e4, e5, E0.blk]
      refine Ret.bind (impl_formed_m ho.d) ?_
      rintro ⟨_, w1⟩ ⟨rfl, E1⟩
      try dsimp only at E1
      have zE1 := E1.size
      try simp only [World.size_alloc, size_setRow, dw_size] at zE1
      have hf : formP acc = false := by
        cases hf : formP acc
        · rfl
        · have := formP_len hf; omega
      simp (maxSteps := 1000000) (disch := first | assumption | omega | (simp only [World.size_alloc, size_setRow, dw_size]; done) | (simp only [World.size_alloc, size_setRow, dw_size] <;> omega) | (simp only [List.length_set, Array.length_toList, List.length_cons, List.length_nil, List.length_append, bts_size] <;> omega) | (simp only [List.all_cons, List.all_nil, Value.oneCell', Bool.and_self, Bool.and_true]; done)) [-Option.bind_some, hp_alloc_lt, hp_alloc_eq, hp_set_ne, wrap_small, ups_ap_cons, ups_ap_nil, upd_same, upd_other, env0_ap0, env0_aps, xt_a, xt_b, xt_c, nk_ptr, -splice_eq, -stR_cells, stR_box, stR_boxA, stR_row, stR_row0, stR_row1, stR_rowA, stR_rowA0, splice_rowv, splice_rowv0, splice_rowv1, splice_z, splice_n, splice_s, nth_rowv, nth_rowv0, nth_rowv1, rowv_len, hf, e0, e4, e5, E0.blk, E1.blk]
      exact bad _ (by (repeat (first | exact Ext.rfl | assumption | (refine Ext.al ?_ _) | (refine Ext.dw ?_) | (refine Ext.set ?_ (by first | omega | (simp only [World.size_alloc, size_setRow, dw_size]; omega)) _) | (refine Ext.tr ?_ (by assumption))))) fun ys h1 h2 => by rw [hys ys h1 h2, hf] at h1; cases h1
  intro N
  induction N with
  | zero =>
    intro rest e w acc a q hN hrl hal e0 e4 e5 hi ho E0
    have zE0 := E0.size
    try simp only [World.size_alloc, size_setRow, dw_size] at zE0
    exact fin rest e w acc a q (.inl (List.length_eq_zero_iff.1 (by omega))) hal e0 e4 e5 hi ho E0
  | succ N ih =>
    intro rest e w acc a q hN hrl hal e0 e4 e5 hi ho E0
    have zE0 := E0.size
    try simp only [World.size_alloc, size_setRow, dw_size] at zE0
    by_cases hend : rest = [] ∨ 80 < acc.length
    · exact fin rest e w acc a q hend hal e0 e4 e5 hi ho E0
    have hr : rest ≠ [] := fun h => hend (.inl h)
    have hle : acc.length ≤ 80 := by omega
    have hr' : (rest == []) = false := beq_eq_false_iff_ne.2 hr
    have hre : rest.isEmpty = false := by cases rest; exact absurd rfl hr; rfl
    obtain ⟨x, y, f, hV, hx, hy, hu⟩ := cutH rest hr
    rw [impl_HistGet_l1_eq]
    have hz := E0.size
    refine Ret.post fun Q hQ => ?_
    simp (maxSteps := 1000000) (disch := first | assumption | omega | (simp only [World.size_alloc, size_setRow, dw_size]; done) | (simp only [World.size_alloc, size_setRow, dw_size] <;> omega) | (simp only [List.length_set, Array.length_toList, List.length_cons, List.length_nil, List.length_append, bts_size] <;> omega) | (simp only [List.all_cons, List.all_nil, Value.oneCell', Bool.and_self, Bool.and_true]; done)) [-Option.bind_some, hp_alloc_lt, hp_alloc_eq, hp_set_ne, wrap_small, ups_ap_cons, ups_ap_nil, upd_same, upd_other, env0_ap0, env0_aps, xt_a, xt_b, xt_c, nk_ptr, -splice_eq, -stR_cells, stR_box, stR_boxA, stR_row, stR_row0, stR_row1, stR_rowA, stR_rowA0, splice_rowv, splice_rowv0, splice_rowv1, splice_z, splice_n, splice_s, nth_rowv, nth_rowv0, nth_rowv1, rowv_len, e0, e4, e5, bts_list, hr', hre, hr, show (acc.length : Int) ≤ 80 by omega, hle, mk_bts, e0, e4, e5, E0.blk]
    refine Ret.bind (cut_m (l := rest) (by omega) 10 _) ?_
    rintro ⟨_, w1⟩ ⟨rfl, E1⟩
    try dsimp only at E1
    have zE1 := E1.size
    try simp only [World.size_alloc, size_setRow, dw_size] at zE1
    rw [hV]
    simp (maxSteps := 1000000) (disch := first | assumption | omega | (simp only [World.size_alloc, size_setRow, dw_size]; done) | (simp only [World.size_alloc, size_setRow, dw_size] <;> omega) | (simp only [List.length_set, Array.length_toList, List.length_cons, List.length_nil, List.length_append, bts_size] <;> omega) | (simp only [List.all_cons, List.all_nil, Value.oneCell', Bool.and_self, Bool.and_true]; done)) [-Option.bind_some, hp_alloc_lt, hp_alloc_eq, hp_set_ne, wrap_small, ups_ap_cons, ups_ap_nil, upd_same, upd_other, env0_ap0, env0_aps, xt_a, xt_b, xt_c, nk_ptr, -splice_eq, -stR_cells, stR_box, stR_boxA, stR_row, stR_row0, stR_row1, stR_rowA, stR_rowA0, splice_rowv, splice_rowv0, splice_rowv1, splice_z, splice_n, splice_s, nth_rowv, nth_rowv0, nth_rowv1, rowv_len, xt_a, xt_b, xt_c, e0, e4, e5, E0.blk, E1.blk]
    refine Ret.bind (readDone_m (l := x) (by omega) (G.ext (by (repeat (first | exact Ext.rfl | assumption | (refine Ext.al ?_ _) | (refine Ext.dw ?_) | (refine Ext.set ?_ (by first | omega | (simp only [World.size_alloc, size_setRow, dw_size]; omega)) _) | (refine Ext.tr ?_ (by assumption))))))) ?_
    rintro ⟨_, w2⟩ ⟨d, ok, rfl, hd, E2⟩
    try dsimp only at d ok hd E2
    have zE2 := E2.size
    try simp only [World.size_alloc, size_setRow, dw_size] at zE2
    have hno : ∀ ys, formP ys = true → histL ys = l → ∃ zs, ys = acc ++ d :: zs ∧ histL zs = y ∧ ok = true := by
      intro ys h1 h2
      obtain ⟨zs, rfl, h3⟩ := hi ys h1 h2
      cases zs with
      | nil => exact absurd h3.symm hr
      | cons d' zs =>
        obtain ⟨h4, h5⟩ := hu d' zs h3
        obtain ⟨h6, h7⟩ := hd d' (formP_ops h1 d' (by simp)) h4.symm
        exact ⟨zs, by rw [h7], h5.symm, h6⟩
    cases ok
    · simp (maxSteps := 1000000) (disch := first | assumption | omega | (simp only [World.size_alloc, size_setRow, dw_size]; done) | (simp only [World.size_alloc, size_setRow, dw_size] <;> omega) | (simp only [List.length_set, Array.length_toList, List.length_cons, List.length_nil, List.length_append, bts_size] <;> omega) | (simp only [List.all_cons, List.all_nil, Value.oneCell', Bool.and_self, Bool.and_true]; done)) [-Option.bind_some, hp_alloc_lt, hp_alloc_eq, hp_set_ne, wrap_small, ups_ap_cons, ups_ap_nil, upd_same, upd_other, env0_ap0, env0_aps, xt_a, xt_b, xt_c, nk_ptr, -splice_eq, -stR_cells, stR_box, stR_boxA, stR_row, stR_row0, stR_row1, stR_rowA, stR_rowA0, splice_rowv, splice_rowv0, splice_rowv1, splice_z, splice_n, splice_s, nth_rowv, nth_rowv0, nth_rowv1, rowv_len, xt_a, xt_b, e0, e4, e5, E0.blk, E1.blk, E2.blk]
      refine hQ _ ⟨[], false, none, 0, rfl, ⟨by simp, fun _ => ⟨rfl, fun ys h1 h2 => ?_⟩⟩, O.nil, by (repeat (first | exact Ext.rfl | assumption | (refine Ext.al ?_ _) | (refine Ext.dw ?_) | (refine Ext.set ?_ (by first | omega | (simp only [World.size_alloc, size_setRow, dw_size]; omega)) _) | (refine Ext.tr ?_ (by assumption))))⟩
      obtain ⟨_, _, _, h⟩ := hno ys h1 h2
      cases h
    · simp (maxSteps := 1000000) (disch := first | assumption | omega | (simp only [World.size_alloc, size_setRow, dw_size]; done) | (simp only [World.size_alloc, size_setRow, dw_size] <;> omega) | (simp only [List.length_set, Array.length_toList, List.length_cons, List.length_nil, List.length_append, bts_size] <;> omega) | (simp only [List.all_cons, List.all_nil, Value.oneCell', Bool.and_self, Bool.and_true]; done)) [-Option.bind_some, hp_alloc_lt, hp_alloc_eq, hp_set_ne, wrap_small, ups_ap_cons, ups_ap_nil, upd_same, upd_other, env0_ap0, env0_aps, xt_a, xt_b, xt_c, nk_ptr, -splice_eq, -stR_cells, stR_box, stR_boxA, stR_row, stR_row0, stR_row1, stR_rowA, stR_rowA0, splice_rowv, splice_rowv0, splice_rowv1, splice_z, splice_n, splice_s, nth_rowv, nth_rowv0, nth_rowv1, rowv_len, xt_a, xt_b, e4, e0, e4, e5, E0.blk, E1.blk, E2.blk]
      refine Ret.bind (O.appD (L := LDone) (mx := 3518437208883) flat_done el_25 zz_38 rfl (by decide) (((ho.ext E1).ext E2).ext (by (repeat (first | exact Ext.rfl | assumption | (refine Ext.al ?_ _) | (refine Ext.dw ?_) | (refine Ext.set ?_ (by first | omega | (simp only [World.size_alloc, size_setRow, dw_size]; omega)) _) | (refine Ext.tr ?_ (by assumption)))))) (lit_done (d := d) (g := w2.heap.size + 1) (E := 38) (by first | assumption | rfl | (simp (maxSteps := 1000000) (disch := first | assumption | omega | (simp only [World.size_alloc, size_setRow, dw_size]; done) | (simp only [World.size_alloc, size_setRow, dw_size] <;> omega) | (simp only [List.length_set, Array.length_toList, List.length_cons, List.length_nil, List.length_append, bts_size] <;> omega) | (simp only [List.all_cons, List.all_nil, Value.oneCell', Bool.and_self, Bool.and_true]; done)) [-Option.bind_some, hp_alloc_lt, hp_alloc_eq, hp_set_ne, wrap_small, ups_ap_cons, ups_ap_nil, upd_same, upd_other, env0_ap0, env0_aps, xt_a, xt_b, xt_c, nk_ptr, -splice_eq, -stR_cells, stR_box, stR_boxA, stR_row, stR_row0, stR_row1, stR_rowA, stR_rowA0, splice_rowv, splice_rowv0, splice_rowv1, splice_z, splice_n, splice_s, nth_rowv, nth_rowv0, nth_rowv1, rowv_len, e0, e4, e5, E0.blk, E1.blk, E2.blk]; done))) (by simp; omega) (by decide) (by decide)) ?_
      rintro ⟨_, w3⟩ ⟨a3, q3, rfl, o3, M3⟩
      have zM3 := M3.size
      try simp only [World.size_alloc, size_setRow, dw_size] at zM3
      try dsimp only at o3 M3
      have zM3 := M3.size
      have zE1 := E1.size
      have zE2 := E2.size
      simp only [World.size_alloc, size_setRow, dw_size] at zM3 o3
      have F3 : Ext w0 w3 := Mod.after (a := w0) (by (repeat (first | exact Ext.rfl | assumption | (refine Ext.al ?_ _) | (refine Ext.dw ?_) | (refine Ext.set ?_ (by first | omega | (simp only [World.size_alloc, size_setRow, dw_size]; omega)) _) | (refine Ext.tr ?_ (by assumption))))) M3 (by intro y hy h; simp only [In] at h; omega)
      have hal3 : (acc ++ [d]).length = acc.length + [d].length := by simp
      rw [← hal3] at o3
      simp (maxSteps := 1000000) (disch := first | assumption | omega | (simp only [World.size_alloc, size_setRow, dw_size]; done) | (simp only [World.size_alloc, size_setRow, dw_size] <;> omega) | (simp only [List.length_set, Array.length_toList, List.length_cons, List.length_nil, List.length_append, bts_size] <;> omega) | (simp only [List.all_cons, List.all_nil, Value.oneCell', Bool.and_self, Bool.and_true]; done)) [-Option.bind_some, hp_alloc_lt, hp_alloc_eq, hp_set_ne, wrap_small, ups_ap_cons, ups_ap_nil, upd_same, upd_other, env0_ap0, env0_aps, xt_a, xt_b, xt_c, nk_ptr, -splice_eq, -stR_cells, stR_box, stR_boxA, stR_row, stR_row0, stR_row1, stR_rowA, stR_rowA0, splice_rowv, splice_rowv0, splice_rowv1, splice_z, splice_n, splice_s, nth_rowv, nth_rowv0, nth_rowv1, rowv_len, e0, e4, e5, E0.blk, E1.blk, E2.blk, M3.blk]
      refine Ret.mono (ih y _ _ (acc ++ [d]) a3 q3 (by omega) (by omega) (by simp; omega) (by first | omega | assumption | rfl | exact congrArg i64 (by omega) | (simp; done) | (simp; omega)) (by rw [hal3]; rfl) (by first | omega | assumption | rfl | exact congrArg i64 (by omega) | (simp; done) | (simp; omega)) (fun ys h1 h2 => ?_) (o3.wide (by intro b hb hl; simp only [In] at hb ⊢; rcases hb with hb | hb <;> omega)) F3) hQ
      obtain ⟨zs, h3, h4, _⟩ := hno ys h1 h2
      exact ⟨zs, by rw [h3]; simp, h4⟩
theorem impl_HistGet_m {l : List UInt8} (hl : l.length ≤ 100000000) {w : World} (G : GlobE w) : Ret (EV P 11 #[.string (bts l)] w) fun r => ∃ xs ok a q, r.1 = .tuple #[.slice a xs.length q, .bool ok] ∧ HistGot l xs ok ∧ O tDones (In w.heap.size r.2.heap.size) r.2 [.slice a xs.length q] xs ∧ Ext w r.2 := by
  refine Ret.post fun Q hQ => ?_
  refine Ret.enter plain mixed (impl_HistGet_fn _ _) (by kernel_rfl) (n := 1) (by kernel_rfl) rfl ?_
  simp (maxSteps := 1000000) (disch := first | assumption | omega | (simp only [World.size_alloc, size_setRow, dw_size]; done) | (simp only [World.size_alloc, size_setRow, dw_size] <;> omega) | (simp only [List.length_set, Array.length_toList, List.length_cons, List.length_nil, List.length_append, bts_size] <;> omega) | (simp only [List.all_cons, List.all_nil, Value.oneCell', Bool.and_self, Bool.and_true]; done)) [-Option.bind_some, hp_alloc_lt, hp_alloc_eq, hp_set_ne, wrap_small, ups_ap_cons, ups_ap_nil, upd_same, upd_other, env0_ap0, env0_aps, xt_a, xt_b, xt_c, nk_ptr, -splice_eq, -stR_cells, stR_box, stR_boxA, stR_row, stR_row0, stR_row1, stR_rowA, stR_rowA0, splice_rowv, splice_rowv0, splice_rowv1, splice_z, splice_n, splice_s, nth_rowv, nth_rowv0, nth_rowv1, rowv_len]
  exact Ret.mono (HistGet_n hl (w0 := w) G l.length l _ _ [] (some ⟨w.heap.size, 0, none⟩) 0 (Nat.le_refl _) (Nat.le_refl _) (by simp) (by first | omega | assumption | rfl | exact congrArg i64 (by omega) | (simp; done) | (simp; omega)) (by first | omega | assumption | rfl | exact congrArg i64 (by omega) | (simp; done) | (simp; omega)) (by first | omega | assumption | rfl | exact congrArg i64 (by omega) | (simp; done) | (simp; omega)) (fun ys h1 h2 => ⟨ys, rfl, h2⟩) ((O.empty (g := w.heap.size) (by first | assumption | rfl | (simp (maxSteps := 1000000) (disch := first | assumption | omega | (simp only [World.size_alloc, size_setRow, dw_size]; done) | (simp only [World.size_alloc, size_setRow, dw_size] <;> omega) | (simp only [List.length_set, Array.length_toList, List.length_cons, List.length_nil, List.length_append, bts_size] <;> omega) | (simp only [List.all_cons, List.all_nil, Value.oneCell', Bool.and_self, Bool.and_true]; done)) [-Option.bind_some, hp_alloc_lt, hp_alloc_eq, hp_set_ne, wrap_small, ups_ap_cons, ups_ap_nil, upd_same, upd_other, env0_ap0, env0_aps, xt_a, xt_b, xt_c, nk_ptr, -splice_eq, -stR_cells, stR_box, stR_boxA, stR_row, stR_row0, stR_row1, stR_rowA, stR_rowA0, splice_rowv, splice_rowv0, splice_rowv1, splice_z, splice_n, splice_s, nth_rowv, nth_rowv0, nth_rowv1, rowv_len]; done))).wide (by intro b hb hl; have : b = w.heap.size := hb; simp only [In, World.size_alloc] at *; omega)) (by (repeat (first | exact Ext.rfl | assumption | (refine Ext.al ?_ _) | (refine Ext.dw ?_) | (refine Ext.set ?_ (by first | omega | (simp only [World.size_alloc, size_setRow, dw_size]; omega)) _) | (refine Ext.tr ?_ (by assumption)))))) hQ
end Go.Proofs.YtkhbpmhagpljiaaDoor.X
