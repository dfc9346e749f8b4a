/- A part of the proof: an evaluator of the model, its laws, and contracts of functions; no condition. -/
import Derived.Test.YtcafhepclddcaaaEvHj
import Derived.Test.YtcafhepclddcaaaH6
set_option linter.unusedVariables false
set_option linter.unusedSimpArgs false
set_option maxRecDepth 100000
set_option maxHeartbeats 1000000
namespace Go.Proofs.Ytcafhepclddcaaa.X
open Go Go.Ev Go.RowKit
abbrev WkP (w0 w : World) (S : Nat → Prop) (g : Nat) (cur : List Value) (b : Book) (s : Value) (sn : List (List Tag)) : Prop := Wk tTags 32 w0 w S g cur b s sn
/-- What the loop does from here. -/
def WNext (Q : Value × World → Prop) (w0 : World) (xs : List Done) (a : Option Addr) (c g c4 : Nat) (T : List (List Tag)) (N k : Nat) : Prop :=
  ∀ (e : Env) (w : World) (S : Nat → Prop) (cur : List Value) (b : Book) (a6 : Option Addr) (n6 c6 : Nat) (sn : List (List Tag)), e 0 = .slice a xs.length c → e 4 = .slice (some ⟨g, 0, none⟩) 4 c4 → e 6 = .slice a6 n6 c6 → e 7 = i64 k → n6 = sn.length → WkP w0 w S g cur b (.slice a6 n6 c6) sn → b.Ok → sn.length = k → b.wr = swr (xs.take k) sn → sn ++ hseen b (xs.drop k) = T → k + (hgo b (xs.drop k)).2 = N →
    Ret (spec_l6Walk_l2 e w) Q
section
variable {Q : Value × World → Prop} {w0 w : World} {xs : List Done} {a a6 am : Option Addr} {c g c4 n6 c6 cm k N g8 g9 : Nat} {T sn : List (List Tag)} {S : Nat → Prop} {cur : List Value} {b b' : Book} {e : Env} {d : Done} {m : List Tag}
theorem walk_j4 (IH : WNext Q w0 xs a c g c4 T N (k + 1)) (e0 : e 0 = .slice a xs.length c) (e4 : e 4 = .slice (some ⟨g, 0, none⟩) 4 c4) (e6 : e 6 = .slice a6 n6 c6) (e7 : e 7 = i64 k) (hn : n6 = sn.length) (hk80 : k < 80) (hw : WkP w0 w S g cur b (.slice a6 n6 c6) sn) (hok : b.Ok) (hs : sn.length = k + 1) (hr : b.wr = swr (xs.take (k + 1)) sn) (hT : sn ++ hseen b (xs.drop (k + 1)) = T) (hN : (k + 1) + (hgo b (xs.drop (k + 1))).2 = N) :
    Ret (spec_l6Walk_j4 e w) Q := by
  rw [spec_l6Walk_j4_eq]
  simp (maxSteps := 1000000) (disch := first | assumption | omega | (simp only [World.size_alloc, size_setRow, dw_size]; done) | (simp only [World.size_alloc, size_setRow, dw_size] <;> omega) | (simp only [List.length_set, Array.length_toList, List.length_cons, List.length_nil, List.length_append, bts_size] <;> omega) | (simp only [List.all_cons, List.all_nil, Value.oneCell', Bool.and_self, Bool.and_true]; done)) [-Option.bind_some, hp_alloc_lt, hp_alloc_eq, hp_set_ne, wrap_small, ups_ap_cons, ups_ap_nil, upd_same, upd_other, env0_ap0, env0_aps, xt_a, xt_b, xt_c, -splice_eq, -stR_cells, stR_box, stR_boxA, stR_row, stR_row0, stR_row1, stR_rowA, stR_rowA0, splice_rowv, splice_rowv0, splice_rowv1, splice_z, splice_n, splice_s, nth_rowv, nth_rowv0, nth_rowv1, rowv_len, e0, e4, e6, e7]
  exact IH _ _ S cur b a6 n6 c6 sn (by first | omega | assumption | rfl | exact congrArg i64 (by omega) | (simp; done) | (simp; omega)) (by first | omega | assumption | rfl | exact congrArg i64 (by omega) | (simp; done) | (simp; omega)) (by first | omega | assumption | rfl | exact congrArg i64 (by omega) | (simp; done) | (simp; omega)) (by first | omega | assumption | rfl | exact congrArg i64 (by omega) | (simp; done) | (simp; omega)) hn hw hok hs hr hT hN
/-- A view changes, and is seen. -/
theorem walk_j1 (IH : WNext Q w0 xs a c g c4 T N (k + 1)) (e0 : e 0 = .slice a xs.length c) (e4 : e 4 = .slice (some ⟨g, 0, none⟩) 4 c4) (e6 : e 6 = .slice a6 sn.length c6) (e7 : e 7 = i64 k) (e8 : e 8 = pt g8 0) (e9 : e 9 = pt g9 0) (hk80 : k < 80) (hw : WkP w0 w S g cur b (.slice a6 sn.length c6) sn)
    (X8 : hp w g8 = some (.cells (doneC d).toArray 66 (0, 0))) (X9 : hp w g9 = some (.cells #[.slice am m.length cm] 32 (0, 0))) (hm : D tTags S w [.slice am m.length cm] m)
    (hd : opOk d = true) (hok : b.Ok) (hdk : xs[k]? = some d) (hs : sn.length = k) (hr : b.wr = swr (xs.take k) sn) (hb' : b' = ⟨b.vs.set d.sess.toNat m, b.wr⟩) (hb2 : hstep b d = some b') (hk1 : ¬ d.kind = 1) (hgg : g8 ≠ g ∧ g9 ≠ g) (hT : sn ++ hseen b (xs.drop k) = T) (hN : k + (hgo b (xs.drop k)).2 = N) :
    Ret (spec_l6Walk_j1 e w) Q := by
  obtain ⟨hg8, hg9⟩ := hgg
  rw [spec_l6Walk_j1_eq]
  obtain ⟨⟨hs0, hs3⟩, _⟩ := opOk_iff.1 hd
  have hs4 : d.sess < 4 := by omega
  have hvl := hok.1
  have hw' := hw
  obtain ⟨⟨X1, hc4, hvs⟩, hown, hSg, hbg, hg0, hgl, hSl, E0⟩ := hw
  have zE0 := E0.size
  try simp only [World.size_alloc, size_setRow, dw_size] at zE0
  have hsl : d.sess.toNat < cur.length := by omega
  have hdx : xs.drop k = d :: xs.drop (k + 1) := by
    obtain ⟨hlt, hx⟩ := List.getElem?_eq_some_iff.1 hdk
    rw [List.drop_eq_getElem_cons hlt, hx]
  have htk : xs.take (k + 1) = xs.take k ++ [d] := by rw [List.take_add_one, hdk]; rfl
  have hlt : k < xs.length := (List.getElem?_eq_some_iff.1 hdk).1
  simp (maxSteps := 1000000) (disch := first | assumption | omega | (simp only [World.size_alloc, size_setRow, dw_size]; done) | (simp only [World.size_alloc, size_setRow, dw_size] <;> omega) | (simp only [List.length_set, Array.length_toList, List.length_cons, List.length_nil, List.length_append, bts_size] <;> omega) | (simp only [List.all_cons, List.all_nil, Value.oneCell', Bool.and_self, Bool.and_true]; done)) [-Option.bind_some, hp_alloc_lt, hp_alloc_eq, hp_set_ne, wrap_small, ups_ap_cons, ups_ap_nil, upd_same, upd_other, env0_ap0, env0_aps, xt_a, xt_b, xt_c, -splice_eq, -stR_cells, stR_box, stR_boxA, stR_row, stR_row0, stR_row1, stR_rowA, stR_rowA0, splice_rowv, splice_rowv0, splice_rowv1, splice_z, splice_n, splice_s, nth_rowv, nth_rowv0, nth_rowv1, rowv_len, e4, e6, e7, e8, e9, X8, X9, X1, hs0, hs4, hsl, ia_62, stR_put, hg8, hg9, X1, hg0, E0.blk, hlt]
  have hwS := hw'.set (i := d.sess.toNat) (by omega) hm
  refine Ret.bind (Wk.push (P := P) (mx := 5864062014805) (ty := 62) rfl el_62 zz_32 rfl (hwS.ext (w' := (w.setRow g (splice cur d.sess.toNat [.slice am m.length cm]).toArray).alloc (.cells #[.slice am m.length cm] 32)) (Ext.alloc _ _)) (v := .slice am m.length cm) (x := m) (g1 := w.heap.size) (E' := 32) ?_ ?_ (by omega) (by decide) (by decide)) ?_
  · refine hm.keep fun y hy hl => ?_
    have : y ≠ g := fun e => hSg (e ▸ hy)
    simp (disch := (first | assumption | (simp; omega))) only [hp_alloc_lt, hp_set_ne]
  · exact (by first | assumption | rfl | (simp (maxSteps := 1000000) (disch := first | assumption | omega | (simp only [World.size_alloc, size_setRow, dw_size]; done) | (simp only [World.size_alloc, size_setRow, dw_size] <;> omega) | (simp only [List.length_set, Array.length_toList, List.length_cons, List.length_nil, List.length_append, bts_size] <;> omega) | (simp only [List.all_cons, List.all_nil, Value.oneCell', Bool.and_self, Bool.and_true]; done)) [-Option.bind_some, hp_alloc_lt, hp_alloc_eq, hp_set_ne, wrap_small, ups_ap_cons, ups_ap_nil, upd_same, upd_other, env0_ap0, env0_aps, xt_a, xt_b, xt_c, -splice_eq, -stR_cells, stR_box, stR_boxA, stR_row, stR_row0, stR_row1, stR_rowA, stR_rowA0, splice_rowv, splice_rowv0, splice_rowv1, splice_z, splice_n, splice_s, nth_rowv, nth_rowv0, nth_rowv1, rowv_len, hg8, hg9, X1, hg0, E0.blk, hlt]; done))
  · rintro ⟨_, w1⟩ ⟨a7, c7, rfl, hw1⟩
    dsimp only at hw1
    simp (maxSteps := 1000000) (disch := first | assumption | omega | (simp only [World.size_alloc, size_setRow, dw_size]; done) | (simp only [World.size_alloc, size_setRow, dw_size] <;> omega) | (simp only [List.length_set, Array.length_toList, List.length_cons, List.length_nil, List.length_append, bts_size] <;> omega) | (simp only [List.all_cons, List.all_nil, Value.oneCell', Bool.and_self, Bool.and_true]; done)) [-Option.bind_some, hp_alloc_lt, hp_alloc_eq, hp_set_ne, wrap_small, ups_ap_cons, ups_ap_nil, upd_same, upd_other, env0_ap0, env0_aps, xt_a, xt_b, xt_c, -splice_eq, -stR_cells, stR_box, stR_boxA, stR_row, stR_row0, stR_row1, stR_rowA, stR_rowA0, splice_rowv, splice_rowv0, splice_rowv1, splice_z, splice_n, splice_s, nth_rowv, nth_rowv0, nth_rowv1, rowv_len, hg8, hg9, X1, hg0, E0.blk, hlt]
    refine walk_j4 (sn := sn ++ [m]) (b := b') IH (by first | omega | assumption | rfl | exact congrArg i64 (by omega) | (simp; done) | (simp; omega)) (by first | omega | assumption | rfl | exact congrArg i64 (by omega) | (simp; done) | (simp; omega)) (by simp; rfl) (by first | omega | assumption | rfl | exact congrArg i64 (by omega) | (simp; done) | (simp; omega)) rfl hk80 (hb' ▸ hw1) (hstep_ok hok hd hb2) (by simp [hs]) ?_ ?_ ?_
    · rw [hstep_wr hok hd hb2, htk, swr_app _ _ _ _ (by simp; omega), hr, hb', view_set hok hd]
    · rw [← hT, hdx, hseen_some hb2, List.append_assoc, hb', view_set hok hd]
      rfl
    · rw [← hN, hdx, hgo_some hb2]
      omega
end
/-- What it does when it stops. -/
def WEnd (Q : Value × World → Prop) (w0 : World) (T : List (List Tag)) (N : Nat) : Prop :=
  ∀ (w : World) (S : Nat → Prop) (g : Nat) (cur : List Value) (b : Book) (a6 : Option Addr) (c6 : Nat), WkP w0 w S g cur b (.slice a6 T.length c6) T → Q (.tuple #[.slice a6 T.length c6, i64 N], w)
section
variable {Q : Value × World → Prop} {w0 w : World} {xs : List Done} {a a6 am : Option Addr} {c g c4 n6 c6 cm k N g8 g9 g12 : Nat} {T sn : List (List Tag)} {S : Nat → Prop} {cur : List Value} {b b' : Book} {e : Env} {d : Done} {m : List Tag}
theorem walk_stop (HE : WEnd Q w0 T N) (hw : WkP w0 w S g cur b (.slice a6 sn.length c6) sn) (hs : sn.length = k) (hdk : xs[k]? = some d) (hn : hstep b d = none) (hT : sn ++ hseen b (xs.drop k) = T) (hN : k + (hgo b (xs.drop k)).2 = N) :
    Q (.tuple #[.slice a6 sn.length c6, i64 k], w) := by
  have hdx : xs.drop k = d :: xs.drop (k + 1) := by
    obtain ⟨hlt, hx⟩ := List.getElem?_eq_some_iff.1 hdk
    rw [List.drop_eq_getElem_cons hlt, hx]
  rw [hdx, hseen_none hn, List.append_nil] at hT
  rw [hdx, hgo_none hn, Nat.add_zero] at hN
  subst hT hN
  exact HE _ _ _ _ _ _ _ hw
/-- A write is seen. -/
theorem walk_j2 (IH : WNext Q w0 xs a c g c4 T N (k + 1)) (HE : WEnd Q w0 T N) (e0 : e 0 = .slice a xs.length c) (e4 : e 4 = .slice (some ⟨g, 0, none⟩) 4 c4) (e6 : e 6 = .slice a6 sn.length c6) (e7 : e 7 = i64 k) (e8 : e 8 = pt g8 0) (e9 : e 9 = pt g9 0) (e11 : e 11 = .bool (wfind b.wr d.tag).isSome) (hk80 : k < 80) (hw : WkP w0 w S g cur b (.slice a6 sn.length c6) sn)
    (X8 : hp w g8 = some (.cells (doneC d).toArray 66 (0, 0))) (X9 : hp w g9 = some (.cells #[.slice am 4 cm] 32 (0, 0))) (hm : D tTags S w [.slice am 4 cm] (view b d))
    (hd : opOk d = true) (hok : b.Ok) (hdk : xs[k]? = some d) (hs : sn.length = k) (hr : b.wr = swr (xs.take k) sn) (hk1 : d.kind = 1) (hT : sn ++ hseen b (xs.drop k) = T) (hN : k + (hgo b (xs.drop k)).2 = N) :
    Ret (spec_l6Walk_j2 e w) Q := by
  rw [spec_l6Walk_j2_eq]
  have hvl := view_len hok hd
  have y8 := hp_lt X8
  have y9 := hp_lt X9
  obtain ⟨_, _, _, _, ht⟩ := opOk_iff.1 hd
  have hlp := laterP_eq (view b d) d.tag (by omega)
  have hst : hstep b d = if (wfind b.wr d.tag).isSome || !laterP (view b d) d.tag then none else some ⟨b.vs, b.wr ++ [(d.tag, d.sess, d.key, view b d)]⟩ := by
    unfold hstep
    rw [hk1, hlp, Bool.not_not]
    rfl
  have hdx : xs.drop k = d :: xs.drop (k + 1) := by
    obtain ⟨hlt, hx⟩ := List.getElem?_eq_some_iff.1 hdk
    rw [List.drop_eq_getElem_cons hlt, hx]
  have htk : xs.take (k + 1) = xs.take k ++ [d] := by rw [List.take_add_one, hdk]; rfl
  have hlt : k < xs.length := (List.getElem?_eq_some_iff.1 hdk).1
  cases hf : (wfind b.wr d.tag).isSome
  · rw [hf] at e11
    simp (maxSteps := 1000000) (disch := first | assumption | omega | (simp only [World.size_alloc, size_setRow, dw_size]; done) | (simp only [World.size_alloc, size_setRow, dw_size] <;> omega) | (simp only [List.length_set, Array.length_toList, List.length_cons, List.length_nil, List.length_append, bts_size] <;> omega) | (simp only [List.all_cons, List.all_nil, Value.oneCell', Bool.and_self, Bool.and_true]; done)) [-Option.bind_some, hp_alloc_lt, hp_alloc_eq, hp_set_ne, wrap_small, ups_ap_cons, ups_ap_nil, upd_same, upd_other, env0_ap0, env0_aps, xt_a, xt_b, xt_c, -splice_eq, -stR_cells, stR_box, stR_boxA, stR_row, stR_row0, stR_row1, stR_rowA, stR_rowA0, splice_rowv, splice_rowv0, splice_rowv1, splice_z, splice_n, splice_s, nth_rowv, nth_rowv0, nth_rowv1, rowv_len, e4, e6, e7, e8, e9, e11, X8, X9, hlt]
    refine Ret.bind (spec_l6Later_m (t := d.tag) hvl hm) ?_
    rintro ⟨_, w1⟩ ⟨rfl, E1⟩
    try dsimp only at E1
    have zE1 := E1.size
    try simp only [World.size_alloc, size_setRow, dw_size] at zE1
    cases hl : laterP (view b d) d.tag
    · simp (maxSteps := 1000000) (disch := first | assumption | omega | (simp only [World.size_alloc, size_setRow, dw_size]; done) | (simp only [World.size_alloc, size_setRow, dw_size] <;> omega) | (simp only [List.length_set, Array.length_toList, List.length_cons, List.length_nil, List.length_append, bts_size] <;> omega) | (simp only [List.all_cons, List.all_nil, Value.oneCell', Bool.and_self, Bool.and_true]; done)) [-Option.bind_some, hp_alloc_lt, hp_alloc_eq, hp_set_ne, wrap_small, ups_ap_cons, ups_ap_nil, upd_same, upd_other, env0_ap0, env0_aps, xt_a, xt_b, xt_c, -splice_eq, -stR_cells, stR_box, stR_boxA, stR_row, stR_row0, stR_row1, stR_rowA, stR_rowA0, splice_rowv, splice_rowv0, splice_rowv1, splice_z, splice_n, splice_s, nth_rowv, nth_rowv0, nth_rowv1, rowv_len, hl, e4, e6, e7, e8, e9, e11, X8, X9, hlt, E1.blk]
      exact walk_stop HE (hw.ext E1) hs hdk (by rw [hst, hf, hl]; rfl) hT hN
    · rw [hf, hl] at hst
      have hb2 : hstep b d = some ⟨b.vs, b.wr ++ [(d.tag, d.sess, d.key, view b d)]⟩ := hst
      simp (maxSteps := 1000000) (disch := first | assumption | omega | (simp only [World.size_alloc, size_setRow, dw_size]; done) | (simp only [World.size_alloc, size_setRow, dw_size] <;> omega) | (simp only [List.length_set, Array.length_toList, List.length_cons, List.length_nil, List.length_append, bts_size] <;> omega) | (simp only [List.all_cons, List.all_nil, Value.oneCell', Bool.and_self, Bool.and_true]; done)) [-Option.bind_some, hp_alloc_lt, hp_alloc_eq, hp_set_ne, wrap_small, ups_ap_cons, ups_ap_nil, upd_same, upd_other, env0_ap0, env0_aps, xt_a, xt_b, xt_c, -splice_eq, -stR_cells, stR_box, stR_boxA, stR_row, stR_row0, stR_row1, stR_rowA, stR_rowA0, splice_rowv, splice_rowv0, splice_rowv1, splice_z, splice_n, splice_s, nth_rowv, nth_rowv0, nth_rowv1, rowv_len, hl, e4, e6, e7, e8, e9, e11, X8, X9, hlt, E1.blk]
      have hw1 := hw.ext (E1.tr (Ext.alloc w1 (.cells #[.slice am 4 cm] 32 (0, 0))))
      refine Ret.bind (Wk.push (P := P) (mx := 5864062014805) (ty := 62) rfl el_62 zz_32 rfl hw1 (v := .slice am 4 cm) (x := view b d) (g1 := w1.heap.size) (E' := 32) (hm.ext (by (repeat (first | exact Ext.rfl | assumption | (refine Ext.al ?_ _) | (refine Ext.dw ?_) | (refine Ext.set ?_ (by first | omega | (simp only [World.size_alloc, size_setRow, dw_size]; omega)) _) | (refine Ext.tr ?_ (by assumption)))))) (by first | assumption | rfl | (simp (maxSteps := 1000000) (disch := first | assumption | omega | (simp only [World.size_alloc, size_setRow, dw_size]; done) | (simp only [World.size_alloc, size_setRow, dw_size] <;> omega) | (simp only [List.length_set, Array.length_toList, List.length_cons, List.length_nil, List.length_append, bts_size] <;> omega) | (simp only [List.all_cons, List.all_nil, Value.oneCell', Bool.and_self, Bool.and_true]; done)) [-Option.bind_some, hp_alloc_lt, hp_alloc_eq, hp_set_ne, wrap_small, ups_ap_cons, ups_ap_nil, upd_same, upd_other, env0_ap0, env0_aps, xt_a, xt_b, xt_c, -splice_eq, -stR_cells, stR_box, stR_boxA, stR_row, stR_row0, stR_row1, stR_rowA, stR_rowA0, splice_rowv, splice_rowv0, splice_rowv1, splice_z, splice_n, splice_s, nth_rowv, nth_rowv0, nth_rowv1, rowv_len, hlt, E1.blk]; done)) (by omega) (by decide) (by decide)) ?_
      rintro ⟨_, w2⟩ ⟨a7, c7, rfl, hw2⟩
      dsimp only at hw2
      simp (maxSteps := 1000000) (disch := first | assumption | omega | (simp only [World.size_alloc, size_setRow, dw_size]; done) | (simp only [World.size_alloc, size_setRow, dw_size] <;> omega) | (simp only [List.length_set, Array.length_toList, List.length_cons, List.length_nil, List.length_append, bts_size] <;> omega) | (simp only [List.all_cons, List.all_nil, Value.oneCell', Bool.and_self, Bool.and_true]; done)) [-Option.bind_some, hp_alloc_lt, hp_alloc_eq, hp_set_ne, wrap_small, ups_ap_cons, ups_ap_nil, upd_same, upd_other, env0_ap0, env0_aps, xt_a, xt_b, xt_c, -splice_eq, -stR_cells, stR_box, stR_boxA, stR_row, stR_row0, stR_row1, stR_rowA, stR_rowA0, splice_rowv, splice_rowv0, splice_rowv1, splice_z, splice_n, splice_s, nth_rowv, nth_rowv0, nth_rowv1, rowv_len, hlt, E1.blk]
      refine walk_j4 (sn := sn ++ [view b d]) (b := ⟨b.vs, b.wr ++ [(d.tag, d.sess, d.key, view b d)]⟩) IH (by first | omega | assumption | rfl | exact congrArg i64 (by omega) | (simp; done) | (simp; omega)) (by first | omega | assumption | rfl | exact congrArg i64 (by omega) | (simp; done) | (simp; omega)) (by simp; rfl) (by first | omega | assumption | rfl | exact congrArg i64 (by omega) | (simp; done) | (simp; omega)) rfl hk80 hw2 (hstep_ok hok hd hb2) (by simp [hs]) ?_ ?_ ?_
      · rw [htk, swr_app _ _ _ _ (by simp; omega), hr, hk1]
        rfl
      · rw [← hT, hdx, hseen_some hb2, List.append_assoc]
        rfl
      · rw [← hN, hdx, hgo_some hb2]
        omega
  · rw [hf] at e11
    simp (maxSteps := 1000000) (disch := first | assumption | omega | (simp only [World.size_alloc, size_setRow, dw_size]; done) | (simp only [World.size_alloc, size_setRow, dw_size] <;> omega) | (simp only [List.length_set, Array.length_toList, List.length_cons, List.length_nil, List.length_append, bts_size] <;> omega) | (simp only [List.all_cons, List.all_nil, Value.oneCell', Bool.and_self, Bool.and_true]; done)) [-Option.bind_some, hp_alloc_lt, hp_alloc_eq, hp_set_ne, wrap_small, ups_ap_cons, ups_ap_nil, upd_same, upd_other, env0_ap0, env0_aps, xt_a, xt_b, xt_c, -splice_eq, -stR_cells, stR_box, stR_boxA, stR_row, stR_row0, stR_row1, stR_rowA, stR_rowA0, splice_rowv, splice_rowv0, splice_rowv1, splice_z, splice_n, splice_s, nth_rowv, nth_rowv0, nth_rowv1, rowv_len, e4, e6, e7, e8, e9, e11, hlt]
    exact walk_stop HE hw hs hdk (by rw [hst, hf]; rfl) hT hN
end
section
variable {Q : Value × World → Prop} {w0 w : World} {xs : List Done} {a a6 am a12 : Option Addr} {c g c4 n6 c6 cm k N g8 g9 g12 c12 : Nat} {T sn : List (List Tag)} {S Sx S12 : Nat → Prop} {cur : List Value} {b b' : Book} {e : Env} {d : Done} {m : List Tag} {ok : Bool} {v12 : Value}
theorem wr_rel (hr : b.wr = swr (xs.take k) sn) (hs : sn.length = k) (hk : k < xs.length) (t : Tag) : (wfind b.wr t = none ∧ dfind (xs.take k) t = none ∧ sfind (xs.take k) sn t = none) ∨ ∃ x p, wfind b.wr t = some (x.sess, x.key, p) ∧ dfind (xs.take k) t = some x ∧ sfind (xs.take k) sn t = some p := by
  rw [hr]
  exact swr_find (xs.take k) sn t (by simp; omega)
theorem walk_a1 (IH : WNext Q w0 xs a c g c4 T N (k + 1)) (HE : WEnd Q w0 T N) (hx0 : D tDones Sx w0 [.slice a xs.length c] xs) (hcap : xs.length ≤ c) (e0 : e 0 = .slice a xs.length c) (e4 : e 4 = .slice (some ⟨g, 0, none⟩) 4 c4) (e6 : e 6 = .slice a6 sn.length c6) (e7 : e 7 = i64 k) (e8 : e 8 = pt g8 0) (e9 : e 9 = pt g9 0) (hk80 : k < 80) (hw : WkP w0 w S g cur b (.slice a6 sn.length c6) sn)
    (X8 : hp w g8 = some (.cells (doneC d).toArray 66 (0, 0))) (X9 : hp w g9 = some (.cells #[.slice am 4 cm] 32 (0, 0))) (hm : D tTags S w [.slice am 4 cm] (view b d))
    (hd : opOk d = true) (hok : b.Ok) (hdk : xs[k]? = some d) (hs : sn.length = k) (hr : b.wr = swr (xs.take k) sn) (hk1 : d.kind = 1) (hT : sn ++ hseen b (xs.drop k) = T) (hN : k + (hgo b (xs.drop k)).2 = N) :
    Ret (spec_l6Walk_a1 e w) Q := by
  have hn := hx0.n
  have hlt : k < xs.length := (List.getElem?_eq_some_iff.1 hdk).1
  have y8 := hp_lt X8
  have y9 := hp_lt X9
  have hlen : (xs.take k).length = k := by simp; omega
  have hsl : ∀ w, sl P 25 (.slice a xs.length c) none (some (i64 k)) none w = some (.slice a k c, w) := fun w => by
    simpa using sl_h (P := P) el_25 (a := a) (len := xs.length) (cap := c) (n := (k : Int)) (by omega) (by omega) w
  have E0 : Ext w0 w := hw.2.2.2.2.2.2.2
  have zE0 := E0.size
  try simp only [World.size_alloc, size_setRow, dw_size] at zE0
  have hS := hw.2.2.2.2.2.2.1
  have hown := hw.2.1
  have hxk : D tDones Sx w0 [.slice a k c] (xs.take k) := hx0.take (by omega)
  have hsn := hown.d (mx := 5864062014805) (by omega)
  have hS2 : ∀ y, (S y ∨ y ∈ (blkOf (.slice a6 sn.length c6)).toList) → y < w.heap.size := by
    rintro y (h | h)
    · exact (hS y h).2
    · obtain ⟨_, _, _, hh⟩ := hown
      exact (hh y h).2
  have hle : sn.length = (xs.take k).length := by omega
  refine spec_l6Walk_a1_any _ _ ?_
  simp (maxSteps := 1000000) (disch := first | assumption | omega | (simp only [World.size_alloc, size_setRow, dw_size]; done) | (simp only [World.size_alloc, size_setRow, dw_size] <;> omega) | (simp only [List.length_set, Array.length_toList, List.length_cons, List.length_nil, List.length_append, bts_size] <;> omega) | (simp only [List.all_cons, List.all_nil, Value.oneCell', Bool.and_self, Bool.and_true]; done)) [-Option.bind_some, hp_alloc_lt, hp_alloc_eq, hp_set_ne, wrap_small, ups_ap_cons, ups_ap_nil, upd_same, upd_other, env0_ap0, env0_aps, xt_a, xt_b, xt_c, -splice_eq, -stR_cells, stR_box, stR_boxA, stR_row, stR_row0, stR_row1, stR_rowA, stR_rowA0, splice_rowv, splice_rowv0, splice_rowv1, splice_z, splice_n, splice_s, nth_rowv, nth_rowv0, nth_rowv1, rowv_len, e0, e6, e7, e8, hsl, X8, hlt, E0.blk]
  have W1 := fun w' (h : Ext w w') => spec_l6Wrote_m (t := d.tag) hle (fun y hy => Nat.lt_of_lt_of_le (hS2 y hy) h.size) (hxk.ext (E0.tr h)) (hsn.ext h)
  have Rw := wr_rel hr hs hlt d.tag
  constructor
  · refine Ret.mono (W1 _ (by (repeat (first | exact Ext.rfl | assumption | (refine Ext.al ?_ _) | (refine Ext.dw ?_) | (refine Ext.set ?_ (by first | omega | (simp only [World.size_alloc, size_setRow, dw_size]; omega)) _) | (refine Ext.tr ?_ (by assumption)))))) ?_
    rintro ⟨_, w1⟩ ⟨h, E1⟩
    have zE1 := E1.size
    try simp only [World.size_alloc, size_setRow, dw_size] at zE1
    dsimp only at E1
    have F1 : Ext w w1 := by (repeat (first | exact Ext.rfl | assumption | (refine Ext.al ?_ _) | (refine Ext.dw ?_) | (refine Ext.set ?_ (by first | omega | (simp only [World.size_alloc, size_setRow, dw_size]; omega)) _) | (refine Ext.tr ?_ (by assumption))))
    have zF1 := F1.size
    have zE1' := E1.size
    try simp only [World.size_alloc, dw_size] at zE1'
    rcases h with ⟨h1, rfl⟩ | ⟨p, a3, c3, h1, h2, rfl, h4⟩
    · have hf : (wfind b.wr d.tag).isSome = false := by
        rcases Rw with ⟨r1, _⟩ | ⟨x, q, _, _, r3⟩
        · rw [r1]; rfl
        · rw [h1] at r3; cases r3
      simp (maxSteps := 1000000) (disch := first | assumption | omega | (simp only [World.size_alloc, size_setRow, dw_size]; done) | (simp only [World.size_alloc, size_setRow, dw_size] <;> omega) | (simp only [List.length_set, Array.length_toList, List.length_cons, List.length_nil, List.length_append, bts_size] <;> omega) | (simp only [List.all_cons, List.all_nil, Value.oneCell', Bool.and_self, Bool.and_true]; done)) [-Option.bind_some, hp_alloc_lt, hp_alloc_eq, hp_set_ne, wrap_small, ups_ap_cons, ups_ap_nil, upd_same, upd_other, env0_ap0, env0_aps, xt_a, xt_b, xt_c, -splice_eq, -stR_cells, stR_box, stR_boxA, stR_row, stR_row0, stR_row1, stR_rowA, stR_rowA0, splice_rowv, splice_rowv0, splice_rowv1, splice_z, splice_n, splice_s, nth_rowv, nth_rowv0, nth_rowv1, rowv_len, X8, hlt, E0.blk, E1.blk]
      refine walk_j2 (am := am) (cm := cm) (g8 := g8) (g9 := g9) IH HE (by exact e0) (by exact e4) (by exact e6) (by exact e7) (by exact e8) (by exact e9) (by rw [hf]; rfl) hk80 (hw.ext (by (repeat (first | exact Ext.rfl | assumption | (refine Ext.al ?_ _) | (refine Ext.dw ?_) | (refine Ext.set ?_ (by first | omega | (simp only [World.size_alloc, size_setRow, dw_size]; omega)) _) | (refine Ext.tr ?_ (by assumption)))))) (by first | assumption | rfl | (simp (maxSteps := 1000000) (disch := first | assumption | omega | (simp only [World.size_alloc, size_setRow, dw_size]; done) | (simp only [World.size_alloc, size_setRow, dw_size] <;> omega) | (simp only [List.length_set, Array.length_toList, List.length_cons, List.length_nil, List.length_append, bts_size] <;> omega) | (simp only [List.all_cons, List.all_nil, Value.oneCell', Bool.and_self, Bool.and_true]; done)) [-Option.bind_some, hp_alloc_lt, hp_alloc_eq, hp_set_ne, wrap_small, ups_ap_cons, ups_ap_nil, upd_same, upd_other, env0_ap0, env0_aps, xt_a, xt_b, xt_c, -splice_eq, -stR_cells, stR_box, stR_boxA, stR_row, stR_row0, stR_row1, stR_rowA, stR_rowA0, splice_rowv, splice_rowv0, splice_rowv1, splice_z, splice_n, splice_s, nth_rowv, nth_rowv0, nth_rowv1, rowv_len, X8, hlt, E0.blk, E1.blk]; done)) (by first | assumption | rfl | (simp (maxSteps := 1000000) (disch := first | assumption | omega | (simp only [World.size_alloc, size_setRow, dw_size]; done) | (simp only [World.size_alloc, size_setRow, dw_size] <;> omega) | (simp only [List.length_set, Array.length_toList, List.length_cons, List.length_nil, List.length_append, bts_size] <;> omega) | (simp only [List.all_cons, List.all_nil, Value.oneCell', Bool.and_self, Bool.and_true]; done)) [-Option.bind_some, hp_alloc_lt, hp_alloc_eq, hp_set_ne, wrap_small, ups_ap_cons, ups_ap_nil, upd_same, upd_other, env0_ap0, env0_aps, xt_a, xt_b, xt_c, -splice_eq, -stR_cells, stR_box, stR_boxA, stR_row, stR_row0, stR_row1, stR_rowA, stR_rowA0, splice_rowv, splice_rowv0, splice_rowv1, splice_z, splice_n, splice_s, nth_rowv, nth_rowv0, nth_rowv1, rowv_len, X9, hlt, E0.blk, E1.blk]; done)) (hm.ext (by (repeat (first | exact Ext.rfl | assumption | (refine Ext.al ?_ _) | (refine Ext.dw ?_) | (refine Ext.set ?_ (by first | omega | (simp only [World.size_alloc, size_setRow, dw_size]; omega)) _) | (refine Ext.tr ?_ (by assumption)))))) hd hok hdk hs hr hk1 hT hN
    · have hf : (wfind b.wr d.tag).isSome = true := by
        rcases Rw with ⟨_, _, r3⟩ | ⟨x, q, r1, _, _⟩
        · rw [h1] at r3; cases r3
        · rw [r1]; rfl
      simp (maxSteps := 1000000) (disch := first | assumption | omega | (simp only [World.size_alloc, size_setRow, dw_size]; done) | (simp only [World.size_alloc, size_setRow, dw_size] <;> omega) | (simp only [List.length_set, Array.length_toList, List.length_cons, List.length_nil, List.length_append, bts_size] <;> omega) | (simp only [List.all_cons, List.all_nil, Value.oneCell', Bool.and_self, Bool.and_true]; done)) [-Option.bind_some, hp_alloc_lt, hp_alloc_eq, hp_set_ne, wrap_small, ups_ap_cons, ups_ap_nil, upd_same, upd_other, env0_ap0, env0_aps, xt_a, xt_b, xt_c, -splice_eq, -stR_cells, stR_box, stR_boxA, stR_row, stR_row0, stR_row1, stR_rowA, stR_rowA0, splice_rowv, splice_rowv0, splice_rowv1, splice_z, splice_n, splice_s, nth_rowv, nth_rowv0, nth_rowv1, rowv_len, X8, hlt, E0.blk, E1.blk]
      refine walk_j2 (am := am) (cm := cm) (g8 := g8) (g9 := g9) IH HE (by exact e0) (by exact e4) (by exact e6) (by exact e7) (by exact e8) (by exact e9) (by rw [hf]; rfl) hk80 (hw.ext (by (repeat (first | exact Ext.rfl | assumption | (refine Ext.al ?_ _) | (refine Ext.dw ?_) | (refine Ext.set ?_ (by first | omega | (simp only [World.size_alloc, size_setRow, dw_size]; omega)) _) | (refine Ext.tr ?_ (by assumption)))))) (by first | assumption | rfl | (simp (maxSteps := 1000000) (disch := first | assumption | omega | (simp only [World.size_alloc, size_setRow, dw_size]; done) | (simp only [World.size_alloc, size_setRow, dw_size] <;> omega) | (simp only [List.length_set, Array.length_toList, List.length_cons, List.length_nil, List.length_append, bts_size] <;> omega) | (simp only [List.all_cons, List.all_nil, Value.oneCell', Bool.and_self, Bool.and_true]; done)) [-Option.bind_some, hp_alloc_lt, hp_alloc_eq, hp_set_ne, wrap_small, ups_ap_cons, ups_ap_nil, upd_same, upd_other, env0_ap0, env0_aps, xt_a, xt_b, xt_c, -splice_eq, -stR_cells, stR_box, stR_boxA, stR_row, stR_row0, stR_row1, stR_rowA, stR_rowA0, splice_rowv, splice_rowv0, splice_rowv1, splice_z, splice_n, splice_s, nth_rowv, nth_rowv0, nth_rowv1, rowv_len, X8, hlt, E0.blk, E1.blk]; done)) (by first | assumption | rfl | (simp (maxSteps := 1000000) (disch := first | assumption | omega | (simp only [World.size_alloc, size_setRow, dw_size]; done) | (simp only [World.size_alloc, size_setRow, dw_size] <;> omega) | (simp only [List.length_set, Array.length_toList, List.length_cons, List.length_nil, List.length_append, bts_size] <;> omega) | (simp only [List.all_cons, List.all_nil, Value.oneCell', Bool.and_self, Bool.and_true]; done)) [-Option.bind_some, hp_alloc_lt, hp_alloc_eq, hp_set_ne, wrap_small, ups_ap_cons, ups_ap_nil, upd_same, upd_other, env0_ap0, env0_aps, xt_a, xt_b, xt_c, -splice_eq, -stR_cells, stR_box, stR_boxA, stR_row, stR_row0, stR_row1, stR_rowA, stR_rowA0, splice_rowv, splice_rowv0, splice_rowv1, splice_z, splice_n, splice_s, nth_rowv, nth_rowv0, nth_rowv1, rowv_len, X9, hlt, E0.blk, E1.blk]; done)) (hm.ext (by (repeat (first | exact Ext.rfl | assumption | (refine Ext.al ?_ _) | (refine Ext.dw ?_) | (refine Ext.set ?_ (by first | omega | (simp only [World.size_alloc, size_setRow, dw_size]; omega)) _) | (refine Ext.tr ?_ (by assumption)))))) hd hok hdk hs hr hk1 hT hN
  · refine Ret.mono (W1 _ (by (repeat (first | exact Ext.rfl | assumption | (refine Ext.al ?_ _) | (refine Ext.dw ?_) | (refine Ext.set ?_ (by first | omega | (simp only [World.size_alloc, size_setRow, dw_size]; omega)) _) | (refine Ext.tr ?_ (by assumption)))))) ?_
    rintro ⟨_, w1⟩ ⟨h, E1⟩
    have zE1 := E1.size
    try simp only [World.size_alloc, size_setRow, dw_size] at zE1
    dsimp only at E1
    have F1 : Ext w w1 := by (repeat (first | exact Ext.rfl | assumption | (refine Ext.al ?_ _) | (refine Ext.dw ?_) | (refine Ext.set ?_ (by first | omega | (simp only [World.size_alloc, size_setRow, dw_size]; omega)) _) | (refine Ext.tr ?_ (by assumption))))
    have zF1 := F1.size
    have zE1' := E1.size
    try simp only [World.size_alloc, dw_size] at zE1'
    have X5 : hp w1 w.heap.size = some (.cells #[.slice none 0 0] 32 (0, 0)) := (E1.blk (by simp)).trans (by first | assumption | rfl | (simp (maxSteps := 1000000) (disch := first | assumption | omega | (simp only [World.size_alloc, size_setRow, dw_size]; done) | (simp only [World.size_alloc, size_setRow, dw_size] <;> omega) | (simp only [List.length_set, Array.length_toList, List.length_cons, List.length_nil, List.length_append, bts_size] <;> omega) | (simp only [List.all_cons, List.all_nil, Value.oneCell', Bool.and_self, Bool.and_true]; done)) [-Option.bind_some, hp_alloc_lt, hp_alloc_eq, hp_set_ne, wrap_small, ups_ap_cons, ups_ap_nil, upd_same, upd_other, env0_ap0, env0_aps, xt_a, xt_b, xt_c, -splice_eq, -stR_cells, stR_box, stR_boxA, stR_row, stR_row0, stR_row1, stR_rowA, stR_rowA0, splice_rowv, splice_rowv0, splice_rowv1, splice_z, splice_n, splice_s, nth_rowv, nth_rowv0, nth_rowv1, rowv_len, hlt, E0.blk, E1.blk]; done))
    rcases h with ⟨h1, rfl⟩ | ⟨p, a3, c3, h1, h2, rfl, h4⟩
    · have hf : (wfind b.wr d.tag).isSome = false := by
        rcases Rw with ⟨r1, _⟩ | ⟨x, q, _, _, r3⟩
        · rw [r1]; rfl
        · rw [h1] at r3; cases r3
      simp (maxSteps := 1000000) (disch := first | assumption | omega | (simp only [World.size_alloc, size_setRow, dw_size]; done) | (simp only [World.size_alloc, size_setRow, dw_size] <;> omega) | (simp only [List.length_set, Array.length_toList, List.length_cons, List.length_nil, List.length_append, bts_size] <;> omega) | (simp only [List.all_cons, List.all_nil, Value.oneCell', Bool.and_self, Bool.and_true]; done)) [-Option.bind_some, hp_alloc_lt, hp_alloc_eq, hp_set_ne, wrap_small, ups_ap_cons, ups_ap_nil, upd_same, upd_other, env0_ap0, env0_aps, xt_a, xt_b, xt_c, -splice_eq, -stR_cells, stR_box, stR_boxA, stR_row, stR_row0, stR_row1, stR_rowA, stR_rowA0, splice_rowv, splice_rowv0, splice_rowv1, splice_z, splice_n, splice_s, nth_rowv, nth_rowv0, nth_rowv1, rowv_len, X8, X5, hlt, E0.blk, E1.blk, X5]
      refine walk_j2 (am := am) (cm := cm) (g8 := g8) (g9 := g9) IH HE (by exact e0) (by exact e4) (by exact e6) (by exact e7) (by exact e8) (by exact e9) (by rw [hf]; rfl) hk80 (hw.ext (by (repeat (first | exact Ext.rfl | assumption | (refine Ext.al ?_ _) | (refine Ext.dw ?_) | (refine Ext.set ?_ (by first | omega | (simp only [World.size_alloc, size_setRow, dw_size]; omega)) _) | (refine Ext.tr ?_ (by assumption)))))) (by first | assumption | rfl | (simp (maxSteps := 1000000) (disch := first | assumption | omega | (simp only [World.size_alloc, size_setRow, dw_size]; done) | (simp only [World.size_alloc, size_setRow, dw_size] <;> omega) | (simp only [List.length_set, Array.length_toList, List.length_cons, List.length_nil, List.length_append, bts_size] <;> omega) | (simp only [List.all_cons, List.all_nil, Value.oneCell', Bool.and_self, Bool.and_true]; done)) [-Option.bind_some, hp_alloc_lt, hp_alloc_eq, hp_set_ne, wrap_small, ups_ap_cons, ups_ap_nil, upd_same, upd_other, env0_ap0, env0_aps, xt_a, xt_b, xt_c, -splice_eq, -stR_cells, stR_box, stR_boxA, stR_row, stR_row0, stR_row1, stR_rowA, stR_rowA0, splice_rowv, splice_rowv0, splice_rowv1, splice_z, splice_n, splice_s, nth_rowv, nth_rowv0, nth_rowv1, rowv_len, X8, hlt, E0.blk, E1.blk, X5]; done)) (by first | assumption | rfl | (simp (maxSteps := 1000000) (disch := first | assumption | omega | (simp only [World.size_alloc, size_setRow, dw_size]; done) | (simp only [World.size_alloc, size_setRow, dw_size] <;> omega) | (simp only [List.length_set, Array.length_toList, List.length_cons, List.length_nil, List.length_append, bts_size] <;> omega) | (simp only [List.all_cons, List.all_nil, Value.oneCell', Bool.and_self, Bool.and_true]; done)) [-Option.bind_some, hp_alloc_lt, hp_alloc_eq, hp_set_ne, wrap_small, ups_ap_cons, ups_ap_nil, upd_same, upd_other, env0_ap0, env0_aps, xt_a, xt_b, xt_c, -splice_eq, -stR_cells, stR_box, stR_boxA, stR_row, stR_row0, stR_row1, stR_rowA, stR_rowA0, splice_rowv, splice_rowv0, splice_rowv1, splice_z, splice_n, splice_s, nth_rowv, nth_rowv0, nth_rowv1, rowv_len, X9, hlt, E0.blk, E1.blk, X5]; done)) (hm.ext (by (repeat (first | exact Ext.rfl | assumption | (refine Ext.al ?_ _) | (refine Ext.dw ?_) | (refine Ext.set ?_ (by first | omega | (simp only [World.size_alloc, size_setRow, dw_size]; omega)) _) | (refine Ext.tr ?_ (by assumption)))))) hd hok hdk hs hr hk1 hT hN
    · have hf : (wfind b.wr d.tag).isSome = true := by
        rcases Rw with ⟨_, _, r3⟩ | ⟨x, q, r1, _, _⟩
        · rw [h1] at r3; cases r3
        · rw [r1]; rfl
      simp (maxSteps := 1000000) (disch := first | assumption | omega | (simp only [World.size_alloc, size_setRow, dw_size]; done) | (simp only [World.size_alloc, size_setRow, dw_size] <;> omega) | (simp only [List.length_set, Array.length_toList, List.length_cons, List.length_nil, List.length_append, bts_size] <;> omega) | (simp only [List.all_cons, List.all_nil, Value.oneCell', Bool.and_self, Bool.and_true]; done)) [-Option.bind_some, hp_alloc_lt, hp_alloc_eq, hp_set_ne, wrap_small, ups_ap_cons, ups_ap_nil, upd_same, upd_other, env0_ap0, env0_aps, xt_a, xt_b, xt_c, -splice_eq, -stR_cells, stR_box, stR_boxA, stR_row, stR_row0, stR_row1, stR_rowA, stR_rowA0, splice_rowv, splice_rowv0, splice_rowv1, splice_z, splice_n, splice_s, nth_rowv, nth_rowv0, nth_rowv1, rowv_len, X8, X5, hlt, E0.blk, E1.blk, X5]
      refine walk_j2 (am := am) (cm := cm) (g8 := g8) (g9 := g9) IH HE (by exact e0) (by exact e4) (by exact e6) (by exact e7) (by exact e8) (by exact e9) (by rw [hf]; rfl) hk80 (hw.ext (by (repeat (first | exact Ext.rfl | assumption | (refine Ext.al ?_ _) | (refine Ext.dw ?_) | (refine Ext.set ?_ (by first | omega | (simp only [World.size_alloc, size_setRow, dw_size]; omega)) _) | (refine Ext.tr ?_ (by assumption)))))) (by first | assumption | rfl | (simp (maxSteps := 1000000) (disch := first | assumption | omega | (simp only [World.size_alloc, size_setRow, dw_size]; done) | (simp only [World.size_alloc, size_setRow, dw_size] <;> omega) | (simp only [List.length_set, Array.length_toList, List.length_cons, List.length_nil, List.length_append, bts_size] <;> omega) | (simp only [List.all_cons, List.all_nil, Value.oneCell', Bool.and_self, Bool.and_true]; done)) [-Option.bind_some, hp_alloc_lt, hp_alloc_eq, hp_set_ne, wrap_small, ups_ap_cons, ups_ap_nil, upd_same, upd_other, env0_ap0, env0_aps, xt_a, xt_b, xt_c, -splice_eq, -stR_cells, stR_box, stR_boxA, stR_row, stR_row0, stR_row1, stR_rowA, stR_rowA0, splice_rowv, splice_rowv0, splice_rowv1, splice_z, splice_n, splice_s, nth_rowv, nth_rowv0, nth_rowv1, rowv_len, X8, hlt, E0.blk, E1.blk, X5]; done)) (by first | assumption | rfl | (simp (maxSteps := 1000000) (disch := first | assumption | omega | (simp only [World.size_alloc, size_setRow, dw_size]; done) | (simp only [World.size_alloc, size_setRow, dw_size] <;> omega) | (simp only [List.length_set, Array.length_toList, List.length_cons, List.length_nil, List.length_append, bts_size] <;> omega) | (simp only [List.all_cons, List.all_nil, Value.oneCell', Bool.and_self, Bool.and_true]; done)) [-Option.bind_some, hp_alloc_lt, hp_alloc_eq, hp_set_ne, wrap_small, ups_ap_cons, ups_ap_nil, upd_same, upd_other, env0_ap0, env0_aps, xt_a, xt_b, xt_c, -splice_eq, -stR_cells, stR_box, stR_boxA, stR_row, stR_row0, stR_row1, stR_rowA, stR_rowA0, splice_rowv, splice_rowv0, splice_rowv1, splice_z, splice_n, splice_s, nth_rowv, nth_rowv0, nth_rowv1, rowv_len, X9, hlt, E0.blk, E1.blk, X5]; done)) (hm.ext (by (repeat (first | exact Ext.rfl | assumption | (refine Ext.al ?_ _) | (refine Ext.dw ?_) | (refine Ext.set ?_ (by first | omega | (simp only [World.size_alloc, size_setRow, dw_size]; omega)) _) | (refine Ext.tr ?_ (by assumption)))))) hd hok hdk hs hr hk1 hT hN
end
end Go.Proofs.Ytcafhepclddcaaa.X
set_option linter.unusedVariables false
set_option linter.unusedSimpArgs false
set_option maxRecDepth 100000
set_option maxHeartbeats 1000000
namespace Go.Proofs.Ytcafhepclddcaaa.X
open Go Go.Ev Go.RowKit
section
variable {Q : Value × World → Prop} {w0 wq w : World} {xs : List Done} {a a6 am a12 : Option Addr} {c g c4 n6 c6 cm k N g8 g9 g12 c12 : Nat} {T sn : List (List Tag)} {S Sx S12 : Nat → Prop} {cur : List Value} {b b' : Book} {e : Env} {d : Done} {m p : List Tag} {ok : Bool} {v12 : Value}
theorem walk_j3 (IH : WNext Q w0 xs a c g c4 T N (k + 1)) (HE : WEnd Q w0 T N) (hx0 : D tDones Sx w0 [.slice a xs.length c] xs) (hcap : xs.length ≤ c) (e0 : e 0 = .slice a xs.length c) (e4 : e 4 = .slice (some ⟨g, 0, none⟩) 4 c4) (e6 : e 6 = .slice a6 sn.length c6) (e7 : e 7 = i64 k) (e8 : e 8 = pt g8 0) (e9 : e 9 = pt g9 0) (hk80 : k < 80) (hw : WkP w0 wq S g cur b (.slice a6 sn.length c6) sn) (Eq : Ext wq w) (hq8 : wq.heap.size ≤ g8) (hq9 : wq.heap.size ≤ g9) (h89 : g8 ≠ g9)
    (X8 : hp w g8 = some (.cells (doneC d).toArray 66 (0, 0))) (X9 : hp w g9 = some (.cells #[.slice am 4 cm] 32 (0, 0))) (hm : D tTags S wq [.slice am 4 cm] (view b d))
    (e12 : e 12 = pt g12 0) (h12 : (sfind (xs.take k) sn d.tag = none ∧ e 13 = .bool false) ∨ ∃ p, sfind (xs.take k) sn d.tag = some p ∧ e 13 = .bool true ∧ p ∈ sn ∧ D tTags S12 w [.slice a12 p.length c12] p ∧ hp w g12 = some (.cells #[.slice a12 p.length c12] 32 (0, 0)))
    (hd : opOk d = true) (hok : b.Ok) (hdk : xs[k]? = some d) (hs : sn.length = k) (hr : b.wr = swr (xs.take k) sn) (hk1 : ¬ d.kind = 1) (hless : tagLess d.tag ((view b d).getD d.key.toNat ⟨0, 0⟩) = false) (hpos : 0 < d.tag.t) (hT : sn ++ hseen b (xs.drop k) = T) (hN : k + (hgo b (xs.drop k)).2 = N) :
    Ret (spec_l6Walk_j3 e w) Q := by
  rw [spec_l6Walk_j3_eq]
  have hn := hx0.n
  have hlt : k < xs.length := (List.getElem?_eq_some_iff.1 hdk).1
  have y8 := hp_lt X8
  have y9 := hp_lt X9
  have hvl := view_len hok hd
  obtain ⟨⟨hs0, hs3⟩, _, ⟨hy0, hy3⟩, _⟩ := opOk_iff.1 hd
  have hsl : ∀ w, sl P 25 (.slice a xs.length c) none (some (i64 k)) none w = some (.slice a k c, w) := fun w => by
    simpa using sl_h (P := P) el_25 (a := a) (len := xs.length) (cap := c) (n := (k : Int)) (by omega) (by omega) w
  have E0 : Ext w0 w := hw.2.2.2.2.2.2.2.tr Eq
  have zE0 := E0.size
  try simp only [World.size_alloc, size_setRow, dw_size] at zE0
  have hxk : D tDones Sx w [.slice a k c] (xs.take k) := (hx0.take (by omega)).ext E0
  have hgq := hw.2.2.2.2.2.1
  have hSq := hw.2.2.2.2.2.2.1
  have hownq := hw.2.1
  have zq0 := hw.2.2.2.2.2.2.2.size
  have zq := Eq.size
  have hk2 : (d.kind == 1) = false := by simpa using hk1
  have hst : hstep b d = (match wfind b.wr d.tag with
      | none => none
      | some (s, k, past) => if k != d.key || ((d.kind == 3) && (s != d.sess)) then none else some ⟨b.vs.set d.sess.toNat (withT (joinT (view b d) past) d.key.toNat d.tag), b.wr⟩) := by
    unfold hstep
    rw [hk2, hless, if_neg (by decide), if_neg (by decide), if_pos (by simpa using hpos)]
    rfl
  rcases wr_rel hr hs hlt d.tag with ⟨r1, r2, r3⟩ | ⟨x, p, r1, r2, r3⟩
  · rw [r1] at hst
    rcases h12 with ⟨_, e13⟩ | ⟨p, h, _⟩
    · simp (maxSteps := 1000000) (disch := first | assumption | omega | (simp only [World.size_alloc, size_setRow, dw_size]; done) | (simp only [World.size_alloc, size_setRow, dw_size] <;> omega) | (simp only [List.length_set, Array.length_toList, List.length_cons, List.length_nil, List.length_append, bts_size] <;> omega) | (simp only [List.all_cons, List.all_nil, Value.oneCell', Bool.and_self, Bool.and_true]; done)) [-Option.bind_some, hp_alloc_lt, hp_alloc_eq, hp_set_ne, wrap_small, ups_ap_cons, ups_ap_nil, upd_same, upd_other, env0_ap0, env0_aps, xt_a, xt_b, xt_c, -splice_eq, -stR_cells, stR_box, stR_boxA, stR_row, stR_row0, stR_row1, stR_rowA, stR_rowA0, splice_rowv, splice_rowv0, splice_rowv1, splice_z, splice_n, splice_s, nth_rowv, nth_rowv0, nth_rowv1, rowv_len, e0, e4, e6, e7, e8, e9, e12, e13, hlt, E0.blk]
      exact walk_stop HE ((hw.ext Eq).ext (by (repeat (first | exact Ext.rfl | assumption | (refine Ext.al ?_ _) | (refine Ext.dw ?_) | (refine Ext.set ?_ (by first | omega | (simp only [World.size_alloc, size_setRow, dw_size]; omega)) _) | (refine Ext.tr ?_ (by assumption)))))) hs hdk hst hT hN
    · rw [r3] at h; cases h
  · rw [r1] at hst
    rcases h12 with ⟨h, _⟩ | ⟨p', h, e13, hpm, D12, X12⟩
    · rw [r3] at h; cases h
    · obtain rfl : p = p' := by rw [r3] at h; exact Option.some.inj h
      have y12 := hp_lt X12
      have hpl : p.length = 4 := hok.2.2 _ (wfind_mem r1)
      simp (maxSteps := 1000000) (disch := first | assumption | omega | (simp only [World.size_alloc, size_setRow, dw_size]; done) | (simp only [World.size_alloc, size_setRow, dw_size] <;> omega) | (simp only [List.length_set, Array.length_toList, List.length_cons, List.length_nil, List.length_append, bts_size] <;> omega) | (simp only [List.all_cons, List.all_nil, Value.oneCell', Bool.and_self, Bool.and_true]; done)) [-Option.bind_some, hp_alloc_lt, hp_alloc_eq, hp_set_ne, wrap_small, ups_ap_cons, ups_ap_nil, upd_same, upd_other, env0_ap0, env0_aps, xt_a, xt_b, xt_c, -splice_eq, -stR_cells, stR_box, stR_boxA, stR_row, stR_row0, stR_row1, stR_rowA, stR_rowA0, splice_rowv, splice_rowv0, splice_rowv1, splice_z, splice_n, splice_s, nth_rowv, nth_rowv0, nth_rowv1, rowv_len, e0, e4, e6, e7, e8, e9, e12, e13, hsl, X8, X9, X12, hlt, E0.blk]
      refine Ret.bind (spec_l6Of_m (d0 := d) (hxk.ext (by (repeat (first | exact Ext.rfl | assumption | (refine Ext.al ?_ _) | (refine Ext.dw ?_) | (refine Ext.set ?_ (by first | omega | (simp only [World.size_alloc, size_setRow, dw_size]; omega)) _) | (refine Ext.tr ?_ (by assumption))))))) ?_
      rintro ⟨_, w1⟩ ⟨rfl, E1⟩
      have zE1 := E1.size
      try simp only [World.size_alloc, size_setRow, dw_size] at zE1
      rw [r2]
      try dsimp only at E1
      have zE1 := E1.size
      have F1 : Ext w w1 := by (repeat (first | exact Ext.rfl | assumption | (refine Ext.al ?_ _) | (refine Ext.dw ?_) | (refine Ext.set ?_ (by first | omega | (simp only [World.size_alloc, size_setRow, dw_size]; omega)) _) | (refine Ext.tr ?_ (by assumption))))
      cases hkey : (x.key == d.key)
      · have hkey' : (x.key != d.key) = true := by simp [bne, hkey]
        simp only [hkey', Bool.true_or, if_true] at hst
        simp (maxSteps := 1000000) (disch := first | assumption | omega | (simp only [World.size_alloc, size_setRow, dw_size]; done) | (simp only [World.size_alloc, size_setRow, dw_size] <;> omega) | (simp only [List.length_set, Array.length_toList, List.length_cons, List.length_nil, List.length_append, bts_size] <;> omega) | (simp only [List.all_cons, List.all_nil, Value.oneCell', Bool.and_self, Bool.and_true]; done)) [-Option.bind_some, hp_alloc_lt, hp_alloc_eq, hp_set_ne, wrap_small, ups_ap_cons, ups_ap_nil, upd_same, upd_other, env0_ap0, env0_aps, xt_a, xt_b, xt_c, -splice_eq, -stR_cells, stR_box, stR_boxA, stR_row, stR_row0, stR_row1, stR_rowA, stR_rowA0, splice_rowv, splice_rowv0, splice_rowv1, splice_z, splice_n, splice_s, nth_rowv, nth_rowv0, nth_rowv1, rowv_len, e0, e4, e6, e7, e8, e9, e12, e13, hsl, X8, X9, X12, hkey, hlt, E0.blk, E1.blk]
        exact walk_stop HE ((hw.ext Eq).ext (by (repeat (first | exact Ext.rfl | assumption | (refine Ext.al ?_ _) | (refine Ext.dw ?_) | (refine Ext.set ?_ (by first | omega | (simp only [World.size_alloc, size_setRow, dw_size]; omega)) _) | (refine Ext.tr ?_ (by assumption)))))) hs hdk hst hT hN
      · have hkey' : (x.key != d.key) = false := by simp [bne, hkey]
        simp only [hkey', Bool.false_or] at hst
        have hmv : D tTags S wq [.slice am (view b d).length cm] (view b d) := by rw [hvl]; exact hm
        have J := fun w' (h : Ext w w') => spec_l1Join_m (xs := view b d) (ys := p) hvl hpl ((hmv.ext Eq).ext h) (D12.ext h)
        simp only [hvl] at J
        have hkn : ((d.key.toNat : Nat) : Int) = d.key := Int.toNat_of_nonneg hy0
        cases hk3 : (d.kind == 3)
        · simp only [hk3, Bool.false_and, Bool.false_eq_true, if_false] at hst
          simp (maxSteps := 1000000) (disch := first | assumption | omega | (simp only [World.size_alloc, size_setRow, dw_size]; done) | (simp only [World.size_alloc, size_setRow, dw_size] <;> omega) | (simp only [List.length_set, Array.length_toList, List.length_cons, List.length_nil, List.length_append, bts_size] <;> omega) | (simp only [List.all_cons, List.all_nil, Value.oneCell', Bool.and_self, Bool.and_true]; done)) [-Option.bind_some, hp_alloc_lt, hp_alloc_eq, hp_set_ne, wrap_small, ups_ap_cons, ups_ap_nil, upd_same, upd_other, env0_ap0, env0_aps, xt_a, xt_b, xt_c, -splice_eq, -stR_cells, stR_box, stR_boxA, stR_row, stR_row0, stR_row1, stR_rowA, stR_rowA0, splice_rowv, splice_rowv0, splice_rowv1, splice_z, splice_n, splice_s, nth_rowv, nth_rowv0, nth_rowv1, rowv_len, e0, e4, e6, e7, e8, e9, e12, e13, hsl, X8, X9, X12, hkey, hk3, hlt, E0.blk, E1.blk]
          refine Ret.bind (J _ (by (repeat (first | exact Ext.rfl | assumption | (refine Ext.al ?_ _) | (refine Ext.dw ?_) | (refine Ext.set ?_ (by first | omega | (simp only [World.size_alloc, size_setRow, dw_size]; omega)) _) | (refine Ext.tr ?_ (by assumption)))))) ?_
          rintro ⟨_, w2⟩ ⟨a1, c1, rfl, o1', E2⟩
          try dsimp only at a1 c1 o1' E2
          have zE2 := E2.size
          try simp only [World.size_alloc, size_setRow, dw_size] at zE2
          have o1d := o1'.d
          have Wt := spec_l1With_m (k := d.key.toNat) (t := d.tag) (w := w2) (by rw [joinT_len _ _ (by omega)]; omega) o1d
          rw [hkn] at Wt
          have zF2 := (F1.dw.tr E2).size
          simp (maxSteps := 1000000) (disch := first | assumption | omega | (simp only [World.size_alloc, size_setRow, dw_size]; done) | (simp only [World.size_alloc, size_setRow, dw_size] <;> omega) | (simp only [List.length_set, Array.length_toList, List.length_cons, List.length_nil, List.length_append, bts_size] <;> omega) | (simp only [List.all_cons, List.all_nil, Value.oneCell', Bool.and_self, Bool.and_true]; done)) [-Option.bind_some, hp_alloc_lt, hp_alloc_eq, hp_set_ne, wrap_small, ups_ap_cons, ups_ap_nil, upd_same, upd_other, env0_ap0, env0_aps, xt_a, xt_b, xt_c, -splice_eq, -stR_cells, stR_box, stR_boxA, stR_row, stR_row0, stR_row1, stR_rowA, stR_rowA0, splice_rowv, splice_rowv0, splice_rowv1, splice_z, splice_n, splice_s, nth_rowv, nth_rowv0, nth_rowv1, rowv_len, e0, e4, e6, e7, e8, e9, e12, e13, hsl, X8, X9, X12, hkey, hk3, hlt, E0.blk, E1.blk, E2.blk]
          refine Ret.bind (Wt) ?_
          rintro ⟨_, w3⟩ ⟨a3, c3, rfl, o3, E3⟩
          try dsimp only at a3 c3 o3 E3
          have zE3 := E3.size
          try simp only [World.size_alloc, size_setRow, dw_size] at zE3
          have F3 : Ext w w3 := by (repeat (first | exact Ext.rfl | assumption | (refine Ext.al ?_ _) | (refine Ext.dw ?_) | (refine Ext.set ?_ (by first | omega | (simp only [World.size_alloc, size_setRow, dw_size]; omega)) _) | (refine Ext.tr ?_ (by assumption))))
          simp (maxSteps := 1000000) (disch := first | assumption | omega | (simp only [World.size_alloc, size_setRow, dw_size]; done) | (simp only [World.size_alloc, size_setRow, dw_size] <;> omega) | (simp only [List.length_set, Array.length_toList, List.length_cons, List.length_nil, List.length_append, bts_size] <;> omega) | (simp only [List.all_cons, List.all_nil, Value.oneCell', Bool.and_self, Bool.and_true]; done)) [-Option.bind_some, hp_alloc_lt, hp_alloc_eq, hp_set_ne, wrap_small, ups_ap_cons, ups_ap_nil, upd_same, upd_other, env0_ap0, env0_aps, xt_a, xt_b, xt_c, -splice_eq, -stR_cells, stR_box, stR_boxA, stR_row, stR_row0, stR_row1, stR_rowA, stR_rowA0, splice_rowv, splice_rowv0, splice_rowv1, splice_z, splice_n, splice_s, nth_rowv, nth_rowv0, nth_rowv1, rowv_len, e0, e4, e6, e7, e8, e9, e12, e13, hsl, X8, X9, X12, hkey, hk3, hlt, E0.blk, E1.blk, E2.blk, E3.blk]
          have o3d := o3.d
          refine walk_j1 (cur := cur) (S := fun x => S x ∨ In w2.heap.size w3.heap.size x) (g8 := g8) (g9 := g9) (m := withT (joinT (view b d) p) d.key.toNat d.tag) (am := a3) (cm := c3) (d := d) (b' := ⟨b.vs.set d.sess.toNat (withT (joinT (view b d) p) d.key.toNat d.tag), b.wr⟩) IH (by exact e0) (by exact e4) (by exact e6) (by exact e7) (by exact e8) (by exact e9) hk80 ?_ (by first | assumption | rfl | (simp (maxSteps := 1000000) (disch := first | assumption | omega | (simp only [World.size_alloc, size_setRow, dw_size]; done) | (simp only [World.size_alloc, size_setRow, dw_size] <;> omega) | (simp only [List.length_set, Array.length_toList, List.length_cons, List.length_nil, List.length_append, bts_size] <;> omega) | (simp only [List.all_cons, List.all_nil, Value.oneCell', Bool.and_self, Bool.and_true]; done)) [-Option.bind_some, hp_alloc_lt, hp_alloc_eq, hp_set_ne, wrap_small, ups_ap_cons, ups_ap_nil, upd_same, upd_other, env0_ap0, env0_aps, xt_a, xt_b, xt_c, -splice_eq, -stR_cells, stR_box, stR_boxA, stR_row, stR_row0, stR_row1, stR_rowA, stR_rowA0, splice_rowv, splice_rowv0, splice_rowv1, splice_z, splice_n, splice_s, nth_rowv, nth_rowv0, nth_rowv1, rowv_len, X8, hlt, E0.blk, E1.blk, E2.blk, E3.blk]; done)) (by first | assumption | rfl | (simp (maxSteps := 1000000) (disch := first | assumption | omega | (simp only [World.size_alloc, size_setRow, dw_size]; done) | (simp only [World.size_alloc, size_setRow, dw_size] <;> omega) | (simp only [List.length_set, Array.length_toList, List.length_cons, List.length_nil, List.length_append, bts_size] <;> omega) | (simp only [List.all_cons, List.all_nil, Value.oneCell', Bool.and_self, Bool.and_true]; done)) [-Option.bind_some, hp_alloc_lt, hp_alloc_eq, hp_set_ne, wrap_small, ups_ap_cons, ups_ap_nil, upd_same, upd_other, env0_ap0, env0_aps, xt_a, xt_b, xt_c, -splice_eq, -stR_cells, stR_box, stR_boxA, stR_row, stR_row0, stR_row1, stR_rowA, stR_rowA0, splice_rowv, splice_rowv0, splice_rowv1, splice_z, splice_n, splice_s, nth_rowv, nth_rowv0, nth_rowv1, rowv_len, X9, hlt, E0.blk, E1.blk, E2.blk, E3.blk]; done)) ?_ hd hok hdk hs hr rfl hst hk1 ⟨by omega, by omega⟩ hT hN
          · refine (hw.ext (Ext.set (Eq.tr F3) (k := g9) hq9 _)).wide (fun x h => .inl h) ?_ ?_ ?_
            · rintro y (h | h)
              · have := hSq y h
                simp only [size_setRow]
                omega
              · simp only [In] at h
                simp only [size_setRow]
                omega
            · rintro (h | h)
              · exact hw.2.2.1 h
              · simp only [In] at h
                omega
            · rintro y hy (h | h)
              · obtain ⟨_, _, _, hh⟩ := hownq
                exact (hh y hy).1 h
              · obtain ⟨_, _, _, hh⟩ := hownq
                have := (hh y hy).2
                simp only [In] at h
                omega
          · exact (o3d.keep (fun y hy _ => hp_set_ne (by simp only [In] at hy; omega))).wide (fun y hy _ => .inr hy)
        · cases hse : (x.sess == d.sess)
          · have hse' : (x.sess != d.sess) = true := by simp [bne, hse]
            simp only [hk3, hse', Bool.and_self, if_true] at hst
            simp (maxSteps := 1000000) (disch := first | assumption | omega | (simp only [World.size_alloc, size_setRow, dw_size]; done) | (simp only [World.size_alloc, size_setRow, dw_size] <;> omega) | (simp only [List.length_set, Array.length_toList, List.length_cons, List.length_nil, List.length_append, bts_size] <;> omega) | (simp only [List.all_cons, List.all_nil, Value.oneCell', Bool.and_self, Bool.and_true]; done)) [-Option.bind_some, hp_alloc_lt, hp_alloc_eq, hp_set_ne, wrap_small, ups_ap_cons, ups_ap_nil, upd_same, upd_other, env0_ap0, env0_aps, xt_a, xt_b, xt_c, -splice_eq, -stR_cells, stR_box, stR_boxA, stR_row, stR_row0, stR_row1, stR_rowA, stR_rowA0, splice_rowv, splice_rowv0, splice_rowv1, splice_z, splice_n, splice_s, nth_rowv, nth_rowv0, nth_rowv1, rowv_len, e0, e4, e6, e7, e8, e9, e12, e13, hsl, X8, X9, X12, hkey, hk3, hlt, E0.blk, E1.blk]
            refine Ret.bind (spec_l6Own_m (d0 := d) (hxk.ext (by (repeat (first | exact Ext.rfl | assumption | (refine Ext.al ?_ _) | (refine Ext.dw ?_) | (refine Ext.set ?_ (by first | omega | (simp only [World.size_alloc, size_setRow, dw_size]; omega)) _) | (refine Ext.tr ?_ (by assumption))))))) ?_
            rintro ⟨_, w1a⟩ ⟨rfl, E1a⟩
            have zE1a := E1a.size
            try simp only [World.size_alloc, size_setRow, dw_size] at zE1a
            rw [r2]
            try dsimp only at E1a
            have F1a : Ext w w1a := by (repeat (first | exact Ext.rfl | assumption | (refine Ext.al ?_ _) | (refine Ext.dw ?_) | (refine Ext.set ?_ (by first | omega | (simp only [World.size_alloc, size_setRow, dw_size]; omega)) _) | (refine Ext.tr ?_ (by assumption))))
            simp (maxSteps := 1000000) (disch := first | assumption | omega | (simp only [World.size_alloc, size_setRow, dw_size]; done) | (simp only [World.size_alloc, size_setRow, dw_size] <;> omega) | (simp only [List.length_set, Array.length_toList, List.length_cons, List.length_nil, List.length_append, bts_size] <;> omega) | (simp only [List.all_cons, List.all_nil, Value.oneCell', Bool.and_self, Bool.and_true]; done)) [-Option.bind_some, hp_alloc_lt, hp_alloc_eq, hp_set_ne, wrap_small, ups_ap_cons, ups_ap_nil, upd_same, upd_other, env0_ap0, env0_aps, xt_a, xt_b, xt_c, -splice_eq, -stR_cells, stR_box, stR_boxA, stR_row, stR_row0, stR_row1, stR_rowA, stR_rowA0, splice_rowv, splice_rowv0, splice_rowv1, splice_z, splice_n, splice_s, nth_rowv, nth_rowv0, nth_rowv1, rowv_len, e0, e4, e6, e7, e8, e9, e12, e13, hsl, X8, X9, X12, hkey, hk3, hse, hlt, E0.blk, E1.blk, E1a.blk]
            exact walk_stop HE ((hw.ext Eq).ext (by (repeat (first | exact Ext.rfl | assumption | (refine Ext.al ?_ _) | (refine Ext.dw ?_) | (refine Ext.set ?_ (by first | omega | (simp only [World.size_alloc, size_setRow, dw_size]; omega)) _) | (refine Ext.tr ?_ (by assumption)))))) hs hdk hst hT hN
          · have hse' : (x.sess != d.sess) = false := by simp [bne, hse]
            simp only [hk3, hse', Bool.and_false, Bool.false_eq_true, if_false] at hst
            simp (maxSteps := 1000000) (disch := first | assumption | omega | (simp only [World.size_alloc, size_setRow, dw_size]; done) | (simp only [World.size_alloc, size_setRow, dw_size] <;> omega) | (simp only [List.length_set, Array.length_toList, List.length_cons, List.length_nil, List.length_append, bts_size] <;> omega) | (simp only [List.all_cons, List.all_nil, Value.oneCell', Bool.and_self, Bool.and_true]; done)) [-Option.bind_some, hp_alloc_lt, hp_alloc_eq, hp_set_ne, wrap_small, ups_ap_cons, ups_ap_nil, upd_same, upd_other, env0_ap0, env0_aps, xt_a, xt_b, xt_c, -splice_eq, -stR_cells, stR_box, stR_boxA, stR_row, stR_row0, stR_row1, stR_rowA, stR_rowA0, splice_rowv, splice_rowv0, splice_rowv1, splice_z, splice_n, splice_s, nth_rowv, nth_rowv0, nth_rowv1, rowv_len, e0, e4, e6, e7, e8, e9, e12, e13, hsl, X8, X9, X12, hkey, hk3, hlt, E0.blk, E1.blk]
            refine Ret.bind (spec_l6Own_m (d0 := d) (hxk.ext (by (repeat (first | exact Ext.rfl | assumption | (refine Ext.al ?_ _) | (refine Ext.dw ?_) | (refine Ext.set ?_ (by first | omega | (simp only [World.size_alloc, size_setRow, dw_size]; omega)) _) | (refine Ext.tr ?_ (by assumption))))))) ?_
            rintro ⟨_, w1a⟩ ⟨rfl, E1a⟩
            have zE1a := E1a.size
            try simp only [World.size_alloc, size_setRow, dw_size] at zE1a
            rw [r2]
            try dsimp only at E1a
            have F1a : Ext w w1a := by (repeat (first | exact Ext.rfl | assumption | (refine Ext.al ?_ _) | (refine Ext.dw ?_) | (refine Ext.set ?_ (by first | omega | (simp only [World.size_alloc, size_setRow, dw_size]; omega)) _) | (refine Ext.tr ?_ (by assumption))))
            simp (maxSteps := 1000000) (disch := first | assumption | omega | (simp only [World.size_alloc, size_setRow, dw_size]; done) | (simp only [World.size_alloc, size_setRow, dw_size] <;> omega) | (simp only [List.length_set, Array.length_toList, List.length_cons, List.length_nil, List.length_append, bts_size] <;> omega) | (simp only [List.all_cons, List.all_nil, Value.oneCell', Bool.and_self, Bool.and_true]; done)) [-Option.bind_some, hp_alloc_lt, hp_alloc_eq, hp_set_ne, wrap_small, ups_ap_cons, ups_ap_nil, upd_same, upd_other, env0_ap0, env0_aps, xt_a, xt_b, xt_c, -splice_eq, -stR_cells, stR_box, stR_boxA, stR_row, stR_row0, stR_row1, stR_rowA, stR_rowA0, splice_rowv, splice_rowv0, splice_rowv1, splice_z, splice_n, splice_s, nth_rowv, nth_rowv0, nth_rowv1, rowv_len, e0, e4, e6, e7, e8, e9, e12, e13, hsl, X8, X9, X12, hkey, hk3, hse, hlt, E0.blk, E1.blk, E1a.blk]
            refine Ret.bind (J _ (by (repeat (first | exact Ext.rfl | assumption | (refine Ext.al ?_ _) | (refine Ext.dw ?_) | (refine Ext.set ?_ (by first | omega | (simp only [World.size_alloc, size_setRow, dw_size]; omega)) _) | (refine Ext.tr ?_ (by assumption)))))) ?_
            rintro ⟨_, w2⟩ ⟨a1, c1, rfl, o1', E2⟩
            try dsimp only at a1 c1 o1' E2
            have zE2 := E2.size
            try simp only [World.size_alloc, size_setRow, dw_size] at zE2
            have o1d := o1'.d
            have Wt := spec_l1With_m (k := d.key.toNat) (t := d.tag) (w := w2) (by rw [joinT_len _ _ (by omega)]; omega) o1d
            rw [hkn] at Wt
            have zF2 := (F1a.dw.tr E2).size
            simp (maxSteps := 1000000) (disch := first | assumption | omega | (simp only [World.size_alloc, size_setRow, dw_size]; done) | (simp only [World.size_alloc, size_setRow, dw_size] <;> omega) | (simp only [List.length_set, Array.length_toList, List.length_cons, List.length_nil, List.length_append, bts_size] <;> omega) | (simp only [List.all_cons, List.all_nil, Value.oneCell', Bool.and_self, Bool.and_true]; done)) [-Option.bind_some, hp_alloc_lt, hp_alloc_eq, hp_set_ne, wrap_small, ups_ap_cons, ups_ap_nil, upd_same, upd_other, env0_ap0, env0_aps, xt_a, xt_b, xt_c, -splice_eq, -stR_cells, stR_box, stR_boxA, stR_row, stR_row0, stR_row1, stR_rowA, stR_rowA0, splice_rowv, splice_rowv0, splice_rowv1, splice_z, splice_n, splice_s, nth_rowv, nth_rowv0, nth_rowv1, rowv_len, e0, e4, e6, e7, e8, e9, e12, e13, hsl, X8, X9, X12, hkey, hk3, hse, hlt, E0.blk, E1.blk, E1a.blk, E2.blk]
            refine Ret.bind (Wt) ?_
            rintro ⟨_, w3⟩ ⟨a3, c3, rfl, o3, E3⟩
            try dsimp only at a3 c3 o3 E3
            have zE3 := E3.size
            try simp only [World.size_alloc, size_setRow, dw_size] at zE3
            have F3 : Ext w w3 := by (repeat (first | exact Ext.rfl | assumption | (refine Ext.al ?_ _) | (refine Ext.dw ?_) | (refine Ext.set ?_ (by first | omega | (simp only [World.size_alloc, size_setRow, dw_size]; omega)) _) | (refine Ext.tr ?_ (by assumption))))
            simp (maxSteps := 1000000) (disch := first | assumption | omega | (simp only [World.size_alloc, size_setRow, dw_size]; done) | (simp only [World.size_alloc, size_setRow, dw_size] <;> omega) | (simp only [List.length_set, Array.length_toList, List.length_cons, List.length_nil, List.length_append, bts_size] <;> omega) | (simp only [List.all_cons, List.all_nil, Value.oneCell', Bool.and_self, Bool.and_true]; done)) [-Option.bind_some, hp_alloc_lt, hp_alloc_eq, hp_set_ne, wrap_small, ups_ap_cons, ups_ap_nil, upd_same, upd_other, env0_ap0, env0_aps, xt_a, xt_b, xt_c, -splice_eq, -stR_cells, stR_box, stR_boxA, stR_row, stR_row0, stR_row1, stR_rowA, stR_rowA0, splice_rowv, splice_rowv0, splice_rowv1, splice_z, splice_n, splice_s, nth_rowv, nth_rowv0, nth_rowv1, rowv_len, e0, e4, e6, e7, e8, e9, e12, e13, hsl, X8, X9, X12, hkey, hk3, hse, hlt, E0.blk, E1.blk, E1a.blk, E2.blk, E3.blk]
            have o3d := o3.d
            refine walk_j1 (cur := cur) (S := fun x => S x ∨ In w2.heap.size w3.heap.size x) (g8 := g8) (g9 := g9) (m := withT (joinT (view b d) p) d.key.toNat d.tag) (am := a3) (cm := c3) (d := d) (b' := ⟨b.vs.set d.sess.toNat (withT (joinT (view b d) p) d.key.toNat d.tag), b.wr⟩) IH (by exact e0) (by exact e4) (by exact e6) (by exact e7) (by exact e8) (by exact e9) hk80 ?_ (by first | assumption | rfl | (simp (maxSteps := 1000000) (disch := first | assumption | omega | (simp only [World.size_alloc, size_setRow, dw_size]; done) | (simp only [World.size_alloc, size_setRow, dw_size] <;> omega) | (simp only [List.length_set, Array.length_toList, List.length_cons, List.length_nil, List.length_append, bts_size] <;> omega) | (simp only [List.all_cons, List.all_nil, Value.oneCell', Bool.and_self, Bool.and_true]; done)) [-Option.bind_some, hp_alloc_lt, hp_alloc_eq, hp_set_ne, wrap_small, ups_ap_cons, ups_ap_nil, upd_same, upd_other, env0_ap0, env0_aps, xt_a, xt_b, xt_c, -splice_eq, -stR_cells, stR_box, stR_boxA, stR_row, stR_row0, stR_row1, stR_rowA, stR_rowA0, splice_rowv, splice_rowv0, splice_rowv1, splice_z, splice_n, splice_s, nth_rowv, nth_rowv0, nth_rowv1, rowv_len, X8, hlt, E0.blk, E1.blk, E1a.blk, E2.blk, E3.blk]; done)) (by first | assumption | rfl | (simp (maxSteps := 1000000) (disch := first | assumption | omega | (simp only [World.size_alloc, size_setRow, dw_size]; done) | (simp only [World.size_alloc, size_setRow, dw_size] <;> omega) | (simp only [List.length_set, Array.length_toList, List.length_cons, List.length_nil, List.length_append, bts_size] <;> omega) | (simp only [List.all_cons, List.all_nil, Value.oneCell', Bool.and_self, Bool.and_true]; done)) [-Option.bind_some, hp_alloc_lt, hp_alloc_eq, hp_set_ne, wrap_small, ups_ap_cons, ups_ap_nil, upd_same, upd_other, env0_ap0, env0_aps, xt_a, xt_b, xt_c, -splice_eq, -stR_cells, stR_box, stR_boxA, stR_row, stR_row0, stR_row1, stR_rowA, stR_rowA0, splice_rowv, splice_rowv0, splice_rowv1, splice_z, splice_n, splice_s, nth_rowv, nth_rowv0, nth_rowv1, rowv_len, X9, hlt, E0.blk, E1.blk, E1a.blk, E2.blk, E3.blk]; done)) ?_ hd hok hdk hs hr rfl hst hk1 ⟨by omega, by omega⟩ hT hN
            · refine (hw.ext (Ext.set (Eq.tr F3) (k := g9) hq9 _)).wide (fun x h => .inl h) ?_ ?_ ?_
              · rintro y (h | h)
                · have := hSq y h
                  simp only [size_setRow]
                  omega
                · simp only [In] at h
                  simp only [size_setRow]
                  omega
              · rintro (h | h)
                · exact hw.2.2.1 h
                · simp only [In] at h
                  omega
              · rintro y hy (h | h)
                · obtain ⟨_, _, _, hh⟩ := hownq
                  exact (hh y hy).1 h
                · obtain ⟨_, _, _, hh⟩ := hownq
                  have := (hh y hy).2
                  simp only [In] at h
                  omega
            · exact (o3d.keep (fun y hy _ => hp_set_ne (by simp only [In] at hy; omega))).wide (fun y hy _ => .inr hy)
end
end Go.Proofs.Ytcafhepclddcaaa.X
set_option linter.unusedVariables false
set_option linter.unusedSimpArgs false
set_option maxRecDepth 100000
set_option maxHeartbeats 1000000
namespace Go.Proofs.Ytcafhepclddcaaa.X
open Go Go.Ev Go.RowKit
section
variable {Q : Value × World → Prop} {w0 wq w : World} {xs : List Done} {a a6 am a12 : Option Addr} {c g c4 n6 c6 cm k N g8 g9 g12 c12 : Nat} {T sn : List (List Tag)} {S Sx S12 : Nat → Prop} {cur : List Value} {b b' : Book} {e : Env} {d : Done} {m p : List Tag} {ok : Bool} {v12 : Value}
theorem walk_a2 (IH : WNext Q w0 xs a c g c4 T N (k + 1)) (HE : WEnd Q w0 T N) (hx0 : D tDones Sx w0 [.slice a xs.length c] xs) (hcap : xs.length ≤ c) (e0 : e 0 = .slice a xs.length c) (e4 : e 4 = .slice (some ⟨g, 0, none⟩) 4 c4) (e6 : e 6 = .slice a6 sn.length c6) (e7 : e 7 = i64 k) (e8 : e 8 = pt g8 0) (e9 : e 9 = pt g9 0) (hk80 : k < 80) (hw : WkP w0 wq S g cur b (.slice a6 sn.length c6) sn) (Eq : Ext wq w) (hq8 : wq.heap.size ≤ g8) (hq9 : wq.heap.size ≤ g9) (h89 : g8 ≠ g9)
    (X8 : hp w g8 = some (.cells (doneC d).toArray 66 (0, 0))) (X9 : hp w g9 = some (.cells #[.slice am 4 cm] 32 (0, 0))) (hm : D tTags S wq [.slice am 4 cm] (view b d))
    (hd : opOk d = true) (hok : b.Ok) (hdk : xs[k]? = some d) (hs : sn.length = k) (hr : b.wr = swr (xs.take k) sn) (hk1 : ¬ d.kind = 1) (hless : tagLess d.tag ((view b d).getD d.key.toNat ⟨0, 0⟩) = false) (hpos : 0 < d.tag.t) (hT : sn ++ hseen b (xs.drop k) = T) (hN : k + (hgo b (xs.drop k)).2 = N) :
    Ret (spec_l6Walk_a2 e w) Q := by
  have hn := hx0.n
  have hlt : k < xs.length := (List.getElem?_eq_some_iff.1 hdk).1
  have y8 := hp_lt X8
  have y9 := hp_lt X9
  have hlen : (xs.take k).length = k := by simp; omega
  have hsl : ∀ w, sl P 25 (.slice a xs.length c) none (some (i64 k)) none w = some (.slice a k c, w) := fun w => by
    simpa using sl_h (P := P) el_25 (a := a) (len := xs.length) (cap := c) (n := (k : Int)) (by omega) (by omega) w
  have E0 : Ext w0 w := hw.2.2.2.2.2.2.2.tr Eq
  have zE0 := E0.size
  try simp only [World.size_alloc, size_setRow, dw_size] at zE0
  have hS := hw.2.2.2.2.2.2.1
  have hown := hw.2.1
  have zq := Eq.size
  have hxk : D tDones Sx w0 [.slice a k c] (xs.take k) := hx0.take (by omega)
  have hsn := (hown.d (mx := 5864062014805) (by omega)).ext Eq
  have hS2 : ∀ y, (S y ∨ y ∈ (blkOf (.slice a6 sn.length c6)).toList) → y < w.heap.size := by
    rintro y (h | h)
    · have := (hS y h).2
      omega
    · obtain ⟨_, _, _, hh⟩ := hown
      have := (hh y h).2
      omega
  have hle : sn.length = (xs.take k).length := by omega
  refine spec_l6Walk_a2_any _ _ ?_
  simp (maxSteps := 1000000) (disch := first | assumption | omega | (simp only [World.size_alloc, size_setRow, dw_size]; done) | (simp only [World.size_alloc, size_setRow, dw_size] <;> omega) | (simp only [List.length_set, Array.length_toList, List.length_cons, List.length_nil, List.length_append, bts_size] <;> omega) | (simp only [List.all_cons, List.all_nil, Value.oneCell', Bool.and_self, Bool.and_true]; done)) [-Option.bind_some, hp_alloc_lt, hp_alloc_eq, hp_set_ne, wrap_small, ups_ap_cons, ups_ap_nil, upd_same, upd_other, env0_ap0, env0_aps, xt_a, xt_b, xt_c, -splice_eq, -stR_cells, stR_box, stR_boxA, stR_row, stR_row0, stR_row1, stR_rowA, stR_rowA0, splice_rowv, splice_rowv0, splice_rowv1, splice_z, splice_n, splice_s, nth_rowv, nth_rowv0, nth_rowv1, rowv_len, e0, e6, e7, e8, hsl, X8, hlt, E0.blk]
  have W1 := fun w' (h : Ext w w') => spec_l6Wrote_m (t := d.tag) hle (fun y hy => Nat.lt_of_lt_of_le (hS2 y hy) h.size) (hxk.ext (E0.tr h)) (hsn.ext h)
  constructor
  · refine Ret.mono (W1 _ (by (repeat (first | exact Ext.rfl | assumption | (refine Ext.al ?_ _) | (refine Ext.dw ?_) | (refine Ext.set ?_ (by first | omega | (simp only [World.size_alloc, size_setRow, dw_size]; omega)) _) | (refine Ext.tr ?_ (by assumption)))))) ?_
    rintro ⟨_, w1⟩ ⟨h, E1⟩
    have zE1 := E1.size
    try simp only [World.size_alloc, size_setRow, dw_size] at zE1
    dsimp only at E1
    have F1 : Ext w w1 := by (repeat (first | exact Ext.rfl | assumption | (refine Ext.al ?_ _) | (refine Ext.dw ?_) | (refine Ext.set ?_ (by first | omega | (simp only [World.size_alloc, size_setRow, dw_size]; omega)) _) | (refine Ext.tr ?_ (by assumption))))
    have zF1 := F1.size
    have zE1' := E1.size
    try simp only [World.size_alloc, dw_size] at zE1'
    rcases h with ⟨h1, rfl⟩ | ⟨p, a3, c3, h1, h2, rfl, h4⟩
    · simp (maxSteps := 1000000) (disch := first | assumption | omega | (simp only [World.size_alloc, size_setRow, dw_size]; done) | (simp only [World.size_alloc, size_setRow, dw_size] <;> omega) | (simp only [List.length_set, Array.length_toList, List.length_cons, List.length_nil, List.length_append, bts_size] <;> omega) | (simp only [List.all_cons, List.all_nil, Value.oneCell', Bool.and_self, Bool.and_true]; done)) [-Option.bind_some, hp_alloc_lt, hp_alloc_eq, hp_set_ne, wrap_small, ups_ap_cons, ups_ap_nil, upd_same, upd_other, env0_ap0, env0_aps, xt_a, xt_b, xt_c, -splice_eq, -stR_cells, stR_box, stR_boxA, stR_row, stR_row0, stR_row1, stR_rowA, stR_rowA0, splice_rowv, splice_rowv0, splice_rowv1, splice_z, splice_n, splice_s, nth_rowv, nth_rowv0, nth_rowv1, rowv_len, X8, hlt, E0.blk, E1.blk]
      refine walk_j3 (am := am) (cm := cm) (g8 := g8) (g9 := g9) (g12 := w1.heap.size) (a12 := none) (c12 := 0) (S12 := fun y => S y ∨ y ∈ (blkOf (.slice a6 sn.length c6)).toList) IH HE hx0 hcap (by exact e0) (by exact e4) (by exact e6) (by exact e7) (by exact e8) (by exact e9) hk80 hw (Eq.tr (by (repeat (first | exact Ext.rfl | assumption | (refine Ext.al ?_ _) | (refine Ext.dw ?_) | (refine Ext.set ?_ (by first | omega | (simp only [World.size_alloc, size_setRow, dw_size]; omega)) _) | (refine Ext.tr ?_ (by assumption)))))) hq8 hq9 h89 (by first | assumption | rfl | (simp (maxSteps := 1000000) (disch := first | assumption | omega | (simp only [World.size_alloc, size_setRow, dw_size]; done) | (simp only [World.size_alloc, size_setRow, dw_size] <;> omega) | (simp only [List.length_set, Array.length_toList, List.length_cons, List.length_nil, List.length_append, bts_size] <;> omega) | (simp only [List.all_cons, List.all_nil, Value.oneCell', Bool.and_self, Bool.and_true]; done)) [-Option.bind_some, hp_alloc_lt, hp_alloc_eq, hp_set_ne, wrap_small, ups_ap_cons, ups_ap_nil, upd_same, upd_other, env0_ap0, env0_aps, xt_a, xt_b, xt_c, -splice_eq, -stR_cells, stR_box, stR_boxA, stR_row, stR_row0, stR_row1, stR_rowA, stR_rowA0, splice_rowv, splice_rowv0, splice_rowv1, splice_z, splice_n, splice_s, nth_rowv, nth_rowv0, nth_rowv1, rowv_len, X8, hlt, E0.blk, E1.blk]; done)) (by first | assumption | rfl | (simp (maxSteps := 1000000) (disch := first | assumption | omega | (simp only [World.size_alloc, size_setRow, dw_size]; done) | (simp only [World.size_alloc, size_setRow, dw_size] <;> omega) | (simp only [List.length_set, Array.length_toList, List.length_cons, List.length_nil, List.length_append, bts_size] <;> omega) | (simp only [List.all_cons, List.all_nil, Value.oneCell', Bool.and_self, Bool.and_true]; done)) [-Option.bind_some, hp_alloc_lt, hp_alloc_eq, hp_set_ne, wrap_small, ups_ap_cons, ups_ap_nil, upd_same, upd_other, env0_ap0, env0_aps, xt_a, xt_b, xt_c, -splice_eq, -stR_cells, stR_box, stR_boxA, stR_row, stR_row0, stR_row1, stR_rowA, stR_rowA0, splice_rowv, splice_rowv0, splice_rowv1, splice_z, splice_n, splice_s, nth_rowv, nth_rowv0, nth_rowv1, rowv_len, X9, hlt, E0.blk, E1.blk]; done)) hm (by exact rfl) (.inl ⟨h1, by exact rfl⟩) hd hok hdk hs hr hk1 hless hpos hT hN
    · have h4' := h4
      simp (maxSteps := 1000000) (disch := first | assumption | omega | (simp only [World.size_alloc, size_setRow, dw_size]; done) | (simp only [World.size_alloc, size_setRow, dw_size] <;> omega) | (simp only [List.length_set, Array.length_toList, List.length_cons, List.length_nil, List.length_append, bts_size] <;> omega) | (simp only [List.all_cons, List.all_nil, Value.oneCell', Bool.and_self, Bool.and_true]; done)) [-Option.bind_some, hp_alloc_lt, hp_alloc_eq, hp_set_ne, wrap_small, ups_ap_cons, ups_ap_nil, upd_same, upd_other, env0_ap0, env0_aps, xt_a, xt_b, xt_c, -splice_eq, -stR_cells, stR_box, stR_boxA, stR_row, stR_row0, stR_row1, stR_rowA, stR_rowA0, splice_rowv, splice_rowv0, splice_rowv1, splice_z, splice_n, splice_s, nth_rowv, nth_rowv0, nth_rowv1, rowv_len, X8, hlt, E0.blk, E1.blk]
      refine walk_j3 (am := am) (cm := cm) (g8 := g8) (g9 := g9) (g12 := w1.heap.size) (a12 := a3) (c12 := c3) (S12 := fun y => S y ∨ y ∈ (blkOf (.slice a6 sn.length c6)).toList) IH HE hx0 hcap (by exact e0) (by exact e4) (by exact e6) (by exact e7) (by exact e8) (by exact e9) hk80 hw (Eq.tr (by (repeat (first | exact Ext.rfl | assumption | (refine Ext.al ?_ _) | (refine Ext.dw ?_) | (refine Ext.set ?_ (by first | omega | (simp only [World.size_alloc, size_setRow, dw_size]; omega)) _) | (refine Ext.tr ?_ (by assumption)))))) hq8 hq9 h89 (by first | assumption | rfl | (simp (maxSteps := 1000000) (disch := first | assumption | omega | (simp only [World.size_alloc, size_setRow, dw_size]; done) | (simp only [World.size_alloc, size_setRow, dw_size] <;> omega) | (simp only [List.length_set, Array.length_toList, List.length_cons, List.length_nil, List.length_append, bts_size] <;> omega) | (simp only [List.all_cons, List.all_nil, Value.oneCell', Bool.and_self, Bool.and_true]; done)) [-Option.bind_some, hp_alloc_lt, hp_alloc_eq, hp_set_ne, wrap_small, ups_ap_cons, ups_ap_nil, upd_same, upd_other, env0_ap0, env0_aps, xt_a, xt_b, xt_c, -splice_eq, -stR_cells, stR_box, stR_boxA, stR_row, stR_row0, stR_row1, stR_rowA, stR_rowA0, splice_rowv, splice_rowv0, splice_rowv1, splice_z, splice_n, splice_s, nth_rowv, nth_rowv0, nth_rowv1, rowv_len, X8, hlt, E0.blk, E1.blk]; done)) (by first | assumption | rfl | (simp (maxSteps := 1000000) (disch := first | assumption | omega | (simp only [World.size_alloc, size_setRow, dw_size]; done) | (simp only [World.size_alloc, size_setRow, dw_size] <;> omega) | (simp only [List.length_set, Array.length_toList, List.length_cons, List.length_nil, List.length_append, bts_size] <;> omega) | (simp only [List.all_cons, List.all_nil, Value.oneCell', Bool.and_self, Bool.and_true]; done)) [-Option.bind_some, hp_alloc_lt, hp_alloc_eq, hp_set_ne, wrap_small, ups_ap_cons, ups_ap_nil, upd_same, upd_other, env0_ap0, env0_aps, xt_a, xt_b, xt_c, -splice_eq, -stR_cells, stR_box, stR_boxA, stR_row, stR_row0, stR_row1, stR_rowA, stR_rowA0, splice_rowv, splice_rowv0, splice_rowv1, splice_z, splice_n, splice_s, nth_rowv, nth_rowv0, nth_rowv1, rowv_len, X9, hlt, E0.blk, E1.blk]; done)) hm (by exact rfl) (.inr ⟨p, h1, by exact rfl, h2, h4.keep (fun y hy hl => ?_), (by first | assumption | rfl | (simp (maxSteps := 1000000) (disch := first | assumption | omega | (simp only [World.size_alloc, size_setRow, dw_size]; done) | (simp only [World.size_alloc, size_setRow, dw_size] <;> omega) | (simp only [List.length_set, Array.length_toList, List.length_cons, List.length_nil, List.length_append, bts_size] <;> omega) | (simp only [List.all_cons, List.all_nil, Value.oneCell', Bool.and_self, Bool.and_true]; done)) [-Option.bind_some, hp_alloc_lt, hp_alloc_eq, hp_set_ne, wrap_small, ups_ap_cons, ups_ap_nil, upd_same, upd_other, env0_ap0, env0_aps, xt_a, xt_b, xt_c, -splice_eq, -stR_cells, stR_box, stR_boxA, stR_row, stR_row0, stR_row1, stR_rowA, stR_rowA0, splice_rowv, splice_rowv0, splice_rowv1, splice_z, splice_n, splice_s, nth_rowv, nth_rowv0, nth_rowv1, rowv_len, hlt, E0.blk, E1.blk]; done))⟩) hd hok hdk hs hr hk1 hless hpos hT hN
      have := hS2 y hy
      simp (disch := (first | assumption | omega | (simp only [World.size_alloc, size_setRow, dw_size] <;> omega))) only [hp_alloc_lt, hp_set_ne, hp_dw]
  · refine Ret.mono (W1 _ (by (repeat (first | exact Ext.rfl | assumption | (refine Ext.al ?_ _) | (refine Ext.dw ?_) | (refine Ext.set ?_ (by first | omega | (simp only [World.size_alloc, size_setRow, dw_size]; omega)) _) | (refine Ext.tr ?_ (by assumption)))))) ?_
    rintro ⟨_, w1⟩ ⟨h, E1⟩
    have zE1 := E1.size
    try simp only [World.size_alloc, size_setRow, dw_size] at zE1
    dsimp only at E1
    have F1 : Ext w w1 := by (repeat (first | exact Ext.rfl | assumption | (refine Ext.al ?_ _) | (refine Ext.dw ?_) | (refine Ext.set ?_ (by first | omega | (simp only [World.size_alloc, size_setRow, dw_size]; omega)) _) | (refine Ext.tr ?_ (by assumption))))
    have zF1 := F1.size
    have zE1' := E1.size
    try simp only [World.size_alloc, dw_size] at zE1'
    have X5 : hp w1 w.heap.size = some (.cells #[.slice none 0 0] 32 (0, 0)) := (E1.blk (by simp)).trans (by first | assumption | rfl | (simp (maxSteps := 1000000) (disch := first | assumption | omega | (simp only [World.size_alloc, size_setRow, dw_size]; done) | (simp only [World.size_alloc, size_setRow, dw_size] <;> omega) | (simp only [List.length_set, Array.length_toList, List.length_cons, List.length_nil, List.length_append, bts_size] <;> omega) | (simp only [List.all_cons, List.all_nil, Value.oneCell', Bool.and_self, Bool.and_true]; done)) [-Option.bind_some, hp_alloc_lt, hp_alloc_eq, hp_set_ne, wrap_small, ups_ap_cons, ups_ap_nil, upd_same, upd_other, env0_ap0, env0_aps, xt_a, xt_b, xt_c, -splice_eq, -stR_cells, stR_box, stR_boxA, stR_row, stR_row0, stR_row1, stR_rowA, stR_rowA0, splice_rowv, splice_rowv0, splice_rowv1, splice_z, splice_n, splice_s, nth_rowv, nth_rowv0, nth_rowv1, rowv_len, hlt, E0.blk, E1.blk]; done))
    rcases h with ⟨h1, rfl⟩ | ⟨p, a3, c3, h1, h2, rfl, h4⟩
    · simp (maxSteps := 1000000) (disch := first | assumption | omega | (simp only [World.size_alloc, size_setRow, dw_size]; done) | (simp only [World.size_alloc, size_setRow, dw_size] <;> omega) | (simp only [List.length_set, Array.length_toList, List.length_cons, List.length_nil, List.length_append, bts_size] <;> omega) | (simp only [List.all_cons, List.all_nil, Value.oneCell', Bool.and_self, Bool.and_true]; done)) [-Option.bind_some, hp_alloc_lt, hp_alloc_eq, hp_set_ne, wrap_small, ups_ap_cons, ups_ap_nil, upd_same, upd_other, env0_ap0, env0_aps, xt_a, xt_b, xt_c, -splice_eq, -stR_cells, stR_box, stR_boxA, stR_row, stR_row0, stR_row1, stR_rowA, stR_rowA0, splice_rowv, splice_rowv0, splice_rowv1, splice_z, splice_n, splice_s, nth_rowv, nth_rowv0, nth_rowv1, rowv_len, X8, X5, hlt, E0.blk, E1.blk, X5]
      refine walk_j3 (am := am) (cm := cm) (g8 := g8) (g9 := g9) (g12 := w.heap.size) (a12 := none) (c12 := 0) (S12 := fun y => S y ∨ y ∈ (blkOf (.slice a6 sn.length c6)).toList) IH HE hx0 hcap (by exact e0) (by exact e4) (by exact e6) (by exact e7) (by exact e8) (by exact e9) hk80 hw (Eq.tr (by (repeat (first | exact Ext.rfl | assumption | (refine Ext.al ?_ _) | (refine Ext.dw ?_) | (refine Ext.set ?_ (by first | omega | (simp only [World.size_alloc, size_setRow, dw_size]; omega)) _) | (refine Ext.tr ?_ (by assumption)))))) hq8 hq9 h89 (by first | assumption | rfl | (simp (maxSteps := 1000000) (disch := first | assumption | omega | (simp only [World.size_alloc, size_setRow, dw_size]; done) | (simp only [World.size_alloc, size_setRow, dw_size] <;> omega) | (simp only [List.length_set, Array.length_toList, List.length_cons, List.length_nil, List.length_append, bts_size] <;> omega) | (simp only [List.all_cons, List.all_nil, Value.oneCell', Bool.and_self, Bool.and_true]; done)) [-Option.bind_some, hp_alloc_lt, hp_alloc_eq, hp_set_ne, wrap_small, ups_ap_cons, ups_ap_nil, upd_same, upd_other, env0_ap0, env0_aps, xt_a, xt_b, xt_c, -splice_eq, -stR_cells, stR_box, stR_boxA, stR_row, stR_row0, stR_row1, stR_rowA, stR_rowA0, splice_rowv, splice_rowv0, splice_rowv1, splice_z, splice_n, splice_s, nth_rowv, nth_rowv0, nth_rowv1, rowv_len, X8, hlt, E0.blk, E1.blk, X5]; done)) (by first | assumption | rfl | (simp (maxSteps := 1000000) (disch := first | assumption | omega | (simp only [World.size_alloc, size_setRow, dw_size]; done) | (simp only [World.size_alloc, size_setRow, dw_size] <;> omega) | (simp only [List.length_set, Array.length_toList, List.length_cons, List.length_nil, List.length_append, bts_size] <;> omega) | (simp only [List.all_cons, List.all_nil, Value.oneCell', Bool.and_self, Bool.and_true]; done)) [-Option.bind_some, hp_alloc_lt, hp_alloc_eq, hp_set_ne, wrap_small, ups_ap_cons, ups_ap_nil, upd_same, upd_other, env0_ap0, env0_aps, xt_a, xt_b, xt_c, -splice_eq, -stR_cells, stR_box, stR_boxA, stR_row, stR_row0, stR_row1, stR_rowA, stR_rowA0, splice_rowv, splice_rowv0, splice_rowv1, splice_z, splice_n, splice_s, nth_rowv, nth_rowv0, nth_rowv1, rowv_len, X9, hlt, E0.blk, E1.blk, X5]; done)) hm (by exact rfl) (.inl ⟨h1, by exact rfl⟩) hd hok hdk hs hr hk1 hless hpos hT hN
    · have h4' := h4
      simp (maxSteps := 1000000) (disch := first | assumption | omega | (simp only [World.size_alloc, size_setRow, dw_size]; done) | (simp only [World.size_alloc, size_setRow, dw_size] <;> omega) | (simp only [List.length_set, Array.length_toList, List.length_cons, List.length_nil, List.length_append, bts_size] <;> omega) | (simp only [List.all_cons, List.all_nil, Value.oneCell', Bool.and_self, Bool.and_true]; done)) [-Option.bind_some, hp_alloc_lt, hp_alloc_eq, hp_set_ne, wrap_small, ups_ap_cons, ups_ap_nil, upd_same, upd_other, env0_ap0, env0_aps, xt_a, xt_b, xt_c, -splice_eq, -stR_cells, stR_box, stR_boxA, stR_row, stR_row0, stR_row1, stR_rowA, stR_rowA0, splice_rowv, splice_rowv0, splice_rowv1, splice_z, splice_n, splice_s, nth_rowv, nth_rowv0, nth_rowv1, rowv_len, X8, X5, hlt, E0.blk, E1.blk, X5]
      refine walk_j3 (am := am) (cm := cm) (g8 := g8) (g9 := g9) (g12 := w.heap.size) (a12 := a3) (c12 := c3) (S12 := fun y => S y ∨ y ∈ (blkOf (.slice a6 sn.length c6)).toList) IH HE hx0 hcap (by exact e0) (by exact e4) (by exact e6) (by exact e7) (by exact e8) (by exact e9) hk80 hw (Eq.tr (by (repeat (first | exact Ext.rfl | assumption | (refine Ext.al ?_ _) | (refine Ext.dw ?_) | (refine Ext.set ?_ (by first | omega | (simp only [World.size_alloc, size_setRow, dw_size]; omega)) _) | (refine Ext.tr ?_ (by assumption)))))) hq8 hq9 h89 (by first | assumption | rfl | (simp (maxSteps := 1000000) (disch := first | assumption | omega | (simp only [World.size_alloc, size_setRow, dw_size]; done) | (simp only [World.size_alloc, size_setRow, dw_size] <;> omega) | (simp only [List.length_set, Array.length_toList, List.length_cons, List.length_nil, List.length_append, bts_size] <;> omega) | (simp only [List.all_cons, List.all_nil, Value.oneCell', Bool.and_self, Bool.and_true]; done)) [-Option.bind_some, hp_alloc_lt, hp_alloc_eq, hp_set_ne, wrap_small, ups_ap_cons, ups_ap_nil, upd_same, upd_other, env0_ap0, env0_aps, xt_a, xt_b, xt_c, -splice_eq, -stR_cells, stR_box, stR_boxA, stR_row, stR_row0, stR_row1, stR_rowA, stR_rowA0, splice_rowv, splice_rowv0, splice_rowv1, splice_z, splice_n, splice_s, nth_rowv, nth_rowv0, nth_rowv1, rowv_len, X8, hlt, E0.blk, E1.blk, X5]; done)) (by first | assumption | rfl | (simp (maxSteps := 1000000) (disch := first | assumption | omega | (simp only [World.size_alloc, size_setRow, dw_size]; done) | (simp only [World.size_alloc, size_setRow, dw_size] <;> omega) | (simp only [List.length_set, Array.length_toList, List.length_cons, List.length_nil, List.length_append, bts_size] <;> omega) | (simp only [List.all_cons, List.all_nil, Value.oneCell', Bool.and_self, Bool.and_true]; done)) [-Option.bind_some, hp_alloc_lt, hp_alloc_eq, hp_set_ne, wrap_small, ups_ap_cons, ups_ap_nil, upd_same, upd_other, env0_ap0, env0_aps, xt_a, xt_b, xt_c, -splice_eq, -stR_cells, stR_box, stR_boxA, stR_row, stR_row0, stR_row1, stR_rowA, stR_rowA0, splice_rowv, splice_rowv0, splice_rowv1, splice_z, splice_n, splice_s, nth_rowv, nth_rowv0, nth_rowv1, rowv_len, X9, hlt, E0.blk, E1.blk, X5]; done)) hm (by exact rfl) (.inr ⟨p, h1, by exact rfl, h2, h4.keep (fun y hy hl => ?_), (by first | assumption | rfl | (simp (maxSteps := 1000000) (disch := first | assumption | omega | (simp only [World.size_alloc, size_setRow, dw_size]; done) | (simp only [World.size_alloc, size_setRow, dw_size] <;> omega) | (simp only [List.length_set, Array.length_toList, List.length_cons, List.length_nil, List.length_append, bts_size] <;> omega) | (simp only [List.all_cons, List.all_nil, Value.oneCell', Bool.and_self, Bool.and_true]; done)) [-Option.bind_some, hp_alloc_lt, hp_alloc_eq, hp_set_ne, wrap_small, ups_ap_cons, ups_ap_nil, upd_same, upd_other, env0_ap0, env0_aps, xt_a, xt_b, xt_c, -splice_eq, -stR_cells, stR_box, stR_boxA, stR_row, stR_row0, stR_row1, stR_rowA, stR_rowA0, splice_rowv, splice_rowv0, splice_rowv1, splice_z, splice_n, splice_s, nth_rowv, nth_rowv0, nth_rowv1, rowv_len, hlt, E0.blk, E1.blk, X5]; done))⟩) hd hok hdk hs hr hk1 hless hpos hT hN
      have := hS2 y hy
      simp (disch := (first | assumption | omega | (simp only [World.size_alloc, size_setRow, dw_size] <;> omega))) only [hp_alloc_lt, hp_set_ne, hp_dw]
end
end Go.Proofs.Ytcafhepclddcaaa.X
