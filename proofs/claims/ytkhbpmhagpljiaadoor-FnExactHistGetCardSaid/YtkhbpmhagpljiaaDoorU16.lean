/- A part of the proof: an evaluator of the model, its laws, and contracts of functions; no condition. -/
import Derived.Test.YtkhbpmhagpljiaaDoorU14
set_option linter.unusedVariables false
set_option linter.unusedSimpArgs false
set_option maxRecDepth 100000
set_option maxHeartbeats 1000000
namespace Go.Proofs.YtkhbpmhagpljiaaDoor.X
open Go Go.Ev Go.RowKit
theorem histL_flat : ∀ (l : List Done), histL l = ((l.map lineL).map fun x => x ++ [10]).flatten
  | [] => rfl
  | d :: l => by simp only [histL, List.map_cons, List.flatten_cons, histL_flat l, List.append_assoc, List.singleton_append]
theorem lines_inj : ∀ {a b : List Done}, (∀ d ∈ a, opOk d = true) → (∀ d ∈ b, opOk d = true) → a.map lineL = b.map lineL → a = b
  | [], [], _, _, _ => rfl
  | [], _ :: _, _, _, h => by simp at h
  | _ :: _, [], _, _, h => by simp at h
  | x :: a, y :: b, ha, hb, h => by
    simp only [List.map_cons, List.cons.injEq] at h
    rw [line_inj (ha x List.mem_cons_self) (hb y List.mem_cons_self) h.1, lines_inj (fun t ht => ha t (List.mem_cons_of_mem _ ht)) (fun t ht => hb t (List.mem_cons_of_mem _ ht)) h.2]
/-- What the loop over the lines keeps. -/
structure LinesAt (l : List UInt8) (lines : List (List UInt8)) : Prop where
  len : ∀ x ∈ lines, x.length ≤ 1100000
  n : lines.length ≤ 1100000
  ys : ∀ ys, formP ys = true → histL ys = l → ys.map lineL = lines
  join : (lines.map fun x => x ++ [10]).flatten = l
theorem HistGet_l2 {l : List UInt8} {lines : List (List UInt8)} {w0 : World} {g5 o5 q5 g7 o7 q7 i b q : Nat} {x y0 y1 y2 y3 : List UInt8} {m0 m2 : Int} {t : Tag} {acc : List Done} {a : Option Addr} (H : LinesAt l lines) (hi : i < lines.length) (hi81 : i ≤ 80) (hx : lines[i]? = some x) (hb0 : w0.heap.size ≤ b)
    (hacc : acc.length = i) {Q : Value × World → Prop} (hpd : ∀ d', opOk d' = true → lineL d' = x → m0 = d'.sess ∧ m2 = d'.key ∧ t = d'.tag ∧ y1 = kindL d'.kind)
    (bad : ∀ w', Ext w0 w' → (∀ ys, formP ys = true → histL ys ≠ l) → Q (.tuple #[.slice none 0 0, .bool false], w'))
    (next : ∀ (e : Env) (w : World) (d : Done) (a : Option Addr) (q : Nat), e 4 = .slice a (i + 1) q → e 5 = .slice (some ⟨g5, o5, none⟩) lines.length q5 → e 6 = i64 ((i + 1 : Nat) : Int) → opOk d = true → lineL d = x → O tDones (fun z => In w0.heap.size w.heap.size z ∧ z ≠ g5) w [.slice a (i + 1) q] (acc ++ [d]) → StrAt w g5 o5 lines → Ext w0 w → Ret (spec_HistGet_l1 e w) Q) :
    ∀ (n k : Nat) (e : Env) (w : World) (kd : Int), k + n = 4 → 1 ≤ k → e 4 = .slice a i q → e 5 = .slice (some ⟨g5, o5, none⟩) lines.length q5 → e 6 = i64 i → e 7 = .slice (some ⟨g7, o7, none⟩) 4 q7 → e 10 = pt b 0 → e 11 = i64 k → StrAt w g7 o7 [y0, y1, y2, y3] → StrAt w g5 o5 lines → hp w b = some (.cells #[i64 m0, i64 kd, i64 m2, i64 t.t, i64 t.p] 38 (0, 0)) →
      (∀ K : Int, 1 ≤ K → K < k → y1 = kindL K → kd = K) → O tDones (fun z => In w0.heap.size w.heap.size z ∧ z ≠ b ∧ z ≠ g5) w [.slice a i q] acc → g7 ≠ b → g5 ≠ b → Ext w0 w → Ret (spec_HistGet_l2 e w) Q := by
  intro n
  induction n with
  | zero =>
    intro k e w kd hk h1 e4 e5 e6 e7 e10 e11 A7 A5 X hK ho h7b h5b E0
    have zE0 := E0.size
    try simp only [World.size_alloc, size_setRow, dw_size] at zE0
    rw [spec_HistGet_l2_eq]
    obtain rfl : k = 4 := by omega
    have yb := hp_lt X
    have hz := E0.size
    have c5 := A5 _ _ hx
    have hg5 := cellO_lt c5
    have hxl := H.len x (List.mem_of_getElem? hx)
    have hd : ∀ d', opOk d' = true → lineL d' = x → (⟨m0, kd, m2, t⟩ : Done) = d' := by
      intro d' h2 h3
      obtain ⟨r1, r2, r3, r4⟩ := hpd d' h2 h3
      obtain ⟨_, q2, _⟩ := opOk_iff.1 h2
      exact done_ext r1 (hK d'.kind q2.1 (by omega) r4) r2 r3
    have hno : ∀ ys, formP ys = true → histL ys = l → opOk ⟨m0, kd, m2, t⟩ = true ∧ lineL ⟨m0, kd, m2, t⟩ = x := by
      intro ys h2 h3
      have h4 := H.ys ys h2 h3
      rw [← h4, List.getElem?_map] at hx
      obtain ⟨d', h5, h6⟩ := Option.map_eq_some_iff.1 hx
      have h7 := formP_ops h2 d' (List.mem_of_getElem? h5)
      rw [hd d' h7 h6]
      exact ⟨h7, h6⟩
    simp (maxSteps := 1000000) (disch := first | assumption | omega | (simp only [World.size_alloc, size_setRow, dw_size]; done) | (simp only [World.size_alloc, size_setRow, dw_size] <;> omega) | (simp only [List.length_set, Array.length_toList, List.length_cons, List.length_nil, List.length_append, bts_size] <;> omega) | (simp only [List.all_cons, List.all_nil, Value.oneCell', Bool.and_self, Bool.and_true]; done)) [-Option.bind_some, hp_alloc_lt, hp_alloc_eq, hp_set_ne, wrap_small, ups_ap_cons, ups_ap_nil, upd_same, upd_other, env0_ap0, env0_aps, xt_a, xt_b, xt_c, nk_ptr, -splice_eq, -stR_cells, stR_box, stR_boxA, stR_row, stR_row0, stR_row1, stR_rowA, stR_rowA0, splice_rowv, splice_rowv0, splice_rowv1, splice_z, splice_n, splice_s, nth_rowv, nth_rowv0, nth_rowv1, rowv_len, e11, e4, e5, e6, e7, e10, e11, E0.blk, hg5]
    refine Ret.bind (l6Words_m _) ?_
    rintro ⟨_, w1⟩ ⟨g, rfl, A1, E1⟩
    have zE1 := E1.size
    try simp only [World.size_alloc, size_setRow, dw_size] at zE1
    try dsimp only at A1 E1
    have X1 := (E1.blk yb).trans X
    have c51 := cellO_ext E1 c5
    have zE1 := E1.size
    simp (maxSteps := 1000000) (disch := first | assumption | omega | (simp only [World.size_alloc, size_setRow, dw_size]; done) | (simp only [World.size_alloc, size_setRow, dw_size] <;> omega) | (simp only [List.length_set, Array.length_toList, List.length_cons, List.length_nil, List.length_append, bts_size] <;> omega) | (simp only [List.all_cons, List.all_nil, Value.oneCell', Bool.and_self, Bool.and_true]; done)) [-Option.bind_some, hp_alloc_lt, hp_alloc_eq, hp_set_ne, wrap_small, ups_ap_cons, ups_ap_nil, upd_same, upd_other, env0_ap0, env0_aps, xt_a, xt_b, xt_c, nk_ptr, -splice_eq, -stR_cells, stR_box, stR_boxA, stR_row, stR_row0, stR_row1, stR_rowA, stR_rowA0, splice_rowv, splice_rowv0, splice_rowv1, splice_z, splice_n, splice_s, nth_rowv, nth_rowv0, nth_rowv1, rowv_len, e10, X1, e4, e5, e6, e7, e10, e11, E0.blk, hg5, E1.blk, X1]
    refine Ret.bind (spec_l5OpOk_c ⟨m0, kd, m2, t⟩ _) ?_
    rintro ⟨_, w2⟩ ⟨rfl, E2⟩
    have zE2 := E2.size
    try simp only [World.size_alloc, size_setRow, dw_size] at zE2
    try dsimp only at E2
    have X2 := (E2.blk (by simp only [dw_size]; omega)).trans ((hp_dw _ _).trans X1)
    have zE2 := E2.size
    simp only [dw_size] at zE2
    have c52 : cellO (hp w2 g5) (o5 + i) = some (.string (bts x)) := cellO_ext (E1.tr (Ext.tr (by (repeat (first | exact Ext.rfl | assumption | (refine Ext.al ?_ _) | (refine Ext.dw ?_) | (refine Ext.set ?_ (by first | omega | (simp only [World.size_alloc, size_setRow, dw_size]; omega)) _) | (refine Ext.tr ?_ (by assumption))))) E2)) c5
    cases hok : opOk ⟨m0, kd, m2, t⟩
    · simp (maxSteps := 1000000) (disch := first | assumption | omega | (simp only [World.size_alloc, size_setRow, dw_size]; done) | (simp only [World.size_alloc, size_setRow, dw_size] <;> omega) | (simp only [List.length_set, Array.length_toList, List.length_cons, List.length_nil, List.length_append, bts_size] <;> omega) | (simp only [List.all_cons, List.all_nil, Value.oneCell', Bool.and_self, Bool.and_true]; done)) [-Option.bind_some, hp_alloc_lt, hp_alloc_eq, hp_set_ne, wrap_small, ups_ap_cons, ups_ap_nil, upd_same, upd_other, env0_ap0, env0_aps, xt_a, xt_b, xt_c, nk_ptr, -splice_eq, -stR_cells, stR_box, stR_boxA, stR_row, stR_row0, stR_row1, stR_rowA, stR_rowA0, splice_rowv, splice_rowv0, splice_rowv1, splice_z, splice_n, splice_s, nth_rowv, nth_rowv0, nth_rowv1, rowv_len, hok, e10, X1, X2, e4, e5, e6, e7, e10, e11, E0.blk, hg5, E1.blk, X1, E2.blk, X2]
      exact bad _ (by (repeat (first | exact Ext.rfl | assumption | (refine Ext.al ?_ _) | (refine Ext.dw ?_) | (refine Ext.set ?_ (by first | omega | (simp only [World.size_alloc, size_setRow, dw_size]; omega)) _) | (refine Ext.tr ?_ (by assumption))))) fun ys h2 h3 => by have := (hno ys h2 h3).1; rw [hok] at this; cases this
    · simp (maxSteps := 1000000) (disch := first | assumption | omega | (simp only [World.size_alloc, size_setRow, dw_size]; done) | (simp only [World.size_alloc, size_setRow, dw_size] <;> omega) | (simp only [List.length_set, Array.length_toList, List.length_cons, List.length_nil, List.length_append, bts_size] <;> omega) | (simp only [List.all_cons, List.all_nil, Value.oneCell', Bool.and_self, Bool.and_true]; done)) [-Option.bind_some, hp_alloc_lt, hp_alloc_eq, hp_set_ne, wrap_small, ups_ap_cons, ups_ap_nil, upd_same, upd_other, env0_ap0, env0_aps, xt_a, xt_b, xt_c, nk_ptr, -splice_eq, -stR_cells, stR_box, stR_boxA, stR_row, stR_row0, stR_row1, stR_rowA, stR_rowA0, splice_rowv, splice_rowv0, splice_rowv1, splice_z, splice_n, splice_s, nth_rowv, nth_rowv0, nth_rowv1, rowv_len, hok, e5, e6, e10, X1, X2, ia_52, hi, c5, c51, c52, mk_bts, bo_add_btx, bts_list, bts_size, e4, e5, e6, e7, e10, e11, E0.blk, hg5, E1.blk, X1, E2.blk, X2]
      refine Ret.bind (spec_l6Line_m hok _) ?_
      rintro ⟨_, w3⟩ ⟨rfl, E3⟩
      have zE3 := E3.size
      try simp only [World.size_alloc, size_setRow, dw_size] at zE3
      try dsimp only at E3
      have X3 := (E3.blk (hp_lt X2)).trans X2
      have zE3 := E3.size
      have c53 := cellO_ext E3 c52
      by_cases hte : lineL ⟨m0, kd, m2, t⟩ = x
      · have hte2 : (lineL ⟨m0, kd, m2, t⟩ ++ [10] == x ++ [10]) = true := by rw [hte]; exact beq_self_eq_true _
        generalize hgl : lineL ⟨m0, kd, m2, t⟩ = ll at hte hte2
        have hteq : ll = x := hte
        subst hteq
        simp (maxSteps := 1000000) (disch := first | assumption | omega | (simp only [World.size_alloc, size_setRow, dw_size]; done) | (simp only [World.size_alloc, size_setRow, dw_size] <;> omega) | (simp only [List.length_set, Array.length_toList, List.length_cons, List.length_nil, List.length_append, bts_size] <;> omega) | (simp only [List.all_cons, List.all_nil, Value.oneCell', Bool.and_self, Bool.and_true]; done)) [-Option.bind_some, hp_alloc_lt, hp_alloc_eq, hp_set_ne, wrap_small, ups_ap_cons, ups_ap_nil, upd_same, upd_other, env0_ap0, env0_aps, xt_a, xt_b, xt_c, nk_ptr, -splice_eq, -stR_cells, stR_box, stR_boxA, stR_row, stR_row0, stR_row1, stR_rowA, stR_rowA0, splice_rowv, splice_rowv0, splice_rowv1, splice_z, splice_n, splice_s, nth_rowv, nth_rowv0, nth_rowv1, rowv_len, e4, e5, e6, e10, X1, X2, X3, ia_52, hi, c5, c51, c52, c53, mk_bts, bo_add_btx, bts_list, bts_size, beq_self_eq_true, e4, e5, e6, e7, e10, e11, E0.blk, hg5, E1.blk, X1, E2.blk, X2, E3.blk, X3]
        refine Ret.bind (O.appD (L := LDone) (mx := 3518437208883) flat_done el_25 zz_38 rfl (by decide) ((((ho.ext E1).ext (dw_ext _)).ext E2).ext (E3.tr (by (repeat (first | exact Ext.rfl | assumption | (refine Ext.al ?_ _) | (refine Ext.dw ?_) | (refine Ext.set ?_ (by first | omega | (simp only [World.size_alloc, size_setRow, dw_size]; omega)) _) | (refine Ext.tr ?_ (by assumption))))))) (lit_done (d := ⟨m0, kd, m2, t⟩) (g := w3.heap.size) (E := 38) (by first | assumption | rfl | (simp (maxSteps := 1000000) (disch := first | assumption | omega | (simp only [World.size_alloc, size_setRow, dw_size]; done) | (simp only [World.size_alloc, size_setRow, dw_size] <;> omega) | (simp only [List.length_set, Array.length_toList, List.length_cons, List.length_nil, List.length_append, bts_size] <;> omega) | (simp only [List.all_cons, List.all_nil, Value.oneCell', Bool.and_self, Bool.and_true]; done)) [-Option.bind_some, hp_alloc_lt, hp_alloc_eq, hp_set_ne, wrap_small, ups_ap_cons, ups_ap_nil, upd_same, upd_other, env0_ap0, env0_aps, xt_a, xt_b, xt_c, nk_ptr, -splice_eq, -stR_cells, stR_box, stR_boxA, stR_row, stR_row0, stR_row1, stR_rowA, stR_rowA0, splice_rowv, splice_rowv0, splice_rowv1, splice_z, splice_n, splice_s, nth_rowv, nth_rowv0, nth_rowv1, rowv_len, e4, e5, e6, e7, e10, e11, E0.blk, hg5, E1.blk, X1, E2.blk, X2, E3.blk, X3]; done))) (by rw [hacc]; simp; omega) (by decide) (by decide)) ?_
        rintro ⟨_, w4⟩ ⟨a4, q4, rfl, o4, M4⟩
        have zM4 := M4.size
        try simp only [World.size_alloc, size_setRow, dw_size] at zM4
        try dsimp only at o4 M4
        have zM4 := M4.size
        simp only [World.size_alloc, size_setRow, dw_size] at zM4 o4
        rw [show acc.length + ([⟨m0, kd, m2, t⟩] : List Done).length = i + 1 by rw [hacc]; rfl] at o4
        have F4 : Ext w0 w4 := Mod.after (a := w0) (by (repeat (first | exact Ext.rfl | assumption | (refine Ext.al ?_ _) | (refine Ext.dw ?_) | (refine Ext.set ?_ (by first | omega | (simp only [World.size_alloc, size_setRow, dw_size]; omega)) _) | (refine Ext.tr ?_ (by assumption))))) M4 (by intro y hy h; simp only [In] at h; omega)
        simp (maxSteps := 1000000) (disch := first | assumption | omega | (simp only [World.size_alloc, size_setRow, dw_size]; done) | (simp only [World.size_alloc, size_setRow, dw_size] <;> omega) | (simp only [List.length_set, Array.length_toList, List.length_cons, List.length_nil, List.length_append, bts_size] <;> omega) | (simp only [List.all_cons, List.all_nil, Value.oneCell', Bool.and_self, Bool.and_true]; done)) [-Option.bind_some, hp_alloc_lt, hp_alloc_eq, hp_set_ne, wrap_small, ups_ap_cons, ups_ap_nil, upd_same, upd_other, env0_ap0, env0_aps, xt_a, xt_b, xt_c, nk_ptr, -splice_eq, -stR_cells, stR_box, stR_boxA, stR_row, stR_row0, stR_row1, stR_rowA, stR_rowA0, splice_rowv, splice_rowv0, splice_rowv1, splice_z, splice_n, splice_s, nth_rowv, nth_rowv0, nth_rowv1, rowv_len, e6, e4, e5, e6, e7, e10, e11, E0.blk, hg5, E1.blk, X1, E2.blk, X2, E3.blk, X3, M4.blk]
        exact next _ w4 ⟨m0, kd, m2, t⟩ a4 q4 (by rw [hacc]; rfl) (by first | omega | assumption | rfl | exact congrArg i64 (by omega) | (simp; done) | (simp; omega)) (by first | omega | assumption | rfl | exact congrArg i64 (by omega) | (simp; done) | (simp; omega)) hok hgl (o4.wide (by intro z hz hl; simp only [In] at hz ⊢; rcases hz with hz | hz <;> omega)) ((((((A5.ext E1).ext (dw_ext _)).ext E2).ext E3).ext (Ext.alloc _ _)).mod M4 (fun h => h.2.2 rfl)) F4
      · have hte2 : (lineL ⟨m0, kd, m2, t⟩ ++ [10] == x ++ [10]) = false := beq_eq_false_iff_ne.2 fun h => hte (List.append_cancel_right h)
        simp (maxSteps := 1000000) (disch := first | assumption | omega | (simp only [World.size_alloc, size_setRow, dw_size]; done) | (simp only [World.size_alloc, size_setRow, dw_size] <;> omega) | (simp only [List.length_set, Array.length_toList, List.length_cons, List.length_nil, List.length_append, bts_size] <;> omega) | (simp only [List.all_cons, List.all_nil, Value.oneCell', Bool.and_self, Bool.and_true]; done)) [-Option.bind_some, hp_alloc_lt, hp_alloc_eq, hp_set_ne, wrap_small, ups_ap_cons, ups_ap_nil, upd_same, upd_other, env0_ap0, env0_aps, xt_a, xt_b, xt_c, nk_ptr, -splice_eq, -stR_cells, stR_box, stR_boxA, stR_row, stR_row0, stR_row1, stR_rowA, stR_rowA0, splice_rowv, splice_rowv0, splice_rowv1, splice_z, splice_n, splice_s, nth_rowv, nth_rowv0, nth_rowv1, rowv_len, e4, e5, e6, e10, X1, X2, X3, ia_52, hi, c5, c51, c52, c53, mk_bts, bo_add_btx, bts_list, bts_size, hte2, e4, e5, e6, e7, e10, e11, E0.blk, hg5, E1.blk, X1, E2.blk, X2, E3.blk, X3]
        exact bad _ (by (repeat (first | exact Ext.rfl | assumption | (refine Ext.al ?_ _) | (refine Ext.dw ?_) | (refine Ext.set ?_ (by first | omega | (simp only [World.size_alloc, size_setRow, dw_size]; omega)) _) | (refine Ext.tr ?_ (by assumption))))) fun ys h2 h3 => hte (hno ys h2 h3).2
  | succ n ih =>
    intro k e w kd hk h1 e4 e5 e6 e7 e10 e11 A7 A5 X hK ho h7b h5b E0
    have zE0 := E0.size
    try simp only [World.size_alloc, size_setRow, dw_size] at zE0
    rw [spec_HistGet_l2_eq]
    have yb := hp_lt X
    have hz := E0.size
    have hk3 : k ≤ 3 := by omega
    have hkw := kindL_at (k := (k : Int)) (by omega) (by omega)
    rw [Int.toNat_natCast] at hkw
    have c7 := A7 1 y1 rfl
    simp (maxSteps := 1000000) (disch := first | assumption | omega | (simp only [World.size_alloc, size_setRow, dw_size]; done) | (simp only [World.size_alloc, size_setRow, dw_size] <;> omega) | (simp only [List.length_set, Array.length_toList, List.length_cons, List.length_nil, List.length_append, bts_size] <;> omega) | (simp only [List.all_cons, List.all_nil, Value.oneCell', Bool.and_self, Bool.and_true]; done)) [-Option.bind_some, hp_alloc_lt, hp_alloc_eq, hp_set_ne, wrap_small, ups_ap_cons, ups_ap_nil, upd_same, upd_other, env0_ap0, env0_aps, xt_a, xt_b, xt_c, nk_ptr, -splice_eq, -stR_cells, stR_box, stR_boxA, stR_row, stR_row0, stR_row1, stR_rowA, stR_rowA0, splice_rowv, splice_rowv0, splice_rowv1, splice_z, splice_n, splice_s, nth_rowv, nth_rowv0, nth_rowv1, rowv_len, e11, e4, e5, e6, e7, e10, e11, E0.blk]
    refine Ret.bind (l6Words_m _) ?_
    rintro ⟨_, w1⟩ ⟨g, rfl, A1, E1⟩
    have zE1 := E1.size
    try simp only [World.size_alloc, size_setRow, dw_size] at zE1
    try dsimp only at A1 E1
    have X1 := (E1.blk yb).trans X
    have zE1 := E1.size
    have c71 := cellO_ext E1 c7
    simp (maxSteps := 1000000) (disch := first | assumption | omega | (simp only [World.size_alloc, size_setRow, dw_size]; done) | (simp only [World.size_alloc, size_setRow, dw_size] <;> omega) | (simp only [List.length_set, Array.length_toList, List.length_cons, List.length_nil, List.length_append, bts_size] <;> omega) | (simp only [List.all_cons, List.all_nil, Value.oneCell', Bool.and_self, Bool.and_true]; done)) [-Option.bind_some, hp_alloc_lt, hp_alloc_eq, hp_set_ne, wrap_small, ups_ap_cons, ups_ap_nil, upd_same, upd_other, env0_ap0, env0_aps, xt_a, xt_b, xt_c, nk_ptr, -splice_eq, -stR_cells, stR_box, stR_boxA, stR_row, stR_row0, stR_row1, stR_rowA, stR_rowA0, splice_rowv, splice_rowv0, splice_rowv1, splice_z, splice_n, splice_s, nth_rowv, nth_rowv0, nth_rowv1, rowv_len, e7, e11, show k < 4 by omega, show (k : Int) < 4 by omega, ia_52, c7, c71, e4, e5, e6, e7, e10, e11, E0.blk, E1.blk, X1]
    refine Ret.bind (l6Words_m _) ?_
    rintro ⟨_, w2⟩ ⟨g', rfl, A2, E2⟩
    have zE2 := E2.size
    try simp only [World.size_alloc, size_setRow, dw_size] at zE2
    try dsimp only at A2 E2
    have X2 := (E2.blk (by simp only [dw_size]; omega)).trans ((hp_dw _ _).trans X1)
    have zE2 := E2.size
    simp only [dw_size] at zE2
    have c72 : cellO (hp w2 g7) (o7 + 1) = some (.string (bts y1)) := cellO_ext (Ext.tr (by (repeat (first | exact Ext.rfl | assumption | (refine Ext.al ?_ _) | (refine Ext.dw ?_) | (refine Ext.set ?_ (by first | omega | (simp only [World.size_alloc, size_setRow, dw_size]; omega)) _) | (refine Ext.tr ?_ (by assumption))))) E2) c71
    have ck := A2 _ _ hkw
    rw [Nat.zero_add] at ck
    have F2 : Ext w w2 := E1.tr (Ext.tr (by (repeat (first | exact Ext.rfl | assumption | (refine Ext.al ?_ _) | (refine Ext.dw ?_) | (refine Ext.set ?_ (by first | omega | (simp only [World.size_alloc, size_setRow, dw_size]; omega)) _) | (refine Ext.tr ?_ (by assumption))))) E2)
    have o2 := ho.ext F2
    have A22 := A7.ext F2
    by_cases hm : kindL (k : Int) = y1
    · simp (maxSteps := 1000000) (disch := first | assumption | omega | (simp only [World.size_alloc, size_setRow, dw_size]; done) | (simp only [World.size_alloc, size_setRow, dw_size] <;> omega) | (simp only [List.length_set, Array.length_toList, List.length_cons, List.length_nil, List.length_append, bts_size] <;> omega) | (simp only [List.all_cons, List.all_nil, Value.oneCell', Bool.and_self, Bool.and_true]; done)) [-Option.bind_some, hp_alloc_lt, hp_alloc_eq, hp_set_ne, wrap_small, ups_ap_cons, ups_ap_nil, upd_same, upd_other, env0_ap0, env0_aps, xt_a, xt_b, xt_c, nk_ptr, -splice_eq, -stR_cells, stR_box, stR_boxA, stR_row, stR_row0, stR_row1, stR_rowA, stR_rowA0, splice_rowv, splice_rowv0, splice_rowv1, splice_z, splice_n, splice_s, nth_rowv, nth_rowv0, nth_rowv1, rowv_len, e7, e10, e11, show k < 4 by omega, show (k : Int) < 4 by omega, ia_52, c7, c71, c72, ck, bts_list, hm, X2, e4, e5, e6, e7, e10, e11, E0.blk, E1.blk, X1, E2.blk, X2]
      rw [spec_HistGet_j2_eq]
      simp (maxSteps := 1000000) (disch := first | assumption | omega | (simp only [World.size_alloc, size_setRow, dw_size]; done) | (simp only [World.size_alloc, size_setRow, dw_size] <;> omega) | (simp only [List.length_set, Array.length_toList, List.length_cons, List.length_nil, List.length_append, bts_size] <;> omega) | (simp only [List.all_cons, List.all_nil, Value.oneCell', Bool.and_self, Bool.and_true]; done)) [-Option.bind_some, hp_alloc_lt, hp_alloc_eq, hp_set_ne, wrap_small, ups_ap_cons, ups_ap_nil, upd_same, upd_other, env0_ap0, env0_aps, xt_a, xt_b, xt_c, nk_ptr, -splice_eq, -stR_cells, stR_box, stR_boxA, stR_row, stR_row0, stR_row1, stR_rowA, stR_rowA0, splice_rowv, splice_rowv0, splice_rowv1, splice_z, splice_n, splice_s, nth_rowv, nth_rowv0, nth_rowv1, rowv_len, e11, e4, e5, e6, e7, e10, e11, E0.blk, E1.blk, X1, E2.blk, X2]
      refine ih (k + 1) _ _ k (by omega) (by omega) (by exact e4) (by exact e5) (by exact e6) (by exact e7) (by exact e10) (by exact congrArg i64 (by omega)) (A22.keep (hp_set_ne h7b)) ((A5.ext F2).keep (hp_set_ne h5b)) (by first | assumption | rfl | (simp (maxSteps := 1000000) (disch := first | assumption | omega | (simp only [World.size_alloc, size_setRow, dw_size]; done) | (simp only [World.size_alloc, size_setRow, dw_size] <;> omega) | (simp only [List.length_set, Array.length_toList, List.length_cons, List.length_nil, List.length_append, bts_size] <;> omega) | (simp only [List.all_cons, List.all_nil, Value.oneCell', Bool.and_self, Bool.and_true]; done)) [-Option.bind_some, hp_alloc_lt, hp_alloc_eq, hp_set_ne, wrap_small, ups_ap_cons, ups_ap_nil, upd_same, upd_other, env0_ap0, env0_aps, xt_a, xt_b, xt_c, nk_ptr, -splice_eq, -stR_cells, stR_box, stR_boxA, stR_row, stR_row0, stR_row1, stR_rowA, stR_rowA0, splice_rowv, splice_rowv0, splice_rowv1, splice_z, splice_n, splice_s, nth_rowv, nth_rowv0, nth_rowv1, rowv_len, X2, e4, e5, e6, e7, e10, e11, E0.blk, E1.blk, X1, E2.blk, X2]; done)) ?_ ((o2.keep fun z hz hl => hp_set_ne hz.2.1).wide ?_) h7b h5b (by (repeat (first | exact Ext.rfl | assumption | (refine Ext.al ?_ _) | (refine Ext.dw ?_) | (refine Ext.set ?_ (by first | omega | (simp only [World.size_alloc, size_setRow, dw_size]; omega)) _) | (refine Ext.tr ?_ (by assumption)))))
      · intro K h2 h3 h4
        rw [← hm] at h4
        exact kindL_inj (by omega) (by omega) h2 (by omega) h4
      · intro z hz hl
        have := hz.1
        simp only [In, size_setRow] at this hl ⊢
        exact ⟨by omega, hz.2⟩
    · have hm' : (kindL (k : Int) == y1) = false := beq_eq_false_iff_ne.2 hm
      simp (maxSteps := 1000000) (disch := first | assumption | omega | (simp only [World.size_alloc, size_setRow, dw_size]; done) | (simp only [World.size_alloc, size_setRow, dw_size] <;> omega) | (simp only [List.length_set, Array.length_toList, List.length_cons, List.length_nil, List.length_append, bts_size] <;> omega) | (simp only [List.all_cons, List.all_nil, Value.oneCell', Bool.and_self, Bool.and_true]; done)) [-Option.bind_some, hp_alloc_lt, hp_alloc_eq, hp_set_ne, wrap_small, ups_ap_cons, ups_ap_nil, upd_same, upd_other, env0_ap0, env0_aps, xt_a, xt_b, xt_c, nk_ptr, -splice_eq, -stR_cells, stR_box, stR_boxA, stR_row, stR_row0, stR_row1, stR_rowA, stR_rowA0, splice_rowv, splice_rowv0, splice_rowv1, splice_z, splice_n, splice_s, nth_rowv, nth_rowv0, nth_rowv1, rowv_len, e7, e10, e11, show k < 4 by omega, show (k : Int) < 4 by omega, ia_52, c7, c71, c72, ck, bts_list, hm', X2, e4, e5, e6, e7, e10, e11, E0.blk, E1.blk, X1, E2.blk, X2]
      rw [spec_HistGet_j2_eq]
      simp (maxSteps := 1000000) (disch := first | assumption | omega | (simp only [World.size_alloc, size_setRow, dw_size]; done) | (simp only [World.size_alloc, size_setRow, dw_size] <;> omega) | (simp only [List.length_set, Array.length_toList, List.length_cons, List.length_nil, List.length_append, bts_size] <;> omega) | (simp only [List.all_cons, List.all_nil, Value.oneCell', Bool.and_self, Bool.and_true]; done)) [-Option.bind_some, hp_alloc_lt, hp_alloc_eq, hp_set_ne, wrap_small, ups_ap_cons, ups_ap_nil, upd_same, upd_other, env0_ap0, env0_aps, xt_a, xt_b, xt_c, nk_ptr, -splice_eq, -stR_cells, stR_box, stR_boxA, stR_row, stR_row0, stR_row1, stR_rowA, stR_rowA0, splice_rowv, splice_rowv0, splice_rowv1, splice_z, splice_n, splice_s, nth_rowv, nth_rowv0, nth_rowv1, rowv_len, e11, e4, e5, e6, e7, e10, e11, E0.blk, E1.blk, X1, E2.blk, X2]
      refine ih (k + 1) _ _ kd (by omega) (by omega) (by exact e4) (by exact e5) (by exact e6) (by exact e7) (by exact e10) (by exact congrArg i64 (by omega)) A22 (A5.ext F2) X2 ?_ (o2.wide ?_) h7b h5b (by (repeat (first | exact Ext.rfl | assumption | (refine Ext.al ?_ _) | (refine Ext.dw ?_) | (refine Ext.set ?_ (by first | omega | (simp only [World.size_alloc, size_setRow, dw_size]; omega)) _) | (refine Ext.tr ?_ (by assumption)))))
      · intro K h2 h3 h4
        rcases (by omega : K < k ∨ K = k) with h5 | h5
        · exact hK K h2 h5 h4
        · rw [h5] at h4; exact absurd h4.symm hm
      · intro z hz hl
        have := hz.1
        simp only [In] at this ⊢
        exact ⟨by omega, hz.2⟩
theorem HistGet_l1 {l : List UInt8} {lines : List (List UInt8)} {w0 : World} {g5 o5 q5 : Nat} (H : LinesAt l lines) :
    ∀ (d i : Nat) (e : Env) (w : World) (acc : List Done) (a : Option Addr) (q : Nat), i + d = min lines.length 81 → acc.length = i → e 4 = .slice a i q → e 5 = .slice (some ⟨g5, o5, none⟩) lines.length q5 → e 6 = i64 i → (∀ d ∈ acc, opOk d = true) → acc.map lineL = lines.take i → O tDones (fun z => In w0.heap.size w.heap.size z ∧ z ≠ g5) w [.slice a i q] acc → StrAt w g5 o5 lines → Ext w0 w →
      Ret (spec_HistGet_l1 e w) fun r => ∃ xs ok a q, r.1 = .tuple #[.slice a xs.length q, .bool ok] ∧ HistGot l xs ok ∧ O tDones (In w0.heap.size r.2.heap.size) r.2 [.slice a xs.length q] xs ∧ Ext w0 r.2 := by
  intro d
  induction d with
  | zero =>
    intro i e w acc a q hd hal e4 e5 e6 hok hm ho A5 E0
    have zE0 := E0.size
    try simp only [World.size_alloc, size_setRow, dw_size] at zE0
    rw [spec_HistGet_l1_eq]
    have hz := E0.size
    refine Ret.post fun Q hQ => ?_
    have bad : ∀ w', Ext w0 w' → (∀ ys, formP ys = true → histL ys ≠ l) → Q (.tuple #[.slice none 0 0, .bool false], w') := fun w' h1 h2 => hQ _ ⟨[], false, none, 0, rfl, ⟨by simp, fun _ => ⟨rfl, h2⟩⟩, O.nil, h1⟩
    have hno : formP acc = false → ∀ ys, formP ys = true → histL ys ≠ l := by
      intro hf ys h1 h2
      have h3 := H.ys ys h1 h2
      have h4 := formP_len h1
      have h5 : lines.length = ys.length := by rw [← h3, List.length_map]
      rw [List.take_of_length_le (by omega), ← h3] at hm
      rw [lines_inj hok (formP_ops h1) hm, h1] at hf
      cases hf
    have step : ∀ (e' : Env) (w' : World), Ext w w' → True := fun _ _ _ => trivial
    subst hal
    by_cases hlt : acc.length < lines.length
    · have h81 : ¬ acc.length ≤ 80 := by omega
      simp (maxSteps := 1000000) (disch := first | assumption | omega | (simp only [World.size_alloc, size_setRow, dw_size]; done) | (simp only [World.size_alloc, size_setRow, dw_size] <;> omega) | (simp only [List.length_set, Array.length_toList, List.length_cons, List.length_nil, List.length_append, bts_size] <;> omega) | (simp only [List.all_cons, List.all_nil, Value.oneCell', Bool.and_self, Bool.and_true]; done)) [-Option.bind_some, hp_alloc_lt, hp_alloc_eq, hp_set_ne, wrap_small, ups_ap_cons, ups_ap_nil, upd_same, upd_other, env0_ap0, env0_aps, xt_a, xt_b, xt_c, nk_ptr, -splice_eq, -stR_cells, stR_box, stR_boxA, stR_row, stR_row0, stR_row1, stR_rowA, stR_rowA0, splice_rowv, splice_rowv0, splice_rowv1, splice_z, splice_n, splice_s, nth_rowv, nth_rowv0, nth_rowv1, rowv_len, e4, e5, e6, hlt, h81, show ¬ (acc.length : Int) ≤ 80 by omega, e4, e5, e6, E0.blk]
      refine Ret.bind (spec_l6Form_m ho.d) ?_
      rintro ⟨_, w1⟩ ⟨rfl, E1⟩
      try dsimp only at E1
      have zE1 := E1.size
      try simp only [World.size_alloc, size_setRow, dw_size] at zE1
      have hf : formP acc = false := by
        cases hf : formP acc
        · rfl
        · have := formP_len hf; omega
      simp (maxSteps := 1000000) (disch := first | assumption | omega | (simp only [World.size_alloc, size_setRow, dw_size]; done) | (simp only [World.size_alloc, size_setRow, dw_size] <;> omega) | (simp only [List.length_set, Array.length_toList, List.length_cons, List.length_nil, List.length_append, bts_size] <;> omega) | (simp only [List.all_cons, List.all_nil, Value.oneCell', Bool.and_self, Bool.and_true]; done)) [-Option.bind_some, hp_alloc_lt, hp_alloc_eq, hp_set_ne, wrap_small, ups_ap_cons, ups_ap_nil, upd_same, upd_other, env0_ap0, env0_aps, xt_a, xt_b, xt_c, nk_ptr, -splice_eq, -stR_cells, stR_box, stR_boxA, stR_row, stR_row0, stR_row1, stR_rowA, stR_rowA0, splice_rowv, splice_rowv0, splice_rowv1, splice_z, splice_n, splice_s, nth_rowv, nth_rowv0, nth_rowv1, rowv_len, hf, e4, e5, e6, E0.blk, E1.blk]
      exact bad _ (by (repeat (first | exact Ext.rfl | assumption | (refine Ext.al ?_ _) | (refine Ext.dw ?_) | (refine Ext.set ?_ (by first | omega | (simp only [World.size_alloc, size_setRow, dw_size]; omega)) _) | (refine Ext.tr ?_ (by assumption))))) (hno hf)
    · simp (maxSteps := 1000000) (disch := first | assumption | omega | (simp only [World.size_alloc, size_setRow, dw_size]; done) | (simp only [World.size_alloc, size_setRow, dw_size] <;> omega) | (simp only [List.length_set, Array.length_toList, List.length_cons, List.length_nil, List.length_append, bts_size] <;> omega) | (simp only [List.all_cons, List.all_nil, Value.oneCell', Bool.and_self, Bool.and_true]; done)) [-Option.bind_some, hp_alloc_lt, hp_alloc_eq, hp_set_ne, wrap_small, ups_ap_cons, ups_ap_nil, upd_same, upd_other, env0_ap0, env0_aps, xt_a, xt_b, xt_c, nk_ptr, -splice_eq, -stR_cells, stR_box, stR_boxA, stR_row, stR_row0, stR_row1, stR_rowA, stR_rowA0, splice_rowv, splice_rowv0, splice_rowv1, splice_z, splice_n, splice_s, nth_rowv, nth_rowv0, nth_rowv1, rowv_len, e4, e5, e6, hlt, e4, e5, e6, E0.blk]
      refine Ret.bind (spec_l6Form_m ho.d) ?_
      rintro ⟨_, w1⟩ ⟨rfl, E1⟩
      try dsimp only at E1
      have zE1 := E1.size
      try simp only [World.size_alloc, size_setRow, dw_size] at zE1
      cases hf : formP acc
      · simp (maxSteps := 1000000) (disch := first | assumption | omega | (simp only [World.size_alloc, size_setRow, dw_size]; done) | (simp only [World.size_alloc, size_setRow, dw_size] <;> omega) | (simp only [List.length_set, Array.length_toList, List.length_cons, List.length_nil, List.length_append, bts_size] <;> omega) | (simp only [List.all_cons, List.all_nil, Value.oneCell', Bool.and_self, Bool.and_true]; done)) [-Option.bind_some, hp_alloc_lt, hp_alloc_eq, hp_set_ne, wrap_small, ups_ap_cons, ups_ap_nil, upd_same, upd_other, env0_ap0, env0_aps, xt_a, xt_b, xt_c, nk_ptr, -splice_eq, -stR_cells, stR_box, stR_boxA, stR_row, stR_row0, stR_row1, stR_rowA, stR_rowA0, splice_rowv, splice_rowv0, splice_rowv1, splice_z, splice_n, splice_s, nth_rowv, nth_rowv0, nth_rowv1, rowv_len, hf, e4, e5, e6, E0.blk, E1.blk]
        exact bad _ (by (repeat (first | exact Ext.rfl | assumption | (refine Ext.al ?_ _) | (refine Ext.dw ?_) | (refine Ext.set ?_ (by first | omega | (simp only [World.size_alloc, size_setRow, dw_size]; omega)) _) | (refine Ext.tr ?_ (by assumption))))) (hno hf)
      · simp (maxSteps := 1000000) (disch := first | assumption | omega | (simp only [World.size_alloc, size_setRow, dw_size]; done) | (simp only [World.size_alloc, size_setRow, dw_size] <;> omega) | (simp only [List.length_set, Array.length_toList, List.length_cons, List.length_nil, List.length_append, bts_size] <;> omega) | (simp only [List.all_cons, List.all_nil, Value.oneCell', Bool.and_self, Bool.and_true]; done)) [-Option.bind_some, hp_alloc_lt, hp_alloc_eq, hp_set_ne, wrap_small, ups_ap_cons, ups_ap_nil, upd_same, upd_other, env0_ap0, env0_aps, xt_a, xt_b, xt_c, nk_ptr, -splice_eq, -stR_cells, stR_box, stR_boxA, stR_row, stR_row0, stR_row1, stR_rowA, stR_rowA0, splice_rowv, splice_rowv0, splice_rowv1, splice_z, splice_n, splice_s, nth_rowv, nth_rowv0, nth_rowv1, rowv_len, hf, e4, e4, e5, e6, E0.blk, E1.blk]
        have zE1 := E1.size
        refine hQ _ ⟨acc, true, a, q, rfl, ⟨fun _ => ⟨hf, ?_⟩, by simp⟩, (ho.ext E1).wide (by intro b hb _; have := hb.1; simp only [In] at this ⊢; omega), by (repeat (first | exact Ext.rfl | assumption | (refine Ext.al ?_ _) | (refine Ext.dw ?_) | (refine Ext.set ?_ (by first | omega | (simp only [World.size_alloc, size_setRow, dw_size]; omega)) _) | (refine Ext.tr ?_ (by assumption))))⟩
        rw [histL_flat, hm, List.take_of_length_le (by omega)]
        exact H.join
  | succ d ih =>
    intro i e w acc a q hd hal e4 e5 e6 hok hm ho A5 E0
    have zE0 := E0.size
    try simp only [World.size_alloc, size_setRow, dw_size] at zE0
    rw [spec_HistGet_l1_eq]
    have hz := E0.size
    have hi : i < lines.length := by omega
    have hi81 : i ≤ 80 := by omega
    obtain ⟨x, hx, _⟩ := drop_at hi
    have hxl := H.len x (List.mem_of_getElem? hx)
    have c5 := A5 _ _ hx
    have hg5 := cellO_lt c5
    have hsz := cutN_sz 32 4 x
    refine Ret.post fun Q hQ => ?_
    have bad : ∀ w', Ext w0 w' → (∀ ys, formP ys = true → histL ys ≠ l) → Q (.tuple #[.slice none 0 0, .bool false], w') := fun w' h1 h2 => hQ _ ⟨[], false, none, 0, rfl, ⟨by simp, fun _ => ⟨rfl, h2⟩⟩, O.nil, h1⟩
    have hline : ∀ ys, formP ys = true → histL ys = l → ∃ d', opOk d' = true ∧ lineL d' = x := by
      intro ys h1 h2
      have h3 := H.ys ys h1 h2
      rw [← h3, List.getElem?_map] at hx
      obtain ⟨d', h5, h6⟩ := Option.map_eq_some_iff.1 hx
      exact ⟨d', formP_ops h1 d' (List.mem_of_getElem? h5), h6⟩
    simp (maxSteps := 1000000) (disch := first | assumption | omega | (simp only [World.size_alloc, size_setRow, dw_size]; done) | (simp only [World.size_alloc, size_setRow, dw_size] <;> omega) | (simp only [List.length_set, Array.length_toList, List.length_cons, List.length_nil, List.length_append, bts_size] <;> omega) | (simp only [List.all_cons, List.all_nil, Value.oneCell', Bool.and_self, Bool.and_true]; done)) [-Option.bind_some, hp_alloc_lt, hp_alloc_eq, hp_set_ne, wrap_small, ups_ap_cons, ups_ap_nil, upd_same, upd_other, env0_ap0, env0_aps, xt_a, xt_b, xt_c, nk_ptr, -splice_eq, -stR_cells, stR_box, stR_boxA, stR_row, stR_row0, stR_row1, stR_rowA, stR_rowA0, splice_rowv, splice_rowv0, splice_rowv1, splice_z, splice_n, splice_s, nth_rowv, nth_rowv0, nth_rowv1, rowv_len, e4, e5, e6, hi, hi81, show (i : Int) < lines.length by omega, show (i : Int) ≤ 80 by omega, ia_52, c5, e4, e5, e6, E0.blk, hg5]
    refine Ret.bind (l1Cut_m (c := 32) (N := 4) (by decide) (by omega) _) ?_
    rintro ⟨_, w1⟩ ⟨a7, q7, rfl, o7, E1⟩
    try dsimp only at a7 q7 o7 E1
    have zE1 := E1.size
    try simp only [World.size_alloc, size_setRow, dw_size] at zE1
    by_cases h4 : (cutN 32 4 x).length = 4
    · obtain ⟨y0, y1, y2, y3, hy⟩ := len4 h4
      rw [hy] at hsz
      obtain ⟨g7, oo7, rfl, A7⟩ := o_str o7 (by omega)
      rw [hy] at A7
      have hw : ∀ d', opOk d' = true → lineL d' = x → y0 = decL d'.sess.toNat ∧ y1 = kindL d'.kind ∧ y2 = decL d'.key.toNat ∧ y3 = tagL d'.tag := by
        intro d' h1 h2
        have h3 := line_cutN d' 1
        rw [h2, show (1 + 3 : Nat) = 4 from rfl, hy, lineWs] at h3
        simp only [List.cons.injEq, and_true] at h3
        exact h3
      have s0 := hsz y0 (by simp)
      have s2 := hsz y2 (by simp)
      have s3 := hsz y3 (by simp)
      have c0 := A7 0 y0 rfl
      have c2 := A7 2 y2 rfl
      have c3 := A7 3 y3 rfl
      rw [Nat.add_zero] at c0
      have hg7 := cellO_lt c0
      simp (maxSteps := 1000000) (disch := first | assumption | omega | (simp only [World.size_alloc, size_setRow, dw_size]; done) | (simp only [World.size_alloc, size_setRow, dw_size] <;> omega) | (simp only [List.length_set, Array.length_toList, List.length_cons, List.length_nil, List.length_append, bts_size] <;> omega) | (simp only [List.all_cons, List.all_nil, Value.oneCell', Bool.and_self, Bool.and_true]; done)) [-Option.bind_some, hp_alloc_lt, hp_alloc_eq, hp_set_ne, wrap_small, ups_ap_cons, ups_ap_nil, upd_same, upd_other, env0_ap0, env0_aps, xt_a, xt_b, xt_c, nk_ptr, -splice_eq, -stR_cells, stR_box, stR_boxA, stR_row, stR_row0, stR_row1, stR_rowA, stR_rowA0, splice_rowv, splice_rowv0, splice_rowv1, splice_z, splice_n, splice_s, nth_rowv, nth_rowv0, nth_rowv1, rowv_len, h4, c3, ia_52, e4, e5, e6, E0.blk, hg5, E1.blk, hg7]
      refine Ret.bind (spec_TagGet_m (l := y3) (by omega) _) ?_
      rintro ⟨_, w2⟩ ⟨t, okt, rfl, hgt, E2⟩
      try dsimp only at t okt hgt E2
      have zE2 := E2.size
      try simp only [World.size_alloc, size_setRow, dw_size] at zE2
      have zE1 := E1.size
      have zE2 := E2.size
      have A72 := A7.ext E2
      simp (maxSteps := 1000000) (disch := first | assumption | omega | (simp only [World.size_alloc, size_setRow, dw_size]; done) | (simp only [World.size_alloc, size_setRow, dw_size] <;> omega) | (simp only [List.length_set, Array.length_toList, List.length_cons, List.length_nil, List.length_append, bts_size] <;> omega) | (simp only [List.all_cons, List.all_nil, Value.oneCell', Bool.and_self, Bool.and_true]; done)) [-Option.bind_some, hp_alloc_lt, hp_alloc_eq, hp_set_ne, wrap_small, ups_ap_cons, ups_ap_nil, upd_same, upd_other, env0_ap0, env0_aps, xt_a, xt_b, xt_c, nk_ptr, -splice_eq, -stR_cells, stR_box, stR_boxA, stR_row, stR_row0, stR_row1, stR_rowA, stR_rowA0, splice_rowv, splice_rowv0, splice_rowv1, splice_z, splice_n, splice_s, nth_rowv, nth_rowv0, nth_rowv1, rowv_len, xt_a, xt_b, h4, e4, e5, e6, E0.blk, hg5, E1.blk, hg7, E2.blk]
      obtain ⟨w3, hw3⟩ : ∃ w3, w3 = w2.alloc (.cells #[i64 t.t, i64 t.p] 36) := ⟨_, rfl⟩
      have fin : ∀ (e' : Env) (w' : World) (m0 m2 : Int), (∀ v : Nat, v ≤ 999999 → y0 = decL v → m0 = v) → (∀ v : Nat, v ≤ 999999 → y2 = decL v → m2 = v) → e' 4 = .slice a i q → e' 5 = .slice (some ⟨g5, o5, none⟩) lines.length q5 → e' 6 = i64 i → e' 7 = .slice (some ⟨g7, oo7, none⟩) 4 q7 → e' 10 = pt (w2.heap.size + 1) 0 →
          hp w' (w2.heap.size + 1) = some (.cells #[i64 m0, i64 0, i64 m2, i64 t.t, i64 t.p] 38 (0, 0)) → Ext w2 w' → w'.heap.size = w2.heap.size + 2 → Ret (spec_HistGet_j1 e' w') Q := by
        intro e' w' m0 m2 hm0 hm2 e4 e5 e6 e7 e10 X E3 hs'
        have zE3 := E3.size
        try simp only [World.size_alloc, size_setRow, dw_size] at zE3
        rw [spec_HistGet_j1_eq]
        simp (maxSteps := 1000000) (disch := first | assumption | omega | (simp only [World.size_alloc, size_setRow, dw_size]; done) | (simp only [World.size_alloc, size_setRow, dw_size] <;> omega) | (simp only [List.length_set, Array.length_toList, List.length_cons, List.length_nil, List.length_append, bts_size] <;> omega) | (simp only [List.all_cons, List.all_nil, Value.oneCell', Bool.and_self, Bool.and_true]; done)) [-Option.bind_some, hp_alloc_lt, hp_alloc_eq, hp_set_ne, wrap_small, ups_ap_cons, ups_ap_nil, upd_same, upd_other, env0_ap0, env0_aps, xt_a, xt_b, xt_c, nk_ptr, -splice_eq, -stR_cells, stR_box, stR_boxA, stR_row, stR_row0, stR_row1, stR_rowA, stR_rowA0, splice_rowv, splice_rowv0, splice_rowv1, splice_z, splice_n, splice_s, nth_rowv, nth_rowv0, nth_rowv1, rowv_len, e4, e5, e6, E0.blk, hg5, E1.blk, hg7, E2.blk, e4, e5, e6, e7, e10, E3.blk]
        refine HistGet_l2 (l := l) (lines := lines) (w0 := w0) (i := i) (x := x) (y0 := y0) (y1 := y1) (y2 := y2) (y3 := y3) (m0 := m0) (m2 := m2) (t := t) (acc := acc) (a := a) (q := q) (b := w2.heap.size + 1) H hi hi81 hx (by omega) hal ?_ bad ?_ 3 1 _ w' 0 rfl (by omega) (by exact e4) (by exact e5) (by exact e6) (by exact e7) (by exact e10) (by exact rfl) (A72.ext E3) (((A5.ext E1).ext E2).ext E3) X (fun K h1 h2 => by omega) (((ho.ext E1).ext E2).ext E3 |>.wide (by intro z hz hl; have h1 := hz.1; have h2 := hz.2; simp only [In] at h1 ⊢; omega)) (by omega) (by omega) (by (repeat (first | exact Ext.rfl | assumption | (refine Ext.al ?_ _) | (refine Ext.dw ?_) | (refine Ext.set ?_ (by first | omega | (simp only [World.size_alloc, size_setRow, dw_size]; omega)) _) | (refine Ext.tr ?_ (by assumption)))))
        · intro d' h1 h2
          obtain ⟨k0, k1, k2, k3⟩ := hw d' h1 h2
          obtain ⟨q1, q2, q3, q4, _⟩ := opOk_iff.1 h1
          have r0 := hm0 d'.sess.toNat (by omega) k0
          have r2 := hm2 d'.key.toNat (by omega) k2
          have r3 : okt = true := by
            cases hh : okt
            · rw [hh] at hgt; exact absurd k3.symm ((hgt.2 rfl).2 _ q4)
            · rfl
          obtain ⟨h5, h6⟩ := hgt.1 r3
          exact ⟨by omega, by omega, tagL_inj h5 q4 (h6.trans k3), k1⟩
        · intro e9 w9 d9 a9 q9 f4 f5 f6 hok9 hte9 o9 A9 E9
          have zE9 := E9.size
          try simp only [World.size_alloc, size_setRow, dw_size] at zE9
          refine Ret.mono (ih (i + 1) e9 w9 (acc ++ [d9]) a9 q9 (by omega) (by simp; omega) f4 f5 f6 ?_ ?_ o9 A9 E9) hQ
          · intro u hu
            rcases List.mem_append.1 hu with h | h
            · exact hok u h
            · rw [List.mem_singleton.1 h]; exact hok9
          · rw [List.map_append, hm, List.take_add_one, hx, List.map_singleton, hte9]; rfl
      have c02 := cellO_ext E2 c0
      have c22 := cellO_ext E2 c2
      refine spec_HistGet_a1_any _ _ ?_
      simp (maxSteps := 1000000) (disch := first | assumption | omega | (simp only [World.size_alloc, size_setRow, dw_size]; done) | (simp only [World.size_alloc, size_setRow, dw_size] <;> omega) | (simp only [List.length_set, Array.length_toList, List.length_cons, List.length_nil, List.length_append, bts_size] <;> omega) | (simp only [List.all_cons, List.all_nil, Value.oneCell', Bool.and_self, Bool.and_true]; done)) [-Option.bind_some, hp_alloc_lt, hp_alloc_eq, hp_set_ne, wrap_small, ups_ap_cons, ups_ap_nil, upd_same, upd_other, env0_ap0, env0_aps, xt_a, xt_b, xt_c, nk_ptr, -splice_eq, -stR_cells, stR_box, stR_boxA, stR_row, stR_row0, stR_row1, stR_rowA, stR_rowA0, splice_rowv, splice_rowv0, splice_rowv1, splice_z, splice_n, splice_s, nth_rowv, nth_rowv0, nth_rowv1, rowv_len, e4, e5, e6, c0, c2, c02, c22, ia_52, e4, e5, e6, E0.blk, hg5, E1.blk, hg7, E2.blk]
      constructor
      · refine Ret.mono (l1Num_m (l := y0) (by omega) _) ?_
        rintro _ ⟨m0, rfl, hm0⟩
        simp (maxSteps := 1000000) (disch := first | assumption | omega | (simp only [World.size_alloc, size_setRow, dw_size]; done) | (simp only [World.size_alloc, size_setRow, dw_size] <;> omega) | (simp only [List.length_set, Array.length_toList, List.length_cons, List.length_nil, List.length_append, bts_size] <;> omega) | (simp only [List.all_cons, List.all_nil, Value.oneCell', Bool.and_self, Bool.and_true]; done)) [-Option.bind_some, hp_alloc_lt, hp_alloc_eq, hp_set_ne, wrap_small, ups_ap_cons, ups_ap_nil, upd_same, upd_other, env0_ap0, env0_aps, xt_a, xt_b, xt_c, nk_ptr, -splice_eq, -stR_cells, stR_box, stR_boxA, stR_row, stR_row0, stR_row1, stR_rowA, stR_rowA0, splice_rowv, splice_rowv0, splice_rowv1, splice_z, splice_n, splice_s, nth_rowv, nth_rowv0, nth_rowv1, rowv_len, c0, c2, c02, c22, ia_52, e4, e5, e6, E0.blk, hg5, E1.blk, hg7, E2.blk]
        constructor
        · refine Ret.mono (l1Num_m (l := y2) (by omega) _) ?_
          rintro _ ⟨m2, rfl, hm2⟩
          simp (maxSteps := 1000000) (disch := first | assumption | omega | (simp only [World.size_alloc, size_setRow, dw_size]; done) | (simp only [World.size_alloc, size_setRow, dw_size] <;> omega) | (simp only [List.length_set, Array.length_toList, List.length_cons, List.length_nil, List.length_append, bts_size] <;> omega) | (simp only [List.all_cons, List.all_nil, Value.oneCell', Bool.and_self, Bool.and_true]; done)) [-Option.bind_some, hp_alloc_lt, hp_alloc_eq, hp_set_ne, wrap_small, ups_ap_cons, ups_ap_nil, upd_same, upd_other, env0_ap0, env0_aps, xt_a, xt_b, xt_c, nk_ptr, -splice_eq, -stR_cells, stR_box, stR_boxA, stR_row, stR_row0, stR_row1, stR_rowA, stR_rowA0, splice_rowv, splice_rowv0, splice_rowv1, splice_z, splice_n, splice_s, nth_rowv, nth_rowv0, nth_rowv1, rowv_len, c0, c2, c02, c22, ia_52, e4, e5, e6, E0.blk, hg5, E1.blk, hg7, E2.blk]
          exact fin _ _ m0 m2 hm0 hm2 (by first | omega | assumption | rfl | exact congrArg i64 (by omega) | (simp; done) | (simp; omega)) (by first | omega | assumption | rfl | exact congrArg i64 (by omega) | (simp; done) | (simp; omega)) (by first | omega | assumption | rfl | exact congrArg i64 (by omega) | (simp; done) | (simp; omega)) (by first | omega | assumption | rfl | exact congrArg i64 (by omega) | (simp; done) | (simp; omega)) (by first | omega | assumption | rfl | exact congrArg i64 (by omega) | (simp; done) | (simp; omega)) (by first | assumption | rfl | (simp (maxSteps := 1000000) (disch := first | assumption | omega | (simp only [World.size_alloc, size_setRow, dw_size]; done) | (simp only [World.size_alloc, size_setRow, dw_size] <;> omega) | (simp only [List.length_set, Array.length_toList, List.length_cons, List.length_nil, List.length_append, bts_size] <;> omega) | (simp only [List.all_cons, List.all_nil, Value.oneCell', Bool.and_self, Bool.and_true]; done)) [-Option.bind_some, hp_alloc_lt, hp_alloc_eq, hp_set_ne, wrap_small, ups_ap_cons, ups_ap_nil, upd_same, upd_other, env0_ap0, env0_aps, xt_a, xt_b, xt_c, nk_ptr, -splice_eq, -stR_cells, stR_box, stR_boxA, stR_row, stR_row0, stR_row1, stR_rowA, stR_rowA0, splice_rowv, splice_rowv0, splice_rowv1, splice_z, splice_n, splice_s, nth_rowv, nth_rowv0, nth_rowv1, rowv_len, e4, e5, e6, E0.blk, hg5, E1.blk, hg7, E2.blk]; done)) (by (repeat (first | exact Ext.rfl | assumption | (refine Ext.al ?_ _) | (refine Ext.dw ?_) | (refine Ext.set ?_ (by first | omega | (simp only [World.size_alloc, size_setRow, dw_size]; omega)) _) | (refine Ext.tr ?_ (by assumption))))) (by simp)
        · refine Ret.mono (l1Num_m (l := y2) (by omega) _) ?_
          rintro _ ⟨m2, rfl, hm2⟩
          simp (maxSteps := 1000000) (disch := first | assumption | omega | (simp only [World.size_alloc, size_setRow, dw_size]; done) | (simp only [World.size_alloc, size_setRow, dw_size] <;> omega) | (simp only [List.length_set, Array.length_toList, List.length_cons, List.length_nil, List.length_append, bts_size] <;> omega) | (simp only [List.all_cons, List.all_nil, Value.oneCell', Bool.and_self, Bool.and_true]; done)) [-Option.bind_some, hp_alloc_lt, hp_alloc_eq, hp_set_ne, wrap_small, ups_ap_cons, ups_ap_nil, upd_same, upd_other, env0_ap0, env0_aps, xt_a, xt_b, xt_c, nk_ptr, -splice_eq, -stR_cells, stR_box, stR_boxA, stR_row, stR_row0, stR_row1, stR_rowA, stR_rowA0, splice_rowv, splice_rowv0, splice_rowv1, splice_z, splice_n, splice_s, nth_rowv, nth_rowv0, nth_rowv1, rowv_len, c0, c2, c02, c22, ia_52, e4, e5, e6, E0.blk, hg5, E1.blk, hg7, E2.blk]
          exact fin _ _ m0 m2 hm0 hm2 (by first | omega | assumption | rfl | exact congrArg i64 (by omega) | (simp; done) | (simp; omega)) (by first | omega | assumption | rfl | exact congrArg i64 (by omega) | (simp; done) | (simp; omega)) (by first | omega | assumption | rfl | exact congrArg i64 (by omega) | (simp; done) | (simp; omega)) (by first | omega | assumption | rfl | exact congrArg i64 (by omega) | (simp; done) | (simp; omega)) (by first | omega | assumption | rfl | exact congrArg i64 (by omega) | (simp; done) | (simp; omega)) (by first | assumption | rfl | (simp (maxSteps := 1000000) (disch := first | assumption | omega | (simp only [World.size_alloc, size_setRow, dw_size]; done) | (simp only [World.size_alloc, size_setRow, dw_size] <;> omega) | (simp only [List.length_set, Array.length_toList, List.length_cons, List.length_nil, List.length_append, bts_size] <;> omega) | (simp only [List.all_cons, List.all_nil, Value.oneCell', Bool.and_self, Bool.and_true]; done)) [-Option.bind_some, hp_alloc_lt, hp_alloc_eq, hp_set_ne, wrap_small, ups_ap_cons, ups_ap_nil, upd_same, upd_other, env0_ap0, env0_aps, xt_a, xt_b, xt_c, nk_ptr, -splice_eq, -stR_cells, stR_box, stR_boxA, stR_row, stR_row0, stR_row1, stR_rowA, stR_rowA0, splice_rowv, splice_rowv0, splice_rowv1, splice_z, splice_n, splice_s, nth_rowv, nth_rowv0, nth_rowv1, rowv_len, e4, e5, e6, E0.blk, hg5, E1.blk, hg7, E2.blk]; done)) (by (repeat (first | exact Ext.rfl | assumption | (refine Ext.al ?_ _) | (refine Ext.dw ?_) | (refine Ext.set ?_ (by first | omega | (simp only [World.size_alloc, size_setRow, dw_size]; omega)) _) | (refine Ext.tr ?_ (by assumption))))) (by simp)
      · refine Ret.mono (l1Num_m (l := y0) (by omega) _) ?_
        rintro _ ⟨m0, rfl, hm0⟩
        simp (maxSteps := 1000000) (disch := first | assumption | omega | (simp only [World.size_alloc, size_setRow, dw_size]; done) | (simp only [World.size_alloc, size_setRow, dw_size] <;> omega) | (simp only [List.length_set, Array.length_toList, List.length_cons, List.length_nil, List.length_append, bts_size] <;> omega) | (simp only [List.all_cons, List.all_nil, Value.oneCell', Bool.and_self, Bool.and_true]; done)) [-Option.bind_some, hp_alloc_lt, hp_alloc_eq, hp_set_ne, wrap_small, ups_ap_cons, ups_ap_nil, upd_same, upd_other, env0_ap0, env0_aps, xt_a, xt_b, xt_c, nk_ptr, -splice_eq, -stR_cells, stR_box, stR_boxA, stR_row, stR_row0, stR_row1, stR_rowA, stR_rowA0, splice_rowv, splice_rowv0, splice_rowv1, splice_z, splice_n, splice_s, nth_rowv, nth_rowv0, nth_rowv1, rowv_len, c0, c2, c02, c22, ia_52, e4, e5, e6, E0.blk, hg5, E1.blk, hg7, E2.blk]
        refine Ret.mono (l1Num_m (l := y2) (by omega) _) ?_
        rintro _ ⟨m2, rfl, hm2⟩
        simp (maxSteps := 1000000) (disch := first | assumption | omega | (simp only [World.size_alloc, size_setRow, dw_size]; done) | (simp only [World.size_alloc, size_setRow, dw_size] <;> omega) | (simp only [List.length_set, Array.length_toList, List.length_cons, List.length_nil, List.length_append, bts_size] <;> omega) | (simp only [List.all_cons, List.all_nil, Value.oneCell', Bool.and_self, Bool.and_true]; done)) [-Option.bind_some, hp_alloc_lt, hp_alloc_eq, hp_set_ne, wrap_small, ups_ap_cons, ups_ap_nil, upd_same, upd_other, env0_ap0, env0_aps, xt_a, xt_b, xt_c, nk_ptr, -splice_eq, -stR_cells, stR_box, stR_boxA, stR_row, stR_row0, stR_row1, stR_rowA, stR_rowA0, splice_rowv, splice_rowv0, splice_rowv1, splice_z, splice_n, splice_s, nth_rowv, nth_rowv0, nth_rowv1, rowv_len, c0, c2, c02, c22, ia_52, e4, e5, e6, E0.blk, hg5, E1.blk, hg7, E2.blk]
        exact fin _ _ m0 m2 hm0 hm2 (by first | omega | assumption | rfl | exact congrArg i64 (by omega) | (simp; done) | (simp; omega)) (by first | omega | assumption | rfl | exact congrArg i64 (by omega) | (simp; done) | (simp; omega)) (by first | omega | assumption | rfl | exact congrArg i64 (by omega) | (simp; done) | (simp; omega)) (by first | omega | assumption | rfl | exact congrArg i64 (by omega) | (simp; done) | (simp; omega)) (by first | omega | assumption | rfl | exact congrArg i64 (by omega) | (simp; done) | (simp; omega)) (by first | assumption | rfl | (simp (maxSteps := 1000000) (disch := first | assumption | omega | (simp only [World.size_alloc, size_setRow, dw_size]; done) | (simp only [World.size_alloc, size_setRow, dw_size] <;> omega) | (simp only [List.length_set, Array.length_toList, List.length_cons, List.length_nil, List.length_append, bts_size] <;> omega) | (simp only [List.all_cons, List.all_nil, Value.oneCell', Bool.and_self, Bool.and_true]; done)) [-Option.bind_some, hp_alloc_lt, hp_alloc_eq, hp_set_ne, wrap_small, ups_ap_cons, ups_ap_nil, upd_same, upd_other, env0_ap0, env0_aps, xt_a, xt_b, xt_c, nk_ptr, -splice_eq, -stR_cells, stR_box, stR_boxA, stR_row, stR_row0, stR_row1, stR_rowA, stR_rowA0, splice_rowv, splice_rowv0, splice_rowv1, splice_z, splice_n, splice_s, nth_rowv, nth_rowv0, nth_rowv1, rowv_len, e4, e5, e6, E0.blk, hg5, E1.blk, hg7, E2.blk]; done)) (by (repeat (first | exact Ext.rfl | assumption | (refine Ext.al ?_ _) | (refine Ext.dw ?_) | (refine Ext.set ?_ (by first | omega | (simp only [World.size_alloc, size_setRow, dw_size]; omega)) _) | (refine Ext.tr ?_ (by assumption))))) (by simp)
    · have h4' : (((cutN 32 4 x).length : Int) != 4) = true := by simpa using (by omega : ((cutN 32 4 x).length : Int) ≠ 4)
      simp (maxSteps := 1000000) (disch := first | assumption | omega | (simp only [World.size_alloc, size_setRow, dw_size]; done) | (simp only [World.size_alloc, size_setRow, dw_size] <;> omega) | (simp only [List.length_set, Array.length_toList, List.length_cons, List.length_nil, List.length_append, bts_size] <;> omega) | (simp only [List.all_cons, List.all_nil, Value.oneCell', Bool.and_self, Bool.and_true]; done)) [-Option.bind_some, hp_alloc_lt, hp_alloc_eq, hp_set_ne, wrap_small, ups_ap_cons, ups_ap_nil, upd_same, upd_other, env0_ap0, env0_aps, xt_a, xt_b, xt_c, nk_ptr, -splice_eq, -stR_cells, stR_box, stR_boxA, stR_row, stR_row0, stR_row1, stR_rowA, stR_rowA0, splice_rowv, splice_rowv0, splice_rowv1, splice_z, splice_n, splice_s, nth_rowv, nth_rowv0, nth_rowv1, rowv_len, h4', e4, e5, e6, E0.blk, hg5, E1.blk]
      exact bad _ (by (repeat (first | exact Ext.rfl | assumption | (refine Ext.al ?_ _) | (refine Ext.dw ?_) | (refine Ext.set ?_ (by first | omega | (simp only [World.size_alloc, size_setRow, dw_size]; omega)) _) | (refine Ext.tr ?_ (by assumption))))) fun ys h1 h2 => by
        obtain ⟨d', h3, h5⟩ := hline ys h1 h2
        exact h4 (by rw [← h5, show (4 : Nat) = 1 + 3 from rfl, line_cutN d' 1]; rfl)
end Go.Proofs.YtkhbpmhagpljiaaDoor.X
set_option linter.unusedVariables false
set_option linter.unusedSimpArgs false
set_option maxRecDepth 100000
set_option maxHeartbeats 1000000
namespace Go.Proofs.YtkhbpmhagpljiaaDoor.X
open Go Go.Ev Go.RowKit
theorem spec_HistGet_m {l : List UInt8} (hl : l.length ≤ 1100000) (w : World) : Ret (EV P 10 #[.string (bts l)] w) fun r => ∃ xs ok a q, r.1 = .tuple #[.slice a xs.length q, .bool ok] ∧ HistGot l xs ok ∧ O tDones (In w.heap.size r.2.heap.size) r.2 [.slice a xs.length q] xs ∧ Ext w r.2 := by
  refine Ret.post fun Q hQ => ?_
  have bad : ∀ w', Ext w w' → (∀ ys, formP ys = true → histL ys ≠ l) → Q (.tuple #[.slice none 0 0, .bool false], w') := fun w' h1 h2 => hQ _ ⟨[], false, none, 0, rfl, ⟨by simp, fun _ => ⟨rfl, h2⟩⟩, O.nil, h1⟩
  refine Ret.enter plain mixed (spec_HistGet_fn _ _) (by kernel_rfl) (n := 1) (by kernel_rfl) rfl ?_
  by_cases hl0 : l = []
  · subst hl0
    simp (maxSteps := 1000000) (disch := first | assumption | omega | (simp only [World.size_alloc, size_setRow, dw_size]; done) | (simp only [World.size_alloc, size_setRow, dw_size] <;> omega) | (simp only [List.length_set, Array.length_toList, List.length_cons, List.length_nil, List.length_append, bts_size] <;> omega) | (simp only [List.all_cons, List.all_nil, Value.oneCell', Bool.and_self, Bool.and_true]; done)) [-Option.bind_some, hp_alloc_lt, hp_alloc_eq, hp_set_ne, wrap_small, ups_ap_cons, ups_ap_nil, upd_same, upd_other, env0_ap0, env0_aps, xt_a, xt_b, xt_c, nk_ptr, -splice_eq, -stR_cells, stR_box, stR_boxA, stR_row, stR_row0, stR_row1, stR_rowA, stR_rowA0, splice_rowv, splice_rowv0, splice_rowv1, splice_z, splice_n, splice_s, nth_rowv, nth_rowv0, nth_rowv1, rowv_len, bts_list]
    exact hQ _ ⟨[], true, some ⟨w.heap.size, 0, none⟩, 0, rfl, ⟨fun _ => ⟨by decide, rfl⟩, by simp⟩, (O.empty (g := w.heap.size) (by first | assumption | rfl | (simp (maxSteps := 1000000) (disch := first | assumption | omega | (simp only [World.size_alloc, size_setRow, dw_size]; done) | (simp only [World.size_alloc, size_setRow, dw_size] <;> omega) | (simp only [List.length_set, Array.length_toList, List.length_cons, List.length_nil, List.length_append, bts_size] <;> omega) | (simp only [List.all_cons, List.all_nil, Value.oneCell', Bool.and_self, Bool.and_true]; done)) [-Option.bind_some, hp_alloc_lt, hp_alloc_eq, hp_set_ne, wrap_small, ups_ap_cons, ups_ap_nil, upd_same, upd_other, env0_ap0, env0_aps, xt_a, xt_b, xt_c, nk_ptr, -splice_eq, -stR_cells, stR_box, stR_boxA, stR_row, stR_row0, stR_row1, stR_rowA, stR_rowA0, splice_rowv, splice_rowv0, splice_rowv1, splice_z, splice_n, splice_s, nth_rowv, nth_rowv0, nth_rowv1, rowv_len]; done))).wide (by intro b hb hl; have : b = w.heap.size := hb; simp only [In, World.size_alloc] at *; omega), by (repeat (first | exact Ext.rfl | assumption | (refine Ext.al ?_ _) | (refine Ext.dw ?_) | (refine Ext.set ?_ (by first | omega | (simp only [World.size_alloc, size_setRow, dw_size]; omega)) _) | (refine Ext.tr ?_ (by assumption))))⟩
  · have hl0' : (l == []) = false := beq_eq_false_iff_ne.2 hl0
    have hem : l.isEmpty = false := by cases l; exact absurd rfl hl0; rfl
    have hpos : 0 < l.length := List.length_pos_iff.2 hl0
    obtain ⟨b, hb, _⟩ := drop_at (l := l) (k := l.length - 1) (by omega)
    have hw1 : IntKind.i64.wrap ((l.length : Int) - 1) = (l.length : Int) - 1 := w64 (by omega) (by omega)
    have hix := fun w => ix_bts (P := P) (t := 9) (by kernel_rfl) l (k := .i64) (i := (l.length : Int) - 1) (by omega) (b := b) (by rw [show ((l.length : Int) - 1).toNat = l.length - 1 by omega]; exact hb) w
    have hlast : l = l.take (l.length - 1) ++ [b] := by
      have h1 := List.take_append_drop (l.length - 1) l
      have h2 : l.drop (l.length - 1) = [b] := by
        obtain ⟨b', h3, h4⟩ := drop_at (l := l) (k := l.length - 1) (by omega)
        rw [h4, List.drop_of_length_le (by omega)]
        rw [hb] at h3
        rw [Option.some.inj h3]
      rw [h2] at h1
      exact h1.symm
    have hys0 : ∀ ys, formP ys = true → histL ys = l → b = 10 ∧ ys.map lineL = splitL 10 (l.take (l.length - 1)) := by
      intro ys h1 h2
      have hne : ys ≠ [] := by
        rintro rfl
        exact hl0 h2.symm
      obtain ⟨s, h3, h4⟩ := hist_split ys hne
      rw [h2] at h3
      have h5 := hlast.symm.trans h3
      have h6 := List.append_inj_right' h5 rfl
      have h7 := List.append_inj_left' h5 rfl
      exact ⟨(List.cons.inj h6).1, by rw [h7, h4]⟩
    by_cases hb10 : b = 10
    · have hb' : ((b.toNat : Int) != 10) = false := by rw [hb10]; rfl
      have hsl := fun w => sl_str_to (P := P) (t := 9) (by kernel_rfl) l (j := (l.length : Int) - 1) (by omega) (by omega) w
      rw [show ((l.length : Int) - 1).toNat = l.length - 1 by omega] at hsl
      obtain ⟨s0, hs0⟩ : ∃ s0, s0 = l.take (l.length - 1) := ⟨_, rfl⟩
      rw [← hs0] at hsl hlast hys0
      have hsl0 : s0.length + 1 = l.length := by rw [hs0, List.length_take]; omega
      simp (maxSteps := 1000000) (disch := first | assumption | omega | (simp only [World.size_alloc, size_setRow, dw_size]; done) | (simp only [World.size_alloc, size_setRow, dw_size] <;> omega) | (simp only [List.length_set, Array.length_toList, List.length_cons, List.length_nil, List.length_append, bts_size] <;> omega) | (simp only [List.all_cons, List.all_nil, Value.oneCell', Bool.and_self, Bool.and_true]; done)) [-Option.bind_some, hp_alloc_lt, hp_alloc_eq, hp_set_ne, wrap_small, ups_ap_cons, ups_ap_nil, upd_same, upd_other, env0_ap0, env0_aps, xt_a, xt_b, xt_c, nk_ptr, -splice_eq, -stR_cells, stR_box, stR_boxA, stR_row, stR_row0, stR_row1, stR_rowA, stR_rowA0, splice_rowv, splice_rowv0, splice_rowv1, splice_z, splice_n, splice_s, nth_rowv, nth_rowv0, nth_rowv1, rowv_len, hl0', hem, bts_list, bts_size, hw1, hix, hb', hsl]
      refine Ret.bind (l1Cut_m (l := s0) (c := 10) (N := l.length) (by omega) (by omega) _) ?_
      rintro ⟨_, w1⟩ ⟨a, q, rfl, o1, E1⟩
      have zE1 := E1.size
      try simp only [World.size_alloc, size_setRow, dw_size] at zE1
      try dsimp only at o1 E1
      have hcut : cutN 10 l.length s0 = splitL 10 s0 := cutN_all 10 _ _ _ (by have := List.count_le_length (a := (10 : UInt8)) (l := s0); omega) (Nat.le_refl _)
      rw [hcut] at o1
      have hlen := splitL_length 10 s0
      have hcl := List.count_le_length (a := (10 : UInt8)) (l := s0)
      obtain ⟨g5, o5, rfl, A5⟩ := o_str o1 (by omega)
      have hsz := splitL_sz 10 s0
      have H : LinesAt l (splitL 10 s0) := ⟨fun x hx => by have := hsz x hx; omega, by omega, fun ys h1 h2 => (hys0 ys h1 h2).2, by rw [joinlines s0 s0.length (Nat.le_refl _), hlast, hb10]⟩
      have zE1 := E1.size
      simp only [World.size_alloc] at zE1
      rw [hcut]
      simp (maxSteps := 1000000) (disch := first | assumption | omega | (simp only [World.size_alloc, size_setRow, dw_size]; done) | (simp only [World.size_alloc, size_setRow, dw_size] <;> omega) | (simp only [List.length_set, Array.length_toList, List.length_cons, List.length_nil, List.length_append, bts_size] <;> omega) | (simp only [List.all_cons, List.all_nil, Value.oneCell', Bool.and_self, Bool.and_true]; done)) [-Option.bind_some, hp_alloc_lt, hp_alloc_eq, hp_set_ne, wrap_small, ups_ap_cons, ups_ap_nil, upd_same, upd_other, env0_ap0, env0_aps, xt_a, xt_b, xt_c, nk_ptr, -splice_eq, -stR_cells, stR_box, stR_boxA, stR_row, stR_row0, stR_row1, stR_rowA, stR_rowA0, splice_rowv, splice_rowv0, splice_rowv1, splice_z, splice_n, splice_s, nth_rowv, nth_rowv0, nth_rowv1, rowv_len, E1.blk]
      have Xo : hp w1 w.heap.size = some (.cells #[] 38 (0, 0)) := (E1.blk (by simp)).trans (by first | assumption | rfl | (simp (maxSteps := 1000000) (disch := first | assumption | omega | (simp only [World.size_alloc, size_setRow, dw_size]; done) | (simp only [World.size_alloc, size_setRow, dw_size] <;> omega) | (simp only [List.length_set, Array.length_toList, List.length_cons, List.length_nil, List.length_append, bts_size] <;> omega) | (simp only [List.all_cons, List.all_nil, Value.oneCell', Bool.and_self, Bool.and_true]; done)) [-Option.bind_some, hp_alloc_lt, hp_alloc_eq, hp_set_ne, wrap_small, ups_ap_cons, ups_ap_nil, upd_same, upd_other, env0_ap0, env0_aps, xt_a, xt_b, xt_c, nk_ptr, -splice_eq, -stR_cells, stR_box, stR_boxA, stR_row, stR_row0, stR_row1, stR_rowA, stR_rowA0, splice_rowv, splice_rowv0, splice_rowv1, splice_z, splice_n, splice_s, nth_rowv, nth_rowv0, nth_rowv1, rowv_len, E1.blk]; done))
      have h5 : g5 ≠ w.heap.size := by
        rintro rfl
        obtain ⟨y, hy, _⟩ := drop_at (l := splitL 10 s0) (k := 0) (by omega)
        have := A5 0 y hy
        rw [Xo] at this
        cases this
      exact Ret.mono (HistGet_l1 (w0 := w) (g5 := g5) (o5 := o5) (q5 := q) H (min (splitL 10 s0).length 81) 0 _ w1 [] (some ⟨w.heap.size, 0, none⟩) 0 (by omega) rfl (by first | omega | assumption | rfl | exact congrArg i64 (by omega) | (simp; done) | (simp; omega)) (by first | omega | assumption | rfl | exact congrArg i64 (by omega) | (simp; done) | (simp; omega)) (by first | omega | assumption | rfl | exact congrArg i64 (by omega) | (simp; done) | (simp; omega)) (by simp) (by simp) ((O.empty (g := w.heap.size) Xo).wide (by intro b hb hl; have h1 : b = w.heap.size := hb; subst h1; exact ⟨⟨Nat.le_refl _, hl⟩, Ne.symm h5⟩)) A5 (by (repeat (first | exact Ext.rfl | assumption | (refine Ext.al ?_ _) | (refine Ext.dw ?_) | (refine Ext.set ?_ (by first | omega | (simp only [World.size_alloc, size_setRow, dw_size]; omega)) _) | (refine Ext.tr ?_ (by assumption)))))) hQ
    · have hb' : ((b.toNat : Int) != 10) = true := by
        have : (b.toNat : Int) ≠ 10 := fun h => hb10 (UInt8.toNat_inj.1 (by show b.toNat = 10; omega))
        simpa using this
      simp (maxSteps := 1000000) (disch := first | assumption | omega | (simp only [World.size_alloc, size_setRow, dw_size]; done) | (simp only [World.size_alloc, size_setRow, dw_size] <;> omega) | (simp only [List.length_set, Array.length_toList, List.length_cons, List.length_nil, List.length_append, bts_size] <;> omega) | (simp only [List.all_cons, List.all_nil, Value.oneCell', Bool.and_self, Bool.and_true]; done)) [-Option.bind_some, hp_alloc_lt, hp_alloc_eq, hp_set_ne, wrap_small, ups_ap_cons, ups_ap_nil, upd_same, upd_other, env0_ap0, env0_aps, xt_a, xt_b, xt_c, nk_ptr, -splice_eq, -stR_cells, stR_box, stR_boxA, stR_row, stR_row0, stR_row1, stR_rowA, stR_rowA0, splice_rowv, splice_rowv0, splice_rowv1, splice_z, splice_n, splice_s, nth_rowv, nth_rowv0, nth_rowv1, rowv_len, hl0', hem, bts_list, bts_size, hw1, hix, hb']
      exact bad _ (by (repeat (first | exact Ext.rfl | assumption | (refine Ext.al ?_ _) | (refine Ext.dw ?_) | (refine Ext.set ?_ (by first | omega | (simp only [World.size_alloc, size_setRow, dw_size]; omega)) _) | (refine Ext.tr ?_ (by assumption))))) fun ys h1 h2 => hb10 (hys0 ys h1 h2).1
theorem laws_FnExactHistGet_c {w : World} (G : GlobE w) {x0 : ByteArray} (hz : x0.size ≤ 140737488351232) : Ret (EV P 4 #[.string x0] w) fun r => r.1 = .bool true ∧ Ext w r.2 := by
  obtain ⟨l, rfl⟩ : ∃ l, x0 = bts l := ⟨_, (bts_of x0).symm⟩
  have hbn := bo_neq_bool (P := P) (t := 4) (by kernel_rfl)
  refine Ret.post fun Q hQ => ?_
  refine Ret.enter plain mixed (laws_FnExactHistGet_fn _ _) (by kernel_rfl) (n := 1) (by kernel_rfl) rfl ?_
  by_cases hlen : (1048576 : Int) < l.length
  · simp (maxSteps := 1000000) (disch := first | assumption | omega | (simp only [World.size_alloc, size_setRow, dw_size]; done) | (simp only [World.size_alloc, size_setRow, dw_size] <;> omega) | (simp only [List.length_set, Array.length_toList, List.length_cons, List.length_nil, List.length_append, bts_size] <;> omega) | (simp only [List.all_cons, List.all_nil, Value.oneCell', Bool.and_self, Bool.and_true]; done)) [-Option.bind_some, hp_alloc_lt, hp_alloc_eq, hp_set_ne, wrap_small, ups_ap_cons, ups_ap_nil, upd_same, upd_other, env0_ap0, env0_aps, xt_a, xt_b, xt_c, nk_ptr, -splice_eq, -stR_cells, stR_box, stR_boxA, stR_row, stR_row0, stR_row1, stR_rowA, stR_rowA0, splice_rowv, splice_rowv0, splice_rowv1, splice_z, splice_n, splice_s, nth_rowv, nth_rowv0, nth_rowv1, rowv_len, bts_size, hlen]
    exact hQ _ ⟨rfl, by (repeat (first | exact Ext.rfl | assumption | (refine Ext.al ?_ _) | (refine Ext.dw ?_) | (refine Ext.set ?_ (by first | omega | (simp only [World.size_alloc, size_setRow, dw_size]; omega)) _) | (refine Ext.tr ?_ (by assumption))))⟩
  simp (maxSteps := 1000000) (disch := first | assumption | omega | (simp only [World.size_alloc, size_setRow, dw_size]; done) | (simp only [World.size_alloc, size_setRow, dw_size] <;> omega) | (simp only [List.length_set, Array.length_toList, List.length_cons, List.length_nil, List.length_append, bts_size] <;> omega) | (simp only [List.all_cons, List.all_nil, Value.oneCell', Bool.and_self, Bool.and_true]; done)) [-Option.bind_some, hp_alloc_lt, hp_alloc_eq, hp_set_ne, wrap_small, ups_ap_cons, ups_ap_nil, upd_same, upd_other, env0_ap0, env0_aps, xt_a, xt_b, xt_c, nk_ptr, -splice_eq, -stR_cells, stR_box, stR_boxA, stR_row, stR_row0, stR_row1, stR_rowA, stR_rowA0, splice_rowv, splice_rowv0, splice_rowv1, splice_z, splice_n, splice_s, nth_rowv, nth_rowv0, nth_rowv1, rowv_len, bts_size, hlen]
  refine Ret.bind (spec_HistGet_m (l := l) (by omega) _) ?_
  rintro ⟨_, w1⟩ ⟨v, ok, a1, c1, rfl, hg1, o1, E1⟩
  try dsimp only at v ok a1 c1 hg1 o1 E1
  have zE1 := E1.size
  try simp only [World.size_alloc, size_setRow, dw_size] at zE1
  have hR : MDone.wtL v ≤ 80 := by rw [MDone_wt]; exact hg1.len
  have hnn := Mk.nxL_le (M := MDone) v 1
  simp (maxSteps := 1000000) (disch := first | assumption | omega | (simp only [World.size_alloc, size_setRow, dw_size]; done) | (simp only [World.size_alloc, size_setRow, dw_size] <;> omega) | (simp only [List.length_set, Array.length_toList, List.length_cons, List.length_nil, List.length_append, bts_size] <;> omega) | (simp only [List.all_cons, List.all_nil, Value.oneCell', Bool.and_self, Bool.and_true]; done)) [-Option.bind_some, hp_alloc_lt, hp_alloc_eq, hp_set_ne, wrap_small, ups_ap_cons, ups_ap_nil, upd_same, upd_other, env0_ap0, env0_aps, xt_a, xt_b, xt_c, nk_ptr, -splice_eq, -stR_cells, stR_box, stR_boxA, stR_row, stR_row0, stR_row1, stR_rowA, stR_rowA0, splice_rowv, splice_rowv0, splice_rowv1, splice_z, splice_n, splice_s, nth_rowv, nth_rowv0, nth_rowv1, rowv_len, xt_a, xt_b, E1.blk]
  refine Ret.bind (impl_HistGet_m (l := l) (by omega) (G.ext (by (repeat (first | exact Ext.rfl | assumption | (refine Ext.al ?_ _) | (refine Ext.dw ?_) | (refine Ext.set ?_ (by first | omega | (simp only [World.size_alloc, size_setRow, dw_size]; omega)) _) | (refine Ext.tr ?_ (by assumption))))))) ?_
  rintro ⟨_, w2⟩ ⟨v2, ok2, a2, c2, rfl, hg2, o2, E2⟩
  try dsimp only at v2 ok2 a2 c2 hg2 o2 E2
  have zE2 := E2.size
  try simp only [World.size_alloc, size_setRow, dw_size] at zE2
  obtain ⟨rfl, rfl⟩ := hg2.eq hg1
  simp (maxSteps := 1000000) (disch := first | assumption | omega | (simp only [World.size_alloc, size_setRow, dw_size]; done) | (simp only [World.size_alloc, size_setRow, dw_size] <;> omega) | (simp only [List.length_set, Array.length_toList, List.length_cons, List.length_nil, List.length_append, bts_size] <;> omega) | (simp only [List.all_cons, List.all_nil, Value.oneCell', Bool.and_self, Bool.and_true]; done)) [-Option.bind_some, hp_alloc_lt, hp_alloc_eq, hp_set_ne, wrap_small, ups_ap_cons, ups_ap_nil, upd_same, upd_other, env0_ap0, env0_aps, xt_a, xt_b, xt_c, nk_ptr, -splice_eq, -stR_cells, stR_box, stR_boxA, stR_row, stR_row0, stR_row1, stR_rowA, stR_rowA0, splice_rowv, splice_rowv0, splice_rowv1, splice_z, splice_n, splice_s, nth_rowv, nth_rowv0, nth_rowv1, rowv_len, xt_a, xt_b, E1.blk, E2.blk]
  refine Ret.bind (laws_eqDoneS_m (o2.keep (by intro b hS hb; (try dsimp only at hS); (try simp only [In, World.size_alloc, size_setRow, dw_size] at hS hb); first | rfl | (simp (disch := first | assumption | omega | (simp only [World.size_alloc, size_setRow, dw_size]; omega) | (simp only [World.size_alloc, size_setRow, dw_size, In]; omega)) only [E1.blk, E2.blk, hp_alloc_lt, hp_set_ne, hp_dw]; done))).d (o1.keep (by intro b hS hb; (try dsimp only at hS); (try simp only [In, World.size_alloc, size_setRow, dw_size] at hS hb); first | rfl | (simp (disch := first | assumption | omega | (simp only [World.size_alloc, size_setRow, dw_size]; omega) | (simp only [World.size_alloc, size_setRow, dw_size, In]; omega)) only [E1.blk, E2.blk, hp_alloc_lt, hp_set_ne, hp_dw]; done))).d) ?_
  rintro ⟨_, w3⟩ ⟨rfl, E3⟩
  try dsimp only at E3
  have zE3 := E3.size
  try simp only [World.size_alloc, size_setRow, dw_size] at zE3
  simp (maxSteps := 1000000) (disch := first | assumption | omega | (simp only [World.size_alloc, size_setRow, dw_size]; done) | (simp only [World.size_alloc, size_setRow, dw_size] <;> omega) | (simp only [List.length_set, Array.length_toList, List.length_cons, List.length_nil, List.length_append, bts_size] <;> omega) | (simp only [List.all_cons, List.all_nil, Value.oneCell', Bool.and_self, Bool.and_true]; done)) [-Option.bind_some, hp_alloc_lt, hp_alloc_eq, hp_set_ne, wrap_small, ups_ap_cons, ups_ap_nil, upd_same, upd_other, env0_ap0, env0_aps, xt_a, xt_b, xt_c, nk_ptr, -splice_eq, -stR_cells, stR_box, stR_boxA, stR_row, stR_row0, stR_row1, stR_rowA, stR_rowA0, splice_rowv, splice_rowv0, splice_rowv1, splice_z, splice_n, splice_s, nth_rowv, nth_rowv0, nth_rowv1, rowv_len, hbn, bne_self_eq_false, E1.blk, E2.blk, E3.blk]
  refine Ret.bind (laws_markDoneS_m (k := 1) (by omega) (by omega) (o2.keep (by intro b hS hb; (try dsimp only at hS); (try simp only [In, World.size_alloc, size_setRow, dw_size] at hS hb); first | rfl | (simp (disch := first | assumption | omega | (simp only [World.size_alloc, size_setRow, dw_size]; omega) | (simp only [World.size_alloc, size_setRow, dw_size, In]; omega)) only [E1.blk, E2.blk, E3.blk, hp_alloc_lt, hp_set_ne, hp_dw]; done)))) ?_
  rintro ⟨_, w4⟩ ⟨rfl, o4, M4⟩
  try dsimp only at o4 M4
  have zM4 := M4.size
  try simp only [World.size_alloc, size_setRow, dw_size] at zM4
  have F4 : Ext w w4 := Mod.after (by (repeat (first | exact Ext.rfl | assumption | (refine Ext.al ?_ _) | (refine Ext.dw ?_) | (refine Ext.set ?_ (by first | omega | (simp only [World.size_alloc, size_setRow, dw_size]; omega)) _) | (refine Ext.tr ?_ (by assumption))))) M4 (by intro x hx h; (try dsimp only at h); (try simp only [In, World.size_alloc, size_setRow, dw_size] at *); omega)
  simp (maxSteps := 1000000) (disch := first | assumption | omega | (simp only [World.size_alloc, size_setRow, dw_size]; done) | (simp only [World.size_alloc, size_setRow, dw_size] <;> omega) | (simp only [List.length_set, Array.length_toList, List.length_cons, List.length_nil, List.length_append, bts_size] <;> omega) | (simp only [List.all_cons, List.all_nil, Value.oneCell', Bool.and_self, Bool.and_true]; done)) [-Option.bind_some, hp_alloc_lt, hp_alloc_eq, hp_set_ne, wrap_small, ups_ap_cons, ups_ap_nil, upd_same, upd_other, env0_ap0, env0_aps, xt_a, xt_b, xt_c, nk_ptr, -splice_eq, -stR_cells, stR_box, stR_boxA, stR_row, stR_row0, stR_row1, stR_rowA, stR_rowA0, splice_rowv, splice_rowv0, splice_rowv1, splice_z, splice_n, splice_s, nth_rowv, nth_rowv0, nth_rowv1, rowv_len, E1.blk, E2.blk, E3.blk, M4.blk]
  refine Ret.bind (laws_heldDoneS_m (k := 1) (by omega) (by omega) (o4.keep (by intro b hS hb; (try dsimp only at hS); (try simp only [In, World.size_alloc, size_setRow, dw_size] at hS hb); first | rfl | (simp (disch := first | assumption | omega | (simp only [World.size_alloc, size_setRow, dw_size]; omega) | (simp only [World.size_alloc, size_setRow, dw_size, In]; omega)) only [E1.blk, E2.blk, E3.blk, M4.blk, hp_alloc_lt, hp_set_ne, hp_dw]; done))).d) ?_
  rintro ⟨_, w5⟩ ⟨rfl, E5⟩
  try dsimp only at E5
  have zE5 := E5.size
  try simp only [World.size_alloc, size_setRow, dw_size] at zE5
  simp (maxSteps := 1000000) (disch := first | assumption | omega | (simp only [World.size_alloc, size_setRow, dw_size]; done) | (simp only [World.size_alloc, size_setRow, dw_size] <;> omega) | (simp only [List.length_set, Array.length_toList, List.length_cons, List.length_nil, List.length_append, bts_size] <;> omega) | (simp only [List.all_cons, List.all_nil, Value.oneCell', Bool.and_self, Bool.and_true]; done)) [-Option.bind_some, hp_alloc_lt, hp_alloc_eq, hp_set_ne, wrap_small, ups_ap_cons, ups_ap_nil, upd_same, upd_other, env0_ap0, env0_aps, xt_a, xt_b, xt_c, nk_ptr, -splice_eq, -stR_cells, stR_box, stR_boxA, stR_row, stR_row0, stR_row1, stR_rowA, stR_rowA0, splice_rowv, splice_rowv0, splice_rowv1, splice_z, splice_n, splice_s, nth_rowv, nth_rowv0, nth_rowv1, rowv_len, show ¬ MDone.nxL 1 v2 < 0 by omega, bne_self_eq_false, E1.blk, E2.blk, E3.blk, M4.blk, E5.blk]
  refine Ret.bind (impl_HistGet_m (l := l) (by omega) (G.ext (by (repeat (first | exact Ext.rfl | assumption | (refine Ext.al ?_ _) | (refine Ext.dw ?_) | (refine Ext.set ?_ (by first | omega | (simp only [World.size_alloc, size_setRow, dw_size]; omega)) _) | (refine Ext.tr ?_ (by assumption))))))) ?_
  rintro ⟨_, w6⟩ ⟨v3, ok3, a6, c6, rfl, hg3, o6, E6⟩
  try dsimp only at v3 ok3 a6 c6 hg3 o6 E6
  have zE6 := E6.size
  try simp only [World.size_alloc, size_setRow, dw_size] at zE6
  obtain ⟨rfl, rfl⟩ := hg3.eq hg1
  simp (maxSteps := 1000000) (disch := first | assumption | omega | (simp only [World.size_alloc, size_setRow, dw_size]; done) | (simp only [World.size_alloc, size_setRow, dw_size] <;> omega) | (simp only [List.length_set, Array.length_toList, List.length_cons, List.length_nil, List.length_append, bts_size] <;> omega) | (simp only [List.all_cons, List.all_nil, Value.oneCell', Bool.and_self, Bool.and_true]; done)) [-Option.bind_some, hp_alloc_lt, hp_alloc_eq, hp_set_ne, wrap_small, ups_ap_cons, ups_ap_nil, upd_same, upd_other, env0_ap0, env0_aps, xt_a, xt_b, xt_c, nk_ptr, -splice_eq, -stR_cells, stR_box, stR_boxA, stR_row, stR_row0, stR_row1, stR_rowA, stR_rowA0, splice_rowv, splice_rowv0, splice_rowv1, splice_z, splice_n, splice_s, nth_rowv, nth_rowv0, nth_rowv1, rowv_len, xt_a, xt_b, E1.blk, E2.blk, E3.blk, M4.blk, E5.blk, E6.blk]
  refine Ret.bind (laws_eqDoneS_m (o6.keep (by intro b hS hb; (try dsimp only at hS); (try simp only [In, World.size_alloc, size_setRow, dw_size] at hS hb); first | rfl | (simp (disch := first | assumption | omega | (simp only [World.size_alloc, size_setRow, dw_size]; omega) | (simp only [World.size_alloc, size_setRow, dw_size, In]; omega)) only [E1.blk, E2.blk, E3.blk, M4.blk, E5.blk, E6.blk, hp_alloc_lt, hp_set_ne, hp_dw]; done))).d (o1.keep (by intro b hS hb; (try dsimp only at hS); (try simp only [In, World.size_alloc, size_setRow, dw_size] at hS hb); first | rfl | (simp (disch := first | assumption | omega | (simp only [World.size_alloc, size_setRow, dw_size]; omega) | (simp only [World.size_alloc, size_setRow, dw_size, In]; omega)) only [E1.blk, E2.blk, E3.blk, M4.blk, E5.blk, E6.blk, hp_alloc_lt, hp_set_ne, hp_dw]; done))).d) ?_
  rintro ⟨_, w7⟩ ⟨rfl, E7⟩
  try dsimp only at E7
  have zE7 := E7.size
  try simp only [World.size_alloc, size_setRow, dw_size] at zE7
  simp (maxSteps := 1000000) (disch := first | assumption | omega | (simp only [World.size_alloc, size_setRow, dw_size]; done) | (simp only [World.size_alloc, size_setRow, dw_size] <;> omega) | (simp only [List.length_set, Array.length_toList, List.length_cons, List.length_nil, List.length_append, bts_size] <;> omega) | (simp only [List.all_cons, List.all_nil, Value.oneCell', Bool.and_self, Bool.and_true]; done)) [-Option.bind_some, hp_alloc_lt, hp_alloc_eq, hp_set_ne, wrap_small, ups_ap_cons, ups_ap_nil, upd_same, upd_other, env0_ap0, env0_aps, xt_a, xt_b, xt_c, nk_ptr, -splice_eq, -stR_cells, stR_box, stR_boxA, stR_row, stR_row0, stR_row1, stR_rowA, stR_rowA0, splice_rowv, splice_rowv0, splice_rowv1, splice_z, splice_n, splice_s, nth_rowv, nth_rowv0, nth_rowv1, rowv_len, hbn, bne_self_eq_false, E1.blk, E2.blk, E3.blk, M4.blk, E5.blk, E6.blk, E7.blk]
  refine Ret.bind (laws_heldDoneS_m (k := 1) (by omega) (by omega) (o4.keep (by intro b hS hb; (try dsimp only at hS); (try simp only [In, World.size_alloc, size_setRow, dw_size] at hS hb); first | rfl | (simp (disch := first | assumption | omega | (simp only [World.size_alloc, size_setRow, dw_size]; omega) | (simp only [World.size_alloc, size_setRow, dw_size, In]; omega)) only [E1.blk, E2.blk, E3.blk, M4.blk, E5.blk, E6.blk, E7.blk, hp_alloc_lt, hp_set_ne, hp_dw]; done))).d) ?_
  rintro ⟨_, w8⟩ ⟨rfl, E8⟩
  try dsimp only at E8
  have zE8 := E8.size
  try simp only [World.size_alloc, size_setRow, dw_size] at zE8
  simp (maxSteps := 1000000) (disch := first | assumption | omega | (simp only [World.size_alloc, size_setRow, dw_size]; done) | (simp only [World.size_alloc, size_setRow, dw_size] <;> omega) | (simp only [List.length_set, Array.length_toList, List.length_cons, List.length_nil, List.length_append, bts_size] <;> omega) | (simp only [List.all_cons, List.all_nil, Value.oneCell', Bool.and_self, Bool.and_true]; done)) [-Option.bind_some, hp_alloc_lt, hp_alloc_eq, hp_set_ne, wrap_small, ups_ap_cons, ups_ap_nil, upd_same, upd_other, env0_ap0, env0_aps, xt_a, xt_b, xt_c, nk_ptr, -splice_eq, -stR_cells, stR_box, stR_boxA, stR_row, stR_row0, stR_row1, stR_rowA, stR_rowA0, splice_rowv, splice_rowv0, splice_rowv1, splice_z, splice_n, splice_s, nth_rowv, nth_rowv0, nth_rowv1, rowv_len, show ¬ MDone.nxL 1 v3 < 0 by omega, bne_self_eq_false, E1.blk, E2.blk, E3.blk, M4.blk, E5.blk, E6.blk, E7.blk, E8.blk]
  exact hQ _ ⟨rfl, by (repeat (first | exact Ext.rfl | assumption | (refine Ext.al ?_ _) | (refine Ext.dw ?_) | (refine Ext.set ?_ (by first | omega | (simp only [World.size_alloc, size_setRow, dw_size]; omega)) _) | (refine Ext.tr ?_ (by assumption))))⟩
end Go.Proofs.YtkhbpmhagpljiaaDoor.X
