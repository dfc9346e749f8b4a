/- A part of the proof: an evaluator of the model, its laws, and contracts of functions; no condition. -/
import Derived.Test.YtcafhepclddcaaaEvHl
import Derived.Test.YtcafhepclddcaaaH32
set_option linter.unusedVariables false
set_option linter.unusedSimpArgs false
set_option maxRecDepth 100000
set_option maxHeartbeats 1000000
namespace Go.Proofs.Ytcafhepclddcaaa.X
open Go Go.Ev Go.RowKit
theorem wtags_eq : ∀ xs : List Done, wtags xs = (xs.filter fun d => d.kind == 1).map (·.tag)
  | [] => rfl
  | d :: l => by
    rw [wtags, List.filter_cons, wtags_eq l]
    split <;> simp
theorem ok_facts {xs : List Done} (h : okP xs = true) : (hgo book0 xs).1.wr = swr xs (hseen book0 xs) ∧ (hseen book0 xs).length = xs.length ∧ (∀ y, isW (hgo book0 xs).1.wr y = decide (y ∈ wtags xs)) ∧ (∀ y, isW (hgo book0 xs).1.wr y = true → 0 < y.t) ∧ (hgo book0 xs).1.wr.length ≤ 80 ∧ ∀ p ∈ (hgo book0 xs).1.wr, p.2.2.2.length = 4 := by
  obtain ⟨hf, hN⟩ := okP_iff.1 h
  have hw := hgo_wr xs book0 book0_ok (formP_all hf).1
  rw [hN, List.take_of_length_le (Nat.le_refl _)] at hw
  have hw' : (hgo book0 xs).1.wr = swr xs (hseen book0 xs) := by simpa [book0] using hw
  have hl : (hseen book0 xs).length = xs.length := by rw [hseen_len, hN]
  have hm := swr_tags xs (hseen book0 xs) hl
  have hi : ∀ y, isW (hgo book0 xs).1.wr y = decide (y ∈ wtags xs) := fun y => by
    rw [wtags_eq, ← hm, hw']
    cases hd : decide (y ∈ (swr xs (hseen book0 xs)).map (·.1)) with
    | true => exact mem_isW (by simpa using hd)
    | false =>
      cases hi : isW (swr xs (hseen book0 xs)) y with
      | false => rfl
      | true => rw [decide_eq_false_iff_not] at hd; exact absurd (isW_mem hi) hd
  refine ⟨hw', hl, hi, fun y hy => ?_, ?_, (hgo_ok xs book0 book0_ok (formP_all hf).1).2.2⟩
  · rw [hi, decide_eq_true_eq, wtags_eq] at hy
    obtain ⟨d, hd, rfl⟩ := List.mem_map.1 hy
    obtain ⟨hd, hk⟩ := List.mem_filter.1 hd
    have := (opOk_iff.1 (List.all_eq_true.1 (formP_all hf).1 d hd)).2.2.2.2
    simp only [beq_iff_eq] at hk
    omega
  · have := swr_len xs (hseen book0 xs)
    have := (formP_all hf).2
    rw [hw']
    omega
section
variable {Q : Value × World → Prop} {w1 : World} {xs : List Done} {a a7 : Option Addr} {c c7 g4 n7 : Nat} {t u : Tag} {wr : Wr} {S7 : Nat → Prop}
/-- What the loop does from here. -/
def ANext (Q : Value × World → Prop) (w1 : World) (xs : List Done) (a a7 : Option Addr) (c c7 n7 g4 : Nat) (t u : Tag) (wr : Wr) (i : Nat) : Prop :=
  ∀ (e : Env) (w : World) (T : List Tag) (a9 : Option Addr) (c9 : Nat), e 0 = .slice a xs.length c → e 4 = pt g4 0 → e 7 = .slice a7 n7 c7 → e 9 = .slice a9 T.length c9 → e 10 = i64 i → O tTags (In w1.heap.size w.heap.size) w [.slice a9 T.length c9] T → Todo wr t u T i → Ext w1 w → Ret (spec_l8Ahead_l1 e w) Q
theorem ahead_in {i : Nat} {x : Tag} (hi : i ≤ 1000) (OUT : ANext Q w1 xs a a7 c c7 n7 g4 t u wr (i + 1)) (HIT : ∀ w, Ext w1 w → Ev.Reach wr u t → Q (.bool true, w)) (X4 : hp w1 g4 = some (.cells #[i64 t.t, i64 t.p] 42 (0, 0)))
    {a3 : Option Addr} {c3 g11 : Nat} (hp4 : (pastW wr x).length = 4) (hD : D tTags S7 w1 [.slice a3 4 c3] (pastW wr x)) (hg11 : w1.heap.size ≤ g11) (hB : (wr.flatMap fun p => p.2.2.2).length ≤ 320) :
    ∀ (d k : Nat) (e : Env) (w : World) (T : List Tag) (a9 : Option Addr) (c9 : Nat) (S9 : Nat → Prop), k + d = 4 → e 0 = .slice a xs.length c → e 4 = pt g4 0 → e 7 = .slice a7 n7 c7 → e 9 = .slice a9 T.length c9 → e 10 = i64 i → e 11 = pt g11 0 → e 12 = .bool true → e 13 = i64 k → hp w g11 = some (.cells #[.slice a3 4 c3] 32 (0, 0)) → O tTags S9 w [.slice a9 T.length c9] T → ¬ S9 g11 → (∀ x, S9 x → w1.heap.size ≤ x) → TodoK wr t u T i k → T[i]? = some x → Ext w1 w →
    Ret (spec_l8Ahead_l2 e w) Q := by
  have y4 := hp_lt X4
  intro d
  induction d with
  | zero =>
    intro k e w T a9 c9 S9 hd e0 e4 e7 e9 e10 e11 e12 e13 X11 ho hS9 hS9b hK hx E1
    have zE1 := E1.size
    try simp only [World.size_alloc, size_setRow, dw_size] at zE1
    rw [spec_l8Ahead_l2_eq]
    obtain rfl : k = 4 := by omega
    simp (maxSteps := 1000000) (disch := first | assumption | omega | (simp only [World.size_alloc, size_setRow, dw_size]; done) | (simp only [World.size_alloc, size_setRow, dw_size] <;> omega) | (simp only [List.length_set, Array.length_toList, List.length_cons, List.length_nil, List.length_append, bts_size] <;> omega) | (simp only [List.all_cons, List.all_nil, Value.oneCell', Bool.and_self, Bool.and_true]; done)) [-Option.bind_some, hp_alloc_lt, hp_alloc_eq, hp_set_ne, wrap_small, ups_ap_cons, ups_ap_nil, upd_same, upd_other, env0_ap0, env0_aps, xt_a, xt_b, xt_c, -splice_eq, -stR_cells, stR_box, stR_boxA, stR_row, stR_row0, stR_row1, stR_rowA, stR_rowA0, splice_rowv, splice_rowv0, splice_rowv1, splice_z, splice_n, splice_s, nth_rowv, nth_rowv0, nth_rowv1, rowv_len, e0, e4, e7, e9, e10, e11, e12, e13, e0, e4, e7, e9, e10, e11, e12, e13, X11, E1.blk]
    exact OUT _ w T a9 c9 (by exact e0) (by exact e4) (by exact e7) (by exact e9) (by exact congrArg i64 (by omega)) (ho.wide fun b hb hl => ⟨hS9b b hb, hl⟩) (hK.end hx (by omega)) E1
  | succ d ih =>
    intro k e w T a9 c9 S9 hd e0 e4 e7 e9 e10 e11 e12 e13 X11 ho hS9 hS9b hK hx E1
    have zE1 := E1.size
    try simp only [World.size_alloc, size_setRow, dw_size] at zE1
    rw [spec_l8Ahead_l2_eq]
    have hk4 : k < 4 := by omega
    have hk40 : (k : Int) < 4 := by omega
    have y11 := hp_lt X11
    obtain ⟨v, hv, _⟩ := drop_at (l := pastW wr x) (k := k) (by omega)
    obtain ⟨b1, o1, cs1, rfl, A1, D1, hS1, l1⟩ := (hD.ext E1).at (by decide) hv
    obtain rfl := D.tag.1 D1
    have p0 := A1 0 _ rfl
    have p1 := A1 1 _ rfl
    simp only [LVer_n, LTag_n, LNode_n, Nat.add_zero] at p0 p1
    have X4' := (E1.blk y4).trans X4
    have zE1' := E1.size
    have hTl := hK.todo.len
    have next : ∀ (e' : Env) (w' : World) (T' : List Tag) (a9 : Option Addr) (c9 : Nat) (S9 : Nat → Prop), e' 0 = .slice a xs.length c → e' 4 = pt g4 0 → e' 7 = .slice a7 n7 c7 → e' 9 = .slice a9 T'.length c9 → e' 10 = i64 i → e' 11 = pt g11 0 → e' 12 = .bool true → e' 13 = i64 k → hp w' g11 = some (.cells #[.slice (some ⟨b1, o1, none⟩) 4 c3] 32 (0, 0)) → O tTags S9 w' [.slice a9 T'.length c9] T' → ¬ S9 g11 → (∀ x, S9 x → w1.heap.size ≤ x) → TodoK wr t u T' i (k + 1) → T'[i]? = some x → Ext w1 w' →
        Ret (spec_l8Ahead_j1 e' w') Q := by
      intro e' w' T' a9 c9 S9 e0 e4 e7 e9 e10 e11 e12 e13 X11 ho h1 h2 h3 h4 h5
      rw [spec_l8Ahead_j1_eq]
      simp (maxSteps := 1000000) (disch := first | assumption | omega | (simp only [World.size_alloc, size_setRow, dw_size]; done) | (simp only [World.size_alloc, size_setRow, dw_size] <;> omega) | (simp only [List.length_set, Array.length_toList, List.length_cons, List.length_nil, List.length_append, bts_size] <;> omega) | (simp only [List.all_cons, List.all_nil, Value.oneCell', Bool.and_self, Bool.and_true]; done)) [-Option.bind_some, hp_alloc_lt, hp_alloc_eq, hp_set_ne, wrap_small, ups_ap_cons, ups_ap_nil, upd_same, upd_other, env0_ap0, env0_aps, xt_a, xt_b, xt_c, -splice_eq, -stR_cells, stR_box, stR_boxA, stR_row, stR_row0, stR_row1, stR_rowA, stR_rowA0, splice_rowv, splice_rowv0, splice_rowv1, splice_z, splice_n, splice_s, nth_rowv, nth_rowv0, nth_rowv1, rowv_len, e0, e4, e7, e9, e10, e11, e12, e13, e0, e4, e7, e9, e10, e11, e12, e13, X11, E1.blk, p0, p1, e0, e4, e7, e9, e10, e11, e12, e13, X11]
      exact ih (k + 1) _ w' T' a9 c9 S9 (by omega) (by exact e0) (by exact e4) (by exact e7) (by exact e9) (by exact e10) (by exact e11) (by exact e12) (by exact congrArg i64 (by omega)) X11 ho h1 h2 h3 h4 h5
    cases heq : ((v.t == t.t) && (v.p == t.p))
    · have hne : v ≠ t := fun e => by subst e; simp at heq
      by_cases hpos : 0 < v.t
      · simp (maxSteps := 1000000) (disch := first | assumption | omega | (simp only [World.size_alloc, size_setRow, dw_size]; done) | (simp only [World.size_alloc, size_setRow, dw_size] <;> omega) | (simp only [List.length_set, Array.length_toList, List.length_cons, List.length_nil, List.length_append, bts_size] <;> omega) | (simp only [List.all_cons, List.all_nil, Value.oneCell', Bool.and_self, Bool.and_true]; done)) [-Option.bind_some, hp_alloc_lt, hp_alloc_eq, hp_set_ne, wrap_small, ups_ap_cons, ups_ap_nil, upd_same, upd_other, env0_ap0, env0_aps, xt_a, xt_b, xt_c, -splice_eq, -stR_cells, stR_box, stR_boxA, stR_row, stR_row0, stR_row1, stR_rowA, stR_rowA0, splice_rowv, splice_rowv0, splice_rowv1, splice_z, splice_n, splice_s, nth_rowv, nth_rowv0, nth_rowv1, rowv_len, e0, e4, e7, e9, e10, e11, e12, e13, hk4, hk40, X11, X4', ia_30, heq, hpos, e0, e4, e7, e9, e10, e11, e12, e13, X11, E1.blk, p0, p1]
        refine Ret.bind (spec_l8In_m (t := v) ((ho.ext (by (repeat (first | exact Ext.rfl | assumption | (refine Ext.al ?_ _) | (refine Ext.dw ?_) | (refine Ext.set ?_ (by first | omega | (simp only [World.size_alloc, size_setRow, dw_size]; omega)) _) | (refine Ext.tr ?_ (by assumption)))))).d)) ?_
        rintro ⟨_, w2⟩ ⟨rfl, E2⟩
        have zE2 := E2.size
        try simp only [World.size_alloc, size_setRow, dw_size] at zE2
        try dsimp only at E2
        have zE2 := E2.size
        simp only [World.size_alloc, size_setRow] at zE2
        have F2 : Ext w w2 := by (repeat (first | exact Ext.rfl | assumption | (refine Ext.al ?_ _) | (refine Ext.dw ?_) | (refine Ext.set ?_ (by first | omega | (simp only [World.size_alloc, size_setRow, dw_size]; omega)) _) | (refine Ext.tr ?_ (by assumption))))
        have Xv : hp w2 w.heap.size = some (.cells #[i64 v.t, i64 v.p] 42 (0, 0)) := (E2.blk (by simp only [World.size_alloc, size_setRow]; omega)).trans (by first | assumption | rfl | (simp (maxSteps := 1000000) (disch := first | assumption | omega | (simp only [World.size_alloc, size_setRow, dw_size]; done) | (simp only [World.size_alloc, size_setRow, dw_size] <;> omega) | (simp only [List.length_set, Array.length_toList, List.length_cons, List.length_nil, List.length_append, bts_size] <;> omega) | (simp only [List.all_cons, List.all_nil, Value.oneCell', Bool.and_self, Bool.and_true]; done)) [-Option.bind_some, hp_alloc_lt, hp_alloc_eq, hp_set_ne, wrap_small, ups_ap_cons, ups_ap_nil, upd_same, upd_other, env0_ap0, env0_aps, xt_a, xt_b, xt_c, -splice_eq, -stR_cells, stR_box, stR_boxA, stR_row, stR_row0, stR_row1, stR_rowA, stR_rowA0, splice_rowv, splice_rowv0, splice_rowv1, splice_z, splice_n, splice_s, nth_rowv, nth_rowv0, nth_rowv1, rowv_len, e0, e4, e7, e9, e10, e11, e12, e13, X11, E1.blk, p0, p1, E2.blk]; done))
        by_cases hin : v ∈ T
        · simp (maxSteps := 1000000) (disch := first | assumption | omega | (simp only [World.size_alloc, size_setRow, dw_size]; done) | (simp only [World.size_alloc, size_setRow, dw_size] <;> omega) | (simp only [List.length_set, Array.length_toList, List.length_cons, List.length_nil, List.length_append, bts_size] <;> omega) | (simp only [List.all_cons, List.all_nil, Value.oneCell', Bool.and_self, Bool.and_true]; done)) [-Option.bind_some, hp_alloc_lt, hp_alloc_eq, hp_set_ne, wrap_small, ups_ap_cons, ups_ap_nil, upd_same, upd_other, env0_ap0, env0_aps, xt_a, xt_b, xt_c, -splice_eq, -stR_cells, stR_box, stR_boxA, stR_row, stR_row0, stR_row1, stR_rowA, stR_rowA0, splice_rowv, splice_rowv0, splice_rowv1, splice_z, splice_n, splice_s, nth_rowv, nth_rowv0, nth_rowv1, rowv_len, hin, e0, e4, e7, e9, e10, e11, e12, e13, X11, E1.blk, p0, p1, E2.blk]
          exact next _ _ T a9 c9 S9 (by exact e0) (by exact e4) (by exact e7) (by exact e9) (by exact e10) (by exact e11) (by exact e12) (by exact e13) ((F2.blk y11).trans X11) (ho.ext F2) hS9 hS9b (hK.skip hx hv hne (fun _ => hin)) hx (E1.tr F2)
        · simp (maxSteps := 1000000) (disch := first | assumption | omega | (simp only [World.size_alloc, size_setRow, dw_size]; done) | (simp only [World.size_alloc, size_setRow, dw_size] <;> omega) | (simp only [List.length_set, Array.length_toList, List.length_cons, List.length_nil, List.length_append, bts_size] <;> omega) | (simp only [List.all_cons, List.all_nil, Value.oneCell', Bool.and_self, Bool.and_true]; done)) [-Option.bind_some, hp_alloc_lt, hp_alloc_eq, hp_set_ne, wrap_small, ups_ap_cons, ups_ap_nil, upd_same, upd_other, env0_ap0, env0_aps, xt_a, xt_b, xt_c, -splice_eq, -stR_cells, stR_box, stR_boxA, stR_row, stR_row0, stR_row1, stR_rowA, stR_rowA0, splice_rowv, splice_rowv0, splice_rowv1, splice_z, splice_n, splice_s, nth_rowv, nth_rowv0, nth_rowv1, rowv_len, hin, Xv, e9, e0, e4, e7, e9, e10, e11, e12, e13, X11, E1.blk, p0, p1, E2.blk]
          refine Ret.bind (O.appD (L := LTag) (mx := 8796093021952) flat_tag el_30 zz_42 rfl (by decide) ((ho.ext F2).ext (Ext.alloc w2 (.cells #[i64 v.t, i64 v.p] 42 (0, 0)))) (lit_tag (t := v) (g := w2.heap.size) (e := 42) (by first | assumption | rfl | (simp (maxSteps := 1000000) (disch := first | assumption | omega | (simp only [World.size_alloc, size_setRow, dw_size]; done) | (simp only [World.size_alloc, size_setRow, dw_size] <;> omega) | (simp only [List.length_set, Array.length_toList, List.length_cons, List.length_nil, List.length_append, bts_size] <;> omega) | (simp only [List.all_cons, List.all_nil, Value.oneCell', Bool.and_self, Bool.and_true]; done)) [-Option.bind_some, hp_alloc_lt, hp_alloc_eq, hp_set_ne, wrap_small, ups_ap_cons, ups_ap_nil, upd_same, upd_other, env0_ap0, env0_aps, xt_a, xt_b, xt_c, -splice_eq, -stR_cells, stR_box, stR_boxA, stR_row, stR_row0, stR_row1, stR_rowA, stR_rowA0, splice_rowv, splice_rowv0, splice_rowv1, splice_z, splice_n, splice_s, nth_rowv, nth_rowv0, nth_rowv1, rowv_len, e0, e4, e7, e9, e10, e11, e12, e13, X11, E1.blk, p0, p1, E2.blk]; done))) (by simp; omega) (by decide) (by decide)) ?_
          rintro ⟨_, w3⟩ ⟨a5, c5, rfl, o3, M3⟩
          have zM3 := M3.size
          try simp only [World.size_alloc, size_setRow, dw_size] at zM3
          try dsimp only at o3 M3
          have zM3 := M3.size
          simp only [World.size_alloc] at zM3 o3
          have F3 : Ext w1 w3 := Mod.after ((E1.tr F2).al (.cells #[i64 v.t, i64 v.p] 42 (0, 0))) M3 (by intro y hy h; have := hS9b y h; omega)
          have Y11 : hp w3 g11 = some (.cells #[.slice (some ⟨b1, o1, none⟩) 4 c3] 32 (0, 0)) := (M3.blk g11 (by simp only [World.size_alloc]; omega) hS9).trans ((hp_alloc_lt (by omega)).trans ((F2.blk y11).trans X11))
          simp (maxSteps := 1000000) (disch := first | assumption | omega | (simp only [World.size_alloc, size_setRow, dw_size]; done) | (simp only [World.size_alloc, size_setRow, dw_size] <;> omega) | (simp only [List.length_set, Array.length_toList, List.length_cons, List.length_nil, List.length_append, bts_size] <;> omega) | (simp only [List.all_cons, List.all_nil, Value.oneCell', Bool.and_self, Bool.and_true]; done)) [-Option.bind_some, hp_alloc_lt, hp_alloc_eq, hp_set_ne, wrap_small, ups_ap_cons, ups_ap_nil, upd_same, upd_other, env0_ap0, env0_aps, xt_a, xt_b, xt_c, -splice_eq, -stR_cells, stR_box, stR_boxA, stR_row, stR_row0, stR_row1, stR_rowA, stR_rowA0, splice_rowv, splice_rowv0, splice_rowv1, splice_z, splice_n, splice_s, nth_rowv, nth_rowv0, nth_rowv1, rowv_len, e0, e4, e7, e9, e10, e11, e12, e13, X11, E1.blk, p0, p1, E2.blk, M3.blk]
          exact next _ _ (T ++ [v]) a5 c5 (fun b => S9 b ∨ (w2.heap.size + 1 ≤ b ∧ b < w3.heap.size)) (by exact e0) (by exact e4) (by exact e7) (by simp; rfl) (by exact e10) (by exact e11) (by exact e12) (by exact e13) Y11 (by simpa using o3) (by rintro (h | h); exact hS9 h; omega) (by rintro y (h | h); exact hS9b y h; omega) (hK.add hx hv hne hin) (get_app hx) F3
      · simp (maxSteps := 1000000) (disch := first | assumption | omega | (simp only [World.size_alloc, size_setRow, dw_size]; done) | (simp only [World.size_alloc, size_setRow, dw_size] <;> omega) | (simp only [List.length_set, Array.length_toList, List.length_cons, List.length_nil, List.length_append, bts_size] <;> omega) | (simp only [List.all_cons, List.all_nil, Value.oneCell', Bool.and_self, Bool.and_true]; done)) [-Option.bind_some, hp_alloc_lt, hp_alloc_eq, hp_set_ne, wrap_small, ups_ap_cons, ups_ap_nil, upd_same, upd_other, env0_ap0, env0_aps, xt_a, xt_b, xt_c, -splice_eq, -stR_cells, stR_box, stR_boxA, stR_row, stR_row0, stR_row1, stR_rowA, stR_rowA0, splice_rowv, splice_rowv0, splice_rowv1, splice_z, splice_n, splice_s, nth_rowv, nth_rowv0, nth_rowv1, rowv_len, e0, e4, e7, e9, e10, e11, e12, e13, hk4, hk40, X11, X4', ia_30, heq, hpos, e0, e4, e7, e9, e10, e11, e12, e13, X11, E1.blk, p0, p1]
        exact next _ _ T a9 c9 S9 (by exact e0) (by exact e4) (by exact e7) (by exact e9) (by exact e10) (by exact e11) (by exact e12) (by exact e13) (by first | assumption | rfl | (simp (maxSteps := 1000000) (disch := first | assumption | omega | (simp only [World.size_alloc, size_setRow, dw_size]; done) | (simp only [World.size_alloc, size_setRow, dw_size] <;> omega) | (simp only [List.length_set, Array.length_toList, List.length_cons, List.length_nil, List.length_append, bts_size] <;> omega) | (simp only [List.all_cons, List.all_nil, Value.oneCell', Bool.and_self, Bool.and_true]; done)) [-Option.bind_some, hp_alloc_lt, hp_alloc_eq, hp_set_ne, wrap_small, ups_ap_cons, ups_ap_nil, upd_same, upd_other, env0_ap0, env0_aps, xt_a, xt_b, xt_c, -splice_eq, -stR_cells, stR_box, stR_boxA, stR_row, stR_row0, stR_row1, stR_rowA, stR_rowA0, splice_rowv, splice_rowv0, splice_rowv1, splice_z, splice_n, splice_s, nth_rowv, nth_rowv0, nth_rowv1, rowv_len, X11, e0, e4, e7, e9, e10, e11, e12, e13, X11, E1.blk, p0, p1]; done)) (ho.ext (by (repeat (first | exact Ext.rfl | assumption | (refine Ext.al ?_ _) | (refine Ext.dw ?_) | (refine Ext.set ?_ (by first | omega | (simp only [World.size_alloc, size_setRow, dw_size]; omega)) _) | (refine Ext.tr ?_ (by assumption)))))) hS9 hS9b (hK.skip hx hv hne (fun h => absurd h hpos)) hx (E1.tr (by (repeat (first | exact Ext.rfl | assumption | (refine Ext.al ?_ _) | (refine Ext.dw ?_) | (refine Ext.set ?_ (by first | omega | (simp only [World.size_alloc, size_setRow, dw_size]; omega)) _) | (refine Ext.tr ?_ (by assumption))))))
    · have he : v = t := by
        simp only [Bool.and_eq_true, beq_iff_eq] at heq
        exact tag_ext heq.1 heq.2
      simp (maxSteps := 1000000) (disch := first | assumption | omega | (simp only [World.size_alloc, size_setRow, dw_size]; done) | (simp only [World.size_alloc, size_setRow, dw_size] <;> omega) | (simp only [List.length_set, Array.length_toList, List.length_cons, List.length_nil, List.length_append, bts_size] <;> omega) | (simp only [List.all_cons, List.all_nil, Value.oneCell', Bool.and_self, Bool.and_true]; done)) [-Option.bind_some, hp_alloc_lt, hp_alloc_eq, hp_set_ne, wrap_small, ups_ap_cons, ups_ap_nil, upd_same, upd_other, env0_ap0, env0_aps, xt_a, xt_b, xt_c, -splice_eq, -stR_cells, stR_box, stR_boxA, stR_row, stR_row0, stR_row1, stR_rowA, stR_rowA0, splice_rowv, splice_rowv0, splice_rowv1, splice_z, splice_n, splice_s, nth_rowv, nth_rowv0, nth_rowv1, rowv_len, e0, e4, e7, e9, e10, e11, e12, e13, hk4, hk40, X11, X4', ia_30, heq, e0, e4, e7, e9, e10, e11, e12, e13, X11, E1.blk, p0, p1]
      exact HIT _ (E1.tr (by (repeat (first | exact Ext.rfl | assumption | (refine Ext.al ?_ _) | (refine Ext.dw ?_) | (refine Ext.set ?_ (by first | omega | (simp only [World.size_alloc, size_setRow, dw_size]; omega)) _) | (refine Ext.tr ?_ (by assumption)))))) (hK.hit hx hv he)
end
end Go.Proofs.Ytcafhepclddcaaa.X
set_option linter.unusedVariables false
set_option linter.unusedSimpArgs false
set_option maxRecDepth 100000
set_option maxHeartbeats 1000000
namespace Go.Proofs.Ytcafhepclddcaaa.X
open Go Go.Ev Go.RowKit
section
variable {Q : Value × World → Prop} {w1 : World} {xs : List Done} {a a7 : Option Addr} {c c7 g4 n7 : Nat} {t u : Tag} {S7 Sx : Nat → Prop}
theorem ahead_out (hok : okP xs = true) (HIT : ∀ w, Ext w1 w → Ev.Reach (hgo book0 xs).1.wr u t → Q (.bool true, w)) (MISS : ∀ w, Ext w1 w → ¬ Ev.Reach (hgo book0 xs).1.wr u t → Q (.bool false, w)) (X4 : hp w1 g4 = some (.cells #[i64 t.t, i64 t.p] 42 (0, 0)))
    (hx1 : D tDones Sx w1 [.slice a xs.length c] xs) (hsn : D tPasts S7 w1 [.slice a7 n7 c7] (hseen book0 xs)) (hS7 : ∀ x, S7 x → x < w1.heap.size) :
    ∀ (d i : Nat), 321 ≤ i + d → i ≤ 400 → ANext Q w1 xs a a7 c c7 n7 g4 t u (hgo book0 xs).1.wr i := by
  obtain ⟨hwr, hl, hiw, hpos, hw80, hp4⟩ := ok_facts hok
  have hB : ((hgo book0 xs).1.wr.flatMap fun p => p.2.2.2).length ≤ 320 := by rw [wr_flat_len hp4]; omega
  have y4 := hp_lt X4
  have hstep : ∀ i, i ≤ 400 → ANext Q w1 xs a a7 c c7 n7 g4 t u (hgo book0 xs).1.wr (i + 1) ∨ 321 ≤ i → ANext Q w1 xs a a7 c c7 n7 g4 t u (hgo book0 xs).1.wr i := by
    intro i hi hnx e w T a9 c9 e0 e4 e7 e9 e10 ho hT E1
    have zE1 := E1.size
    try simp only [World.size_alloc, size_setRow, dw_size] at zE1
    have zE1' := E1.size
    have hTl := hT.len
    rw [spec_l8Ahead_l1_eq]
    by_cases hlt : i < T.length
    · have OUT : ANext Q w1 xs a a7 c c7 n7 g4 t u (hgo book0 xs).1.wr (i + 1) := by
        rcases hnx with h | h
        · exact h
        · omega
      obtain ⟨x, hx, _⟩ := drop_at hlt
      obtain ⟨b1, o1, cs1, rfl, A1, D1, hS1, l1⟩ := ho.d.at (by decide) hx
      obtain rfl := D.tag.1 D1
      have p0 := A1 0 _ rfl
      have p1 := A1 1 _ rfl
      simp only [LVer_n, LTag_n, LNode_n, Nat.add_zero] at p0 p1
      simp (maxSteps := 1000000) (disch := first | assumption | omega | (simp only [World.size_alloc, size_setRow, dw_size]; done) | (simp only [World.size_alloc, size_setRow, dw_size] <;> omega) | (simp only [List.length_set, Array.length_toList, List.length_cons, List.length_nil, List.length_append, bts_size] <;> omega) | (simp only [List.all_cons, List.all_nil, Value.oneCell', Bool.and_self, Bool.and_true]; done)) [-Option.bind_some, hp_alloc_lt, hp_alloc_eq, hp_set_ne, wrap_small, ups_ap_cons, ups_ap_nil, upd_same, upd_other, env0_ap0, env0_aps, xt_a, xt_b, xt_c, -splice_eq, -stR_cells, stR_box, stR_boxA, stR_row, stR_row0, stR_row1, stR_rowA, stR_rowA0, splice_rowv, splice_rowv0, splice_rowv1, splice_z, splice_n, splice_s, nth_rowv, nth_rowv0, nth_rowv1, rowv_len, e0, e4, e7, e9, e10, hlt, ia_30, e0, e4, e7, e9, e10, E1.blk, p0, p1]
      refine Ret.bind (spec_l6Wrote_m (t := x) (xs := xs) hl (fun y hy => Nat.lt_of_lt_of_le (hS7 y hy) E1.size) (hx1.ext E1) (hsn.ext E1)) ?_
      rintro ⟨_, w2⟩ ⟨h, E2⟩
      have zE2 := E2.size
      try simp only [World.size_alloc, size_setRow, dw_size] at zE2
      dsimp only at E2
      have zE2 := E2.size
      have hrel := swr_find xs (hseen book0 xs) x hl
      rw [← hwr] at hrel
      rcases h with ⟨h1, rfl⟩ | ⟨p, a3, c3, h1, h2, rfl, h4⟩
      · have hw : isW (hgo book0 xs).1.wr x = false := by
          rcases hrel with ⟨k1, _, _⟩ | ⟨_, _, _, _, k3⟩
          · unfold isW; rw [k1]; rfl
          · rw [h1] at k3; cases k3
        simp (maxSteps := 1000000) (disch := first | assumption | omega | (simp only [World.size_alloc, size_setRow, dw_size]; done) | (simp only [World.size_alloc, size_setRow, dw_size] <;> omega) | (simp only [List.length_set, Array.length_toList, List.length_cons, List.length_nil, List.length_append, bts_size] <;> omega) | (simp only [List.all_cons, List.all_nil, Value.oneCell', Bool.and_self, Bool.and_true]; done)) [-Option.bind_some, hp_alloc_lt, hp_alloc_eq, hp_set_ne, wrap_small, ups_ap_cons, ups_ap_nil, upd_same, upd_other, env0_ap0, env0_aps, xt_a, xt_b, xt_c, -splice_eq, -stR_cells, stR_box, stR_boxA, stR_row, stR_row0, stR_row1, stR_rowA, stR_rowA0, splice_rowv, splice_rowv0, splice_rowv1, splice_z, splice_n, splice_s, nth_rowv, nth_rowv0, nth_rowv1, rowv_len, e0, e4, e7, e9, e10, E1.blk, p0, p1, E2.blk]
        rw [spec_l8Ahead_l2_eq]
        simp (maxSteps := 1000000) (disch := first | assumption | omega | (simp only [World.size_alloc, size_setRow, dw_size]; done) | (simp only [World.size_alloc, size_setRow, dw_size] <;> omega) | (simp only [List.length_set, Array.length_toList, List.length_cons, List.length_nil, List.length_append, bts_size] <;> omega) | (simp only [List.all_cons, List.all_nil, Value.oneCell', Bool.and_self, Bool.and_true]; done)) [-Option.bind_some, hp_alloc_lt, hp_alloc_eq, hp_set_ne, wrap_small, ups_ap_cons, ups_ap_nil, upd_same, upd_other, env0_ap0, env0_aps, xt_a, xt_b, xt_c, -splice_eq, -stR_cells, stR_box, stR_boxA, stR_row, stR_row0, stR_row1, stR_rowA, stR_rowA0, splice_rowv, splice_rowv0, splice_rowv1, splice_z, splice_n, splice_s, nth_rowv, nth_rowv0, nth_rowv1, rowv_len, e0, e4, e7, e9, e10, e0, e4, e7, e9, e10, E1.blk, p0, p1, E2.blk]
        have F2 : Ext w1 ((w2.alloc (.cells #[.slice none 0 0] 32 (0, 0))).setRow w2.heap.size #[.slice none 0 0]) := by (repeat (first | exact Ext.rfl | assumption | (refine Ext.al ?_ _) | (refine Ext.dw ?_) | (refine Ext.set ?_ (by first | omega | (simp only [World.size_alloc, size_setRow, dw_size]; omega)) _) | (refine Ext.tr ?_ (by assumption))))
        exact OUT _ _ T (some ⟨b1, o1, none⟩) c9 (by exact e0) (by exact e4) (by exact e7) (by exact e9) (by exact congrArg i64 (by omega)) ((ho.ext (by (repeat (first | exact Ext.rfl | assumption | (refine Ext.al ?_ _) | (refine Ext.dw ?_) | (refine Ext.set ?_ (by first | omega | (simp only [World.size_alloc, size_setRow, dw_size]; omega)) _) | (refine Ext.tr ?_ (by assumption)))))).wide (fun b hb hl => by simp only [In] at *; omega)) (hT.inner.end hx (by rw [pastW_none hw]; simp)) F2
      · obtain ⟨d', q, k1, k2, k3⟩ : ∃ d' q, wfind (hgo book0 xs).1.wr x = some (d'.sess, d'.key, q) ∧ dfind xs x = some d' ∧ sfind xs (hseen book0 xs) x = some q := by
          rcases hrel with ⟨_, _, k3⟩ | h
          · rw [h1] at k3; cases k3
          · exact h
        obtain rfl : p = q := by rw [h1] at k3; exact Option.some.inj k3
        have hpw : pastW (hgo book0 xs).1.wr x = p := by unfold pastW; rw [k1]
        have hpl : p.length = 4 := hp4 _ (wfind_mem k1)
        have hDp : D tTags S7 w1 [.slice a3 4 c3] (pastW (hgo book0 xs).1.wr x) := by
          rw [hpw, ← hpl]
          exact h4.keep fun b hb hlb => ((E1.tr E2).blk (hS7 b hb)).symm
        rw [hpl]
        simp (maxSteps := 1000000) (disch := first | assumption | omega | (simp only [World.size_alloc, size_setRow, dw_size]; done) | (simp only [World.size_alloc, size_setRow, dw_size] <;> omega) | (simp only [List.length_set, Array.length_toList, List.length_cons, List.length_nil, List.length_append, bts_size] <;> omega) | (simp only [List.all_cons, List.all_nil, Value.oneCell', Bool.and_self, Bool.and_true]; done)) [-Option.bind_some, hp_alloc_lt, hp_alloc_eq, hp_set_ne, wrap_small, ups_ap_cons, ups_ap_nil, upd_same, upd_other, env0_ap0, env0_aps, xt_a, xt_b, xt_c, -splice_eq, -stR_cells, stR_box, stR_boxA, stR_row, stR_row0, stR_row1, stR_rowA, stR_rowA0, splice_rowv, splice_rowv0, splice_rowv1, splice_z, splice_n, splice_s, nth_rowv, nth_rowv0, nth_rowv1, rowv_len, e0, e4, e7, e9, e10, E1.blk, p0, p1, E2.blk]
        exact ahead_in (by omega) OUT HIT X4 (g11 := w2.heap.size) (a3 := a3) (c3 := c3) (by rw [hpw]; exact hpl) hDp (by omega) hB 4 0 _ _ T (some ⟨b1, o1, none⟩) c9 (In w1.heap.size w.heap.size) (by omega) (by exact e0) (by exact e4) (by exact e7) (by exact e9) (by exact e10) (by exact rfl) (by exact rfl) (by exact rfl) (by first | assumption | rfl | (simp (maxSteps := 1000000) (disch := first | assumption | omega | (simp only [World.size_alloc, size_setRow, dw_size]; done) | (simp only [World.size_alloc, size_setRow, dw_size] <;> omega) | (simp only [List.length_set, Array.length_toList, List.length_cons, List.length_nil, List.length_append, bts_size] <;> omega) | (simp only [List.all_cons, List.all_nil, Value.oneCell', Bool.and_self, Bool.and_true]; done)) [-Option.bind_some, hp_alloc_lt, hp_alloc_eq, hp_set_ne, wrap_small, ups_ap_cons, ups_ap_nil, upd_same, upd_other, env0_ap0, env0_aps, xt_a, xt_b, xt_c, -splice_eq, -stR_cells, stR_box, stR_boxA, stR_row, stR_row0, stR_row1, stR_rowA, stR_rowA0, splice_rowv, splice_rowv0, splice_rowv1, splice_z, splice_n, splice_s, nth_rowv, nth_rowv0, nth_rowv1, rowv_len, e0, e4, e7, e9, e10, E1.blk, p0, p1, E2.blk]; done)) (ho.ext (by (repeat (first | exact Ext.rfl | assumption | (refine Ext.al ?_ _) | (refine Ext.dw ?_) | (refine Ext.set ?_ (by first | omega | (simp only [World.size_alloc, size_setRow, dw_size]; omega)) _) | (refine Ext.tr ?_ (by assumption)))))) (by simp only [In]; omega) (fun y h => h.1) hT.inner hx (by (repeat (first | exact Ext.rfl | assumption | (refine Ext.al ?_ _) | (refine Ext.dw ?_) | (refine Ext.set ?_ (by first | omega | (simp only [World.size_alloc, size_setRow, dw_size]; omega)) _) | (refine Ext.tr ?_ (by assumption)))))
    · simp (maxSteps := 1000000) (disch := first | assumption | omega | (simp only [World.size_alloc, size_setRow, dw_size]; done) | (simp only [World.size_alloc, size_setRow, dw_size] <;> omega) | (simp only [List.length_set, Array.length_toList, List.length_cons, List.length_nil, List.length_append, bts_size] <;> omega) | (simp only [List.all_cons, List.all_nil, Value.oneCell', Bool.and_self, Bool.and_true]; done)) [-Option.bind_some, hp_alloc_lt, hp_alloc_eq, hp_set_ne, wrap_small, ups_ap_cons, ups_ap_nil, upd_same, upd_other, env0_ap0, env0_aps, xt_a, xt_b, xt_c, -splice_eq, -stR_cells, stR_box, stR_boxA, stR_row, stR_row0, stR_row1, stR_rowA, stR_rowA0, splice_rowv, splice_rowv0, splice_rowv1, splice_z, splice_n, splice_s, nth_rowv, nth_rowv0, nth_rowv1, rowv_len, e0, e4, e7, e9, e10, hlt, e0, e4, e7, e9, e10, E1.blk]
      exact MISS _ E1 (hT.none (by omega) hpos)
  intro d
  induction d with
  | zero =>
    intro i h1 h2
    exact hstep i h2 (.inr (by omega))
  | succ d ih =>
    intro i h1 h2
    by_cases h : 321 ≤ i
    · exact hstep i h2 (.inr h)
    · exact hstep i h2 (.inl (ih (i + 1) (by omega) (by omega)))
end
theorem lit_tagO {t : Tag} {g : Nat} {w : World} (h : hp w g = some (.cells #[i64 t.t, i64 t.p] 42 (0, 0))) : O tTags (fun b => b = g) w [.slice (some ⟨g, 0, none⟩) 1 1] [t] := by
  have hO : Own w 0 42 LTag.n (.slice (some ⟨g, 0, none⟩) 1 1) ([t] : List Tag).length ([tagC t] : List (List Value)).flatten :=
    ⟨by rfl, by simp, .inr ⟨g, 1, #[i64 t.t, i64 t.p], rfl, Nat.zero_le _, h, by simp, by omega, by simp [LTag_n], by simp [LTag_n]⟩⟩
  have he : Els LTag (fun _ => False) w [tagC t] [t] := by
    obtain ⟨bs, h1, h2, h3⟩ := (O.tag.2 rfl : O LTag (fun _ => False) w (tagC t) t)
    exact ⟨[bs], ⟨h1, trivial⟩, by simpa using h2, by simpa using h3⟩
  exact (O.mk (mx := 8796093021952) (S1 := fun _ => False) hO he (fun _ _ h => h) (by simp)).wide fun b hb _ => by
    rcases hb with h | h
    · exact h.elim
    · simpa [blkOf] using h
open Classical in
theorem spec_l8Ahead_m {a : Option Addr} {n c : Nat} {Sx : Nat → Prop} {xs : List Done} {t u : Tag} {w : World} (ha : D tDones Sx w [.slice a n c] xs) (hc : n ≤ c) (hok : okP xs = true) :
    Ret (EV P 65 #[.slice a n c, .agg #[i64 t.t, i64 t.p], .agg #[i64 u.t, i64 u.p]] w) fun r => r.1 = .bool (decide (Ev.Reach (hgo book0 xs).1.wr u t)) ∧ Ext w r.2 := by
  obtain ⟨rfl, hm, _⟩ := ha.n
  obtain ⟨hf, hN⟩ := okP_iff.1 hok
  refine Ret.post fun Q hQ => ?_
  refine Ret.enter plain mixed (spec_l8Ahead_fn _ _ _ _) (by kernel_rfl) (n := 3) (by kernel_rfl) rfl ?_
  simp (maxSteps := 1000000) (disch := first | assumption | omega | (simp only [World.size_alloc, size_setRow, dw_size]; done) | (simp only [World.size_alloc, size_setRow, dw_size] <;> omega) | (simp only [List.length_set, Array.length_toList, List.length_cons, List.length_nil, List.length_append, bts_size] <;> omega) | (simp only [List.all_cons, List.all_nil, Value.oneCell', Bool.and_self, Bool.and_true]; done)) [-Option.bind_some, hp_alloc_lt, hp_alloc_eq, hp_set_ne, wrap_small, ups_ap_cons, ups_ap_nil, upd_same, upd_other, env0_ap0, env0_aps, xt_a, xt_b, xt_c, -splice_eq, -stR_cells, stR_box, stR_boxA, stR_row, stR_row0, stR_row1, stR_rowA, stR_rowA0, splice_rowv, splice_rowv0, splice_rowv1, splice_z, splice_n, splice_s, nth_rowv, nth_rowv0, nth_rowv1, rowv_len]
  refine Ret.bind (spec_l6Walk_m (ha.ext (by (repeat (first | exact Ext.rfl | assumption | (refine Ext.al ?_ _) | (refine Ext.dw ?_) | (refine Ext.set ?_ (by first | omega | (simp only [World.size_alloc, size_setRow, dw_size]; omega)) _) | (refine Ext.tr ?_ (by assumption)))))) hc hf) ?_
  rintro ⟨_, w1⟩ ⟨a5, c5, S, rfl, h3, h4, E1⟩
  try dsimp only at a5 c5 S h3 h4 E1
  have zE1 := E1.size
  try simp only [World.size_alloc, size_setRow, dw_size] at zE1
  have X4 : hp w1 w.heap.size = some (.cells #[i64 t.t, i64 t.p] 42 (0, 0)) := (E1.blk (by simp; omega)).trans (by first | assumption | rfl | (simp (maxSteps := 1000000) (disch := first | assumption | omega | (simp only [World.size_alloc, size_setRow, dw_size]; done) | (simp only [World.size_alloc, size_setRow, dw_size] <;> omega) | (simp only [List.length_set, Array.length_toList, List.length_cons, List.length_nil, List.length_append, bts_size] <;> omega) | (simp only [List.all_cons, List.all_nil, Value.oneCell', Bool.and_self, Bool.and_true]; done)) [-Option.bind_some, hp_alloc_lt, hp_alloc_eq, hp_set_ne, wrap_small, ups_ap_cons, ups_ap_nil, upd_same, upd_other, env0_ap0, env0_aps, xt_a, xt_b, xt_c, -splice_eq, -stR_cells, stR_box, stR_boxA, stR_row, stR_row0, stR_row1, stR_rowA, stR_rowA0, splice_rowv, splice_rowv0, splice_rowv1, splice_z, splice_n, splice_s, nth_rowv, nth_rowv0, nth_rowv1, rowv_len, E1.blk]; done))
  have X5 : hp w1 (w.heap.size + 1) = some (.cells #[i64 u.t, i64 u.p] 42 (0, 0)) := (E1.blk (by simp)).trans (by first | assumption | rfl | (simp (maxSteps := 1000000) (disch := first | assumption | omega | (simp only [World.size_alloc, size_setRow, dw_size]; done) | (simp only [World.size_alloc, size_setRow, dw_size] <;> omega) | (simp only [List.length_set, Array.length_toList, List.length_cons, List.length_nil, List.length_append, bts_size] <;> omega) | (simp only [List.all_cons, List.all_nil, Value.oneCell', Bool.and_self, Bool.and_true]; done)) [-Option.bind_some, hp_alloc_lt, hp_alloc_eq, hp_set_ne, wrap_small, ups_ap_cons, ups_ap_nil, upd_same, upd_other, env0_ap0, env0_aps, xt_a, xt_b, xt_c, -splice_eq, -stR_cells, stR_box, stR_boxA, stR_row, stR_row0, stR_row1, stR_rowA, stR_rowA0, splice_rowv, splice_rowv0, splice_rowv1, splice_z, splice_n, splice_s, nth_rowv, nth_rowv0, nth_rowv1, rowv_len, E1.blk, X4]; done))
  have F1 : Ext w w1 := by (repeat (first | exact Ext.rfl | assumption | (refine Ext.al ?_ _) | (refine Ext.dw ?_) | (refine Ext.set ?_ (by first | omega | (simp only [World.size_alloc, size_setRow, dw_size]; omega)) _) | (refine Ext.tr ?_ (by assumption))))
  simp (maxSteps := 1000000) (disch := first | assumption | omega | (simp only [World.size_alloc, size_setRow, dw_size]; done) | (simp only [World.size_alloc, size_setRow, dw_size] <;> omega) | (simp only [List.length_set, Array.length_toList, List.length_cons, List.length_nil, List.length_append, bts_size] <;> omega) | (simp only [List.all_cons, List.all_nil, Value.oneCell', Bool.and_self, Bool.and_true]; done)) [-Option.bind_some, hp_alloc_lt, hp_alloc_eq, hp_set_ne, wrap_small, ups_ap_cons, ups_ap_nil, upd_same, upd_other, env0_ap0, env0_aps, xt_a, xt_b, xt_c, -splice_eq, -stR_cells, stR_box, stR_boxA, stR_row, stR_row0, stR_row1, stR_rowA, stR_rowA0, splice_rowv, splice_rowv0, splice_rowv1, splice_z, splice_n, splice_s, nth_rowv, nth_rowv0, nth_rowv1, rowv_len, X5, E1.blk, X4, X5]
  refine ahead_out (w1 := w1) (g4 := w.heap.size) (t := t) (u := u) hok (fun w' E hr => hQ _ ⟨by simp [hr], F1.tr E⟩) (fun w' E hr => hQ _ ⟨by simp [hr], F1.tr E⟩) X4 (ha.ext F1) h3 (fun x hx => (h4 x hx).2) 321 0 (by omega) (by omega) _ _ [u] (some ⟨w1.heap.size, 0, none⟩) 1 (by exact rfl) (by exact rfl) (by exact rfl) (by exact rfl) (by exact rfl) ((lit_tagO (t := u) (g := w1.heap.size) (by first | assumption | rfl | (simp (maxSteps := 1000000) (disch := first | assumption | omega | (simp only [World.size_alloc, size_setRow, dw_size]; done) | (simp only [World.size_alloc, size_setRow, dw_size] <;> omega) | (simp only [List.length_set, Array.length_toList, List.length_cons, List.length_nil, List.length_append, bts_size] <;> omega) | (simp only [List.all_cons, List.all_nil, Value.oneCell', Bool.and_self, Bool.and_true]; done)) [-Option.bind_some, hp_alloc_lt, hp_alloc_eq, hp_set_ne, wrap_small, ups_ap_cons, ups_ap_nil, upd_same, upd_other, env0_ap0, env0_aps, xt_a, xt_b, xt_c, -splice_eq, -stR_cells, stR_box, stR_boxA, stR_row, stR_row0, stR_row1, stR_rowA, stR_rowA0, splice_rowv, splice_rowv0, splice_rowv1, splice_z, splice_n, splice_s, nth_rowv, nth_rowv0, nth_rowv1, rowv_len, E1.blk, X4, X5]; done))).wide (fun b hb hl => by have : b = w1.heap.size := hb; simp only [In, World.size_alloc] at *; omega)) Todo.start (by (repeat (first | exact Ext.rfl | assumption | (refine Ext.al ?_ _) | (refine Ext.dw ?_) | (refine Ext.set ?_ (by first | omega | (simp only [World.size_alloc, size_setRow, dw_size]; omega)) _) | (refine Ext.tr ?_ (by assumption)))))
end Go.Proofs.Ytcafhepclddcaaa.X
