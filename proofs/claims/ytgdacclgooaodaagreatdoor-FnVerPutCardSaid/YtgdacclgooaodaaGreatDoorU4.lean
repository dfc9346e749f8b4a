/- A part of the proof: an evaluator of the model, its laws, and contracts of functions; no condition. -/
import Derived.Test.YtgdacclgooaodaaGreatDoorEvLz
import Derived.Test.YtgdacclgooaodaaGreatDoorT14
set_option linter.unusedVariables false
set_option linter.unusedSimpArgs false
set_option maxRecDepth 100000
set_option maxHeartbeats 1000000
namespace Go.Proofs.YtgdacclgooaodaaGreatDoor.X
open Go Go.Ev Go.RowKit
abbrev BldS := Bld 104 5
theorem copyCheck_m {b : Nat} {p s : Value} {w : World} (h : hp w b = some (.cells #[p, s] 104 (0, 0))) (hpp : p = .pointer none ∨ p = pt b 0) :
    Ret (EV P 108 #[pt b 0] w) fun r => r.1 = .tuple #[] ∧ hp r.2 b = some (.cells #[pt b 0, s] 104 (0, 0)) ∧ Mod (fun x => x = b) w r.2 := by
  have hlt := hp_lt h
  have hne : ∀ w, xf P 123 #[pt b 0] w = some (pt b 0, w) := by
    intro w
    unfold xf
    rw [run_callFunc_extern (P := P) Tryz.func123 (by kernel_rfl) (by kernel_rfl) (by kernel_rfl) (e := Extern.AbiNoEscape.same) (by kernel_rfl), Lib.run_noEscape]
    rfl
  have c1 := cv_tou (P := P) (src := 102) (dst := 134) (t := 104) (n := 2) Tryz.underlying102 Tryz.underlying134 (by kernel_rfl) (by decide) h (o := 0) (by simp)
  have c2 := cv_fromu (P := P) (src := 134) (dst := 102) (u := 104) (n := 2) (m := 2) Tryz.underlying134 Tryz.underlying102 (by kernel_rfl) h (o := 0) rfl (by kernel_rfl)
  have hq := bo_eql_ptn (P := P) (t := 102) (te := 104) Tryz.underlying102
  have hn := bo_neq_pts (P := P) (t := 102) (te := 104) (n := 2) Tryz.underlying102 (by kernel_rfl)
  refine Ret.post fun Q hQ => ?_
  refine Ret.enter plain mixed (strings_Builder_copyCheck_fn _ _) (by kernel_rfl) (n := 1) (by kernel_rfl) rfl ?_
  rcases hpp with rfl | rfl
  · simp (maxSteps := 1000000) (disch := first | assumption | omega | (simp only [World.size_alloc, size_setRow, dw_size]; done) | (simp only [World.size_alloc, size_setRow, dw_size] <;> omega) | (simp only [List.length_set, Array.length_toList, List.length_cons, List.length_nil, List.length_append, bts_size] <;> omega) | (simp only [List.all_cons, List.all_nil, Value.oneCell', Bool.and_self, Bool.and_true]; done)) [-Option.bind_some, hp_alloc_lt, hp_alloc_eq, hp_set_ne, wrap_small, ups_ap_cons, ups_ap_nil, upd_same, upd_other, env0_ap0, env0_aps, xt_a, xt_b, xt_c, nk_ptr, -splice_eq, -stR_cells, stR_box, stR_boxA, stR_row, stR_row0, stR_row1, stR_rowA, stR_rowA0, splice_rowv, splice_rowv0, splice_rowv1, splice_z, splice_n, splice_s, nth_rowv, nth_rowv0, nth_rowv1, rowv_len, h, hq, c1, hne, c2, hlt]
    exact hQ _ ⟨rfl, by simp (maxSteps := 1000000) (disch := first | assumption | omega | (simp only [World.size_alloc, size_setRow, dw_size]; done) | (simp only [World.size_alloc, size_setRow, dw_size] <;> omega) | (simp only [List.length_set, Array.length_toList, List.length_cons, List.length_nil, List.length_append, bts_size] <;> omega) | (simp only [List.all_cons, List.all_nil, Value.oneCell', Bool.and_self, Bool.and_true]; done)) [-Option.bind_some, hp_alloc_lt, hp_alloc_eq, hp_set_ne, wrap_small, ups_ap_cons, ups_ap_nil, upd_same, upd_other, env0_ap0, env0_aps, xt_a, xt_b, xt_c, nk_ptr, h, hlt], by (repeat (first | exact Mod.rfl | assumption | (refine Mod.al ?_ _) | (refine Mod.dw' ?_) | (refine Mod.set' ?_ (by first | (left; omega) | (left; simp only [World.size_alloc, size_setRow, dw_size]; omega) | (right; assumption) | (right; simp; done)) _) | (refine Mod.ex ?_ (by assumption))))⟩
  · simp (maxSteps := 1000000) (disch := first | assumption | omega | (simp only [World.size_alloc, size_setRow, dw_size]; done) | (simp only [World.size_alloc, size_setRow, dw_size] <;> omega) | (simp only [List.length_set, Array.length_toList, List.length_cons, List.length_nil, List.length_append, bts_size] <;> omega) | (simp only [List.all_cons, List.all_nil, Value.oneCell', Bool.and_self, Bool.and_true]; done)) [-Option.bind_some, hp_alloc_lt, hp_alloc_eq, hp_set_ne, wrap_small, ups_ap_cons, ups_ap_nil, upd_same, upd_other, env0_ap0, env0_aps, xt_a, xt_b, xt_c, nk_ptr, -splice_eq, -stR_cells, stR_box, stR_boxA, stR_row, stR_row0, stR_row1, stR_rowA, stR_rowA0, splice_rowv, splice_rowv0, splice_rowv1, splice_z, splice_n, splice_s, nth_rowv, nth_rowv0, nth_rowv1, rowv_len, h, hq, hn, hlt]
    exact hQ _ ⟨rfl, h, Mod.rfl⟩
theorem writeString_m {B b : Nat} {l m : List UInt8} {w : World} (h : BldS B w b l) (hl : l.length + m.length ≤ 140737488355328) (hB : B ≤ w.heap.size) :
    Ret (EV P 92 #[pt b 0, .string (bts m)] w) fun r => r.1 = .tuple #[i64 m.length, .nilIface] ∧ BldS B r.2 b (l ++ m) ∧ Mod (fun x => x = b ∨ B ≤ x) w r.2 := by
  obtain ⟨p, s, h1, h2, h3, h4⟩ := h
  have hlt := hp_lt h1
  refine Ret.post fun Q hQ => ?_
  refine Ret.enter plain mixed (strings_Builder_WriteString_fn _ _ _) (by kernel_rfl) (n := 2) (by kernel_rfl) rfl ?_
  simp (maxSteps := 1000000) (disch := first | assumption | omega | (simp only [World.size_alloc, size_setRow, dw_size]; done) | (simp only [World.size_alloc, size_setRow, dw_size] <;> omega) | (simp only [List.length_set, Array.length_toList, List.length_cons, List.length_nil, List.length_append, bts_size] <;> omega) | (simp only [List.all_cons, List.all_nil, Value.oneCell', Bool.and_self, Bool.and_true]; done)) [-Option.bind_some, hp_alloc_lt, hp_alloc_eq, hp_set_ne, wrap_small, ups_ap_cons, ups_ap_nil, upd_same, upd_other, env0_ap0, env0_aps, xt_a, xt_b, xt_c, nk_ptr, -splice_eq, -stR_cells, stR_box, stR_boxA, stR_row, stR_row0, stR_row1, stR_rowA, stR_rowA0, splice_rowv, splice_rowv0, splice_rowv1, splice_z, splice_n, splice_s, nth_rowv, nth_rowv0, nth_rowv1, rowv_len, hlt]
  refine Ret.bind (copyCheck_m h1 h2) ?_
  rintro ⟨_, w1⟩ ⟨rfl, H1, M1⟩
  have zM1 := M1.size
  try simp only [World.size_alloc, size_setRow, dw_size] at zM1
  try dsimp only at H1 M1
  have zM1 := M1.size
  have h3' : w1.ownsRow B 5 1 s l.length (Lib.byteCells l) := by
    refine owns_keep h3 fun g hg => ?_
    have hgb : g ≠ b := fun e => h4 (by rw [hg, e])
    obtain ⟨_, h3⟩ := h3
    rcases h3 with ⟨rfl, _⟩ | ⟨g', cap, cur, rfl, h5, h6, _⟩
    · cases hg
    · cases hg
      exact M1.blk _ (hp_lt h6) hgb
  obtain ⟨v', w2, k1, k2, k3, va, vn, vc, hv'⟩ := app_str (P := P) (t := 34) (u := 9) (ty := 34) (e := 5) Tryz.underlying34 Tryz.underlying9 (by kernel_rfl) (m := m) h3' hl (by omega)
  subst hv'
  have H2 : hp w2 b = some (.cells #[pt b 0, s] 104 (0, 0)) := (k3.blk b (by omega) h4).trans H1
  have zk3 := k3.size
  have hno : (Value.slice va vn vc).ownBlock ≠ some b := by
    intro hv
    obtain ⟨_, k2⟩ := k2
    rcases k2 with ⟨k2, _⟩ | ⟨g', cap, cur, k2, h5, h6, _⟩
    · rw [k2] at hv; cases hv
    · rw [k2] at hv
      have h6' : hp w2 g' = some (.cells cur 5 (0, 0)) := h6
      rw [show g' = b by simpa [Value.ownBlock] using hv, H2] at h6'
      simp at h6'
  have hsb : ∀ g, s.ownBlock = some g → B ≤ g := by
    intro g hg
    obtain ⟨_, h3⟩ := h3
    rcases h3 with ⟨rfl, _⟩ | ⟨g', cap, cur, rfl, h5, h6, _⟩
    · cases hg
    · cases hg; exact h5
  have M2 : Mod (fun x => x = b ∨ B ≤ x) w w2 := (M1.weak fun x _ h => .inl h).tr (k3.weak fun x _ h => .inr (hsb x h))
  have zM2 := M2.size
  try simp only [World.size_alloc, size_setRow, dw_size] at zM2
  simp (maxSteps := 1000000) (disch := first | assumption | omega | (simp only [World.size_alloc, size_setRow, dw_size]; done) | (simp only [World.size_alloc, size_setRow, dw_size] <;> omega) | (simp only [List.length_set, Array.length_toList, List.length_cons, List.length_nil, List.length_append, bts_size] <;> omega) | (simp only [List.all_cons, List.all_nil, Value.oneCell', Bool.and_self, Bool.and_true]; done)) [-Option.bind_some, hp_alloc_lt, hp_alloc_eq, hp_set_ne, wrap_small, ups_ap_cons, ups_ap_nil, upd_same, upd_other, env0_ap0, env0_aps, xt_a, xt_b, xt_c, nk_ptr, -splice_eq, -stR_cells, stR_box, stR_boxA, stR_row, stR_row0, stR_row1, stR_rowA, stR_rowA0, splice_rowv, splice_rowv0, splice_rowv1, splice_z, splice_n, splice_s, nth_rowv, nth_rowv0, nth_rowv1, rowv_len, H1, k1, H2, bts_size, hlt, M1.blk, M2.blk]
  refine hQ _ ⟨rfl, ⟨pt b 0, .slice va vn vc, by simp (maxSteps := 1000000) (disch := first | assumption | omega | (simp only [World.size_alloc, size_setRow, dw_size]; done) | (simp only [World.size_alloc, size_setRow, dw_size] <;> omega) | (simp only [List.length_set, Array.length_toList, List.length_cons, List.length_nil, List.length_append, bts_size] <;> omega) | (simp only [List.all_cons, List.all_nil, Value.oneCell', Bool.and_self, Bool.and_true]; done)) [-Option.bind_some, hp_alloc_lt, hp_alloc_eq, hp_set_ne, wrap_small, ups_ap_cons, ups_ap_nil, upd_same, upd_other, env0_ap0, env0_aps, xt_a, xt_b, xt_c, nk_ptr, H2, hlt, M1.blk, M2.blk], .inr rfl, owns_keep k2 fun g hg => ?_, hno⟩, M2.set' (.inr (.inl rfl)) _⟩
  exact hp_set_ne fun e => hno (by rw [hg, e])
theorem bstring_m {B b : Nat} {l : List UInt8} {w : World} (h : BldS B w b l) (hl : l.length ≤ 140737488355328) (hn : l = [] → hp w b = some (.cells #[.pointer none, .slice none 0 0] 104 (0, 0))) :
    Ret (EV P 93 #[pt b 0] w) fun r => r.1 = .string (bts l) ∧ Mod (fun x => B ≤ x) w r.2 := by
  obtain ⟨p, s, h1, h2, h3, h4⟩ := h
  have hlt := hp_lt h1
  refine Ret.post fun Q hQ => ?_
  refine Ret.enter plain mixed (strings_Builder_String_fn _ _) (by kernel_rfl) (n := 1) (by kernel_rfl) rfl ?_
  by_cases hl0 : l = []
  · subst hl0
    have h1 := hn rfl
    simp (maxSteps := 1000000) (disch := first | assumption | omega | (simp only [World.size_alloc, size_setRow, dw_size]; done) | (simp only [World.size_alloc, size_setRow, dw_size] <;> omega) | (simp only [List.length_set, Array.length_toList, List.length_cons, List.length_nil, List.length_append, bts_size] <;> omega) | (simp only [List.all_cons, List.all_nil, Value.oneCell', Bool.and_self, Bool.and_true]; done)) [-Option.bind_some, hp_alloc_lt, hp_alloc_eq, hp_set_ne, wrap_small, ups_ap_cons, ups_ap_nil, upd_same, upd_other, env0_ap0, env0_aps, xt_a, xt_b, xt_c, nk_ptr, -splice_eq, -stR_cells, stR_box, stR_boxA, stR_row, stR_row0, stR_row1, stR_rowA, stR_rowA0, splice_rowv, splice_rowv0, splice_rowv1, splice_z, splice_n, splice_s, nth_rowv, nth_rowv0, nth_rowv1, rowv_len, h1, gn_usd, usd_nil, gn_ustr, us_none, hlt]
    exact hQ _ ⟨rfl, by (repeat (first | exact Mod.rfl | assumption | (refine Mod.al ?_ _) | (refine Mod.dw' ?_) | (refine Mod.set' ?_ (by first | (left; omega) | (left; simp only [World.size_alloc, size_setRow, dw_size]; omega) | (right; assumption) | (right; simp; done)) _) | (refine Mod.ex ?_ (by assumption))))⟩
  · have hpos : 0 < l.length := List.length_pos_iff.2 hl0
    obtain ⟨k0, h3⟩ := h3
    rcases h3 with ⟨rfl, h0⟩ | ⟨g, cap, cur, rfl, h5, h6, h7, h8, h9, h10⟩
    · omega
    · have hg : hp w g = some (.cells cur.toList.toArray 5 (0, 0)) := by show w.heap[g]? = _; rw [h6]
      have hgb : g ≠ b := fun e => h4 (by rw [e]; rfl)
      have hu := fun (w' : World) (hw : hp w' g = hp w g) => us_head (P := P) (pt' := 118) (it := 3) (ty := 9) (e := 5) Tryz.underlying118 (by kernel_rfl) (w := w') (g := g) (l := l) (cur := cur.toList) hpos (by omega) (hw.trans hg) (by rw [Nat.mul_one] at h10; exact h10)
      have hu1 := hu (dw w) (hp_dw _ _)
      simp (maxSteps := 1000000) (disch := first | assumption | omega | (simp only [World.size_alloc, size_setRow, dw_size]; done) | (simp only [World.size_alloc, size_setRow, dw_size] <;> omega) | (simp only [List.length_set, Array.length_toList, List.length_cons, List.length_nil, List.length_append, bts_size] <;> omega) | (simp only [List.all_cons, List.all_nil, Value.oneCell', Bool.and_self, Bool.and_true]; done)) [-Option.bind_some, hp_alloc_lt, hp_alloc_eq, hp_set_ne, wrap_small, ups_ap_cons, ups_ap_nil, upd_same, upd_other, env0_ap0, env0_aps, xt_a, xt_b, xt_c, nk_ptr, -splice_eq, -stR_cells, stR_box, stR_boxA, stR_row, stR_row0, stR_row1, stR_rowA, stR_rowA0, splice_rowv, splice_rowv0, splice_rowv1, splice_z, splice_n, splice_s, nth_rowv, nth_rowv0, nth_rowv1, rowv_len, h1, gn_usd, usd_row, show 0 < cap by omega, gn_ustr, hu1, hlt, hg]
      refine hQ _ ⟨rfl, ?_⟩
      have hM : Mod (fun x => B ≤ x) w (dw w) := Mod.dw _ _
      refine hM.tr ?_
      have hf : Ext (dw w) (dw w) := Ext.rfl
      have hfz := Lib.below_freeze (B := g) (a := dw w) (w := dw w) ⟨rfl, rfl, rfl, Nat.le_refl _, fun _ _ => rfl⟩ (p := ⟨g, 0, none⟩) (Nat.le_refl _) l.length
      refine ⟨hfz.os, hfz.tape, hfz.output, ?_, ?_⟩
      · exact hfz.size
      · intro x hx hnx
        exact hfz.block x (by omega)
theorem grow_m {B b n : Nat} {w : World} (h : hp w b = some (.cells #[pt b 0, .slice none 0 0] 104 (0, 0))) (hn : n ≤ 140737488355328) (hB : B ≤ w.heap.size) :
    Ret (EV P 109 #[pt b 0, i64 n] w) fun r => r.1 = .tuple #[] ∧ BldS B r.2 b [] ∧ Mod (fun x => x = b) w r.2 := by
  have hlt := hp_lt h
  obtain ⟨cs, hc, hc1, hc2⟩ := mnz (P := P) (f := 124) (ps := #[3]) (t := 34) Tryz.func124 (by kernel_rfl) (by kernel_rfl) (by kernel_rfl) (by kernel_rfl) Tryz.underlying34 (n := n) (by omega) (dw w)
  have hw1 : IntKind.i64.wrap (2 * ((0 : Nat) : Int)) = 0 := rfl
  have hw2 : IntKind.i64.wrap (0 + (n : Int)) = n := by rw [Int.zero_add]; exact w64 (by omega) (by omega)
  refine Ret.post fun Q hQ => ?_
  refine Ret.enter plain mixed (strings_Builder_grow_fn _ _ _) (by kernel_rfl) (n := 2) (by kernel_rfl) rfl ?_
  have hs0 := sl_h (P := P) (t := 34) el_34 (a := some ⟨w.heap.size, 0, none⟩) (len := n) (cap := cs.size) (n := 0) (by decide) (by omega)
  simp only [show (0 : Int).toNat = 0 from rfl] at hs0
  have hz : cs.size ≤ maxLen := hc2 (by simp only [maxLen]; omega)
  simp only [maxLen] at hz
  simp (maxSteps := 1000000) (disch := first | assumption | omega | (simp only [World.size_alloc, size_setRow, dw_size]; done) | (simp only [World.size_alloc, size_setRow, dw_size] <;> omega) | (simp only [List.length_set, Array.length_toList, List.length_cons, List.length_nil, List.length_append, bts_size] <;> omega) | (simp only [List.all_cons, List.all_nil, Value.oneCell', Bool.and_self, Bool.and_true]; done)) [-Option.bind_some, hp_alloc_lt, hp_alloc_eq, hp_set_ne, wrap_small, ups_ap_cons, ups_ap_nil, upd_same, upd_other, env0_ap0, env0_aps, xt_a, xt_b, xt_c, nk_ptr, -splice_eq, -stR_cells, stR_box, stR_boxA, stR_row, stR_row0, stR_row1, stR_rowA, stR_rowA0, splice_rowv, splice_rowv0, splice_rowv1, splice_z, splice_n, splice_s, nth_rowv, nth_rowv0, nth_rowv1, rowv_len, h, bo_mul, cap_sl el_34, hw1, hw2, hc, hs0, copy_zero el_34, hlt]
  refine hQ _ ⟨rfl, ⟨pt b 0, .slice (some ⟨w.heap.size, 0, none⟩) 0 cs.size, by simp (maxSteps := 1000000) (disch := first | assumption | omega | (simp only [World.size_alloc, size_setRow, dw_size]; done) | (simp only [World.size_alloc, size_setRow, dw_size] <;> omega) | (simp only [List.length_set, Array.length_toList, List.length_cons, List.length_nil, List.length_append, bts_size] <;> omega) | (simp only [List.all_cons, List.all_nil, Value.oneCell', Bool.and_self, Bool.and_true]; done)) [-Option.bind_some, hp_alloc_lt, hp_alloc_eq, hp_set_ne, wrap_small, ups_ap_cons, ups_ap_nil, upd_same, upd_other, env0_ap0, env0_aps, xt_a, xt_b, xt_c, nk_ptr, h, hlt], .inr rfl, ⟨rfl, .inr ⟨w.heap.size, cs.size, cs, rfl, hB, ?_, Nat.zero_le _, hc2 (by simp only [maxLen]; omega), by omega, by simp [Lib.byteCells]⟩⟩, ?_⟩, by (repeat (first | exact Mod.rfl | assumption | (refine Mod.al ?_ _) | (refine Mod.dw' ?_) | (refine Mod.set' ?_ (by first | (left; omega) | (left; simp only [World.size_alloc, size_setRow, dw_size]; omega) | (right; assumption) | (right; simp; done)) _) | (refine Mod.ex ?_ (by assumption))))⟩
  · show hp _ _ = _
    simp (maxSteps := 1000000) (disch := first | assumption | omega | (simp only [World.size_alloc, size_setRow, dw_size]; done) | (simp only [World.size_alloc, size_setRow, dw_size] <;> omega) | (simp only [List.length_set, Array.length_toList, List.length_cons, List.length_nil, List.length_append, bts_size] <;> omega) | (simp only [List.all_cons, List.all_nil, Value.oneCell', Bool.and_self, Bool.and_true]; done)) [-Option.bind_some, hp_alloc_lt, hp_alloc_eq, hp_set_ne, wrap_small, ups_ap_cons, ups_ap_nil, upd_same, upd_other, env0_ap0, env0_aps, xt_a, xt_b, xt_c, nk_ptr, hlt]
  · simp only [Value.ownBlock, ne_eq, Option.some.injEq]
    omega
end Go.Proofs.YtgdacclgooaodaaGreatDoor.X
set_option linter.unusedVariables false
set_option linter.unusedSimpArgs false
set_option maxRecDepth 100000
set_option maxHeartbeats 1000000
namespace Go.Proofs.YtgdacclgooaodaaGreatDoor.X
open Go Go.Ev Go.RowKit
theorem Grow_m {B b n : Nat} {w : World} (h : hp w b = some (.cells #[.pointer none, .slice none 0 0] 104 (0, 0))) (h0 : 0 < n) (hn : n ≤ 140737488355328) (hB : B ≤ w.heap.size) :
    Ret (EV P 91 #[pt b 0, i64 n] w) fun r => r.1 = .tuple #[] ∧ BldS B r.2 b [] ∧ Mod (fun x => x = b) w r.2 := by
  have hlt := hp_lt h
  have hw1 : IntKind.i64.wrap (((0 : Nat) : Int) - ((0 : Nat) : Int)) = 0 := rfl
  refine Ret.post fun Q hQ => ?_
  refine Ret.enter plain mixed (strings_Builder_Grow_fn _ _ _) (by kernel_rfl) (n := 2) (by kernel_rfl) rfl ?_
  simp (maxSteps := 1000000) (disch := first | assumption | omega | (simp only [World.size_alloc, size_setRow, dw_size]; done) | (simp only [World.size_alloc, size_setRow, dw_size] <;> omega) | (simp only [List.length_set, Array.length_toList, List.length_cons, List.length_nil, List.length_append, bts_size] <;> omega) | (simp only [List.all_cons, List.all_nil, Value.oneCell', Bool.and_self, Bool.and_true]; done)) [-Option.bind_some, hp_alloc_lt, hp_alloc_eq, hp_set_ne, wrap_small, ups_ap_cons, ups_ap_nil, upd_same, upd_other, env0_ap0, env0_aps, xt_a, xt_b, xt_c, nk_ptr, -splice_eq, -stR_cells, stR_box, stR_boxA, stR_row, stR_row0, stR_row1, stR_rowA, stR_rowA0, splice_rowv, splice_rowv0, splice_rowv1, splice_z, splice_n, splice_s, nth_rowv, nth_rowv0, nth_rowv1, rowv_len, hlt]
  refine Ret.bind (copyCheck_m h (.inl rfl)) ?_
  rintro ⟨_, w1⟩ ⟨rfl, H1, M1⟩
  have zM1 := M1.size
  try simp only [World.size_alloc, size_setRow, dw_size] at zM1
  try dsimp only at H1 M1
  have zM1 := M1.size
  simp (maxSteps := 1000000) (disch := first | assumption | omega | (simp only [World.size_alloc, size_setRow, dw_size]; done) | (simp only [World.size_alloc, size_setRow, dw_size] <;> omega) | (simp only [List.length_set, Array.length_toList, List.length_cons, List.length_nil, List.length_append, bts_size] <;> omega) | (simp only [List.all_cons, List.all_nil, Value.oneCell', Bool.and_self, Bool.and_true]; done)) [-Option.bind_some, hp_alloc_lt, hp_alloc_eq, hp_set_ne, wrap_small, ups_ap_cons, ups_ap_nil, upd_same, upd_other, env0_ap0, env0_aps, xt_a, xt_b, xt_c, nk_ptr, -splice_eq, -stR_cells, stR_box, stR_boxA, stR_row, stR_row0, stR_row1, stR_rowA, stR_rowA0, splice_rowv, splice_rowv0, splice_rowv1, splice_z, splice_n, splice_s, nth_rowv, nth_rowv0, nth_rowv1, rowv_len, show ¬ (n : Int) < 0 by omega, hlt, M1.blk]
  rw [strings_Builder_Grow_j1_eq]
  simp (maxSteps := 1000000) (disch := first | assumption | omega | (simp only [World.size_alloc, size_setRow, dw_size]; done) | (simp only [World.size_alloc, size_setRow, dw_size] <;> omega) | (simp only [List.length_set, Array.length_toList, List.length_cons, List.length_nil, List.length_append, bts_size] <;> omega) | (simp only [List.all_cons, List.all_nil, Value.oneCell', Bool.and_self, Bool.and_true]; done)) [-Option.bind_some, hp_alloc_lt, hp_alloc_eq, hp_set_ne, wrap_small, ups_ap_cons, ups_ap_nil, upd_same, upd_other, env0_ap0, env0_aps, xt_a, xt_b, xt_c, nk_ptr, -splice_eq, -stR_cells, stR_box, stR_boxA, stR_row, stR_row0, stR_row1, stR_rowA, stR_rowA0, splice_rowv, splice_rowv0, splice_rowv1, splice_z, splice_n, splice_s, nth_rowv, nth_rowv0, nth_rowv1, rowv_len, H1, cap_sl el_34, hw1, show (0 : Int) < n by omega, h0, hlt, M1.blk]
  refine Ret.bind (grow_m (B := B) (n := n) (by rw [hp_dw]; exact H1) hn (by simp only [dw_size]; omega)) ?_
  rintro ⟨_, w2⟩ ⟨rfl, H2, M2⟩
  have zM2 := M2.size
  try simp only [World.size_alloc, size_setRow, dw_size] at zM2
  try dsimp only at H2 M2
  simp (maxSteps := 1000000) (disch := first | assumption | omega | (simp only [World.size_alloc, size_setRow, dw_size]; done) | (simp only [World.size_alloc, size_setRow, dw_size] <;> omega) | (simp only [List.length_set, Array.length_toList, List.length_cons, List.length_nil, List.length_append, bts_size] <;> omega) | (simp only [List.all_cons, List.all_nil, Value.oneCell', Bool.and_self, Bool.and_true]; done)) [-Option.bind_some, hp_alloc_lt, hp_alloc_eq, hp_set_ne, wrap_small, ups_ap_cons, ups_ap_nil, upd_same, upd_other, env0_ap0, env0_aps, xt_a, xt_b, xt_c, nk_ptr, -splice_eq, -stR_cells, stR_box, stR_boxA, stR_row, stR_row0, stR_row1, stR_rowA, stR_rowA0, splice_rowv, splice_rowv0, splice_rowv1, splice_z, splice_n, splice_s, nth_rowv, nth_rowv0, nth_rowv1, rowv_len, hlt, M1.blk, M2.blk]
  exact hQ _ ⟨rfl, H2, (M1.dw').tr M2⟩
theorem Join_l2 {g o c b B n : Nat} {s : List UInt8} {xs : List (List UInt8)} {w0 : World} (hn : xs.length = n) (hx : ∀ x ∈ xs, x.length ≤ 3000) (hs : s.length ≤ 10) (hs0 : s ≠ []) (hn2 : 2 ≤ n) (hn100 : n ≤ 1000) (hg : g < B) (hgb : g ≠ b) (hB0 : w0.heap.size ≤ b) (hBB : w0.heap.size ≤ B) :
    ∀ (d k : Nat) (e : Env) (w : World) (acc : List UInt8), (k + 1) + d = n → e 63 = .slice (some ⟨g, o + 1, none⟩) (n - 1) (c - 1) → e 64 = i64 ((n - 1 : Nat) : Int) → e 65 = i64 k → e 1 = .string (bts s) → e 8 = pt b 0 → acc = joinL s (xs.take (k + 1)) → acc.length ≤ 3010 * (k + 1) →
      BldS B w b acc → B ≤ w.heap.size → StrAt w g o xs → Ext w0 w → Ret (strings_Join_l2 e w) fun r => r.1 = .string (bts (joinL s xs)) ∧ Ext w0 r.2 := by
  intro d
  induction d with
  | zero =>
    intro k e w acc hd e63 e64 e65 e1 e8 ha hal hb hB hA E0
    have zE0 := E0.size
    try simp only [World.size_alloc, size_setRow, dw_size] at zE0
    rw [strings_Join_l2_eq]
    rw [List.take_of_length_le (by omega)] at ha
    refine Ret.post fun Q hQ => ?_
    simp (maxSteps := 1000000) (disch := first | assumption | omega | (simp only [World.size_alloc, size_setRow, dw_size]; done) | (simp only [World.size_alloc, size_setRow, dw_size] <;> omega) | (simp only [List.length_set, Array.length_toList, List.length_cons, List.length_nil, List.length_append, bts_size] <;> omega) | (simp only [List.all_cons, List.all_nil, Value.oneCell', Bool.and_self, Bool.and_true]; done)) [-Option.bind_some, hp_alloc_lt, hp_alloc_eq, hp_set_ne, wrap_small, ups_ap_cons, ups_ap_nil, upd_same, upd_other, env0_ap0, env0_aps, xt_a, xt_b, xt_c, nk_ptr, -splice_eq, -stR_cells, stR_box, stR_boxA, stR_row, stR_row0, stR_row1, stR_rowA, stR_rowA0, splice_rowv, splice_rowv0, splice_rowv1, splice_z, splice_n, splice_s, nth_rowv, nth_rowv0, nth_rowv1, rowv_len, e63, e64, e65, e1, e8, show ¬ k < n - 1 by omega, show ¬ (k : Int) < ((n - 1 : Nat) : Int) by omega, e63, e64, e65, e1, e8, E0.blk]
    refine Ret.bind (bstring_m hb (by omega) (fun h => absurd (ha ▸ h) (joinL_ne hs0 (by omega)))) ?_
    rintro ⟨_, w1⟩ ⟨rfl, M1⟩
    have zM1 := M1.size
    try simp only [World.size_alloc, size_setRow, dw_size] at zM1
    try dsimp only at M1
    simp (maxSteps := 1000000) (disch := first | assumption | omega | (simp only [World.size_alloc, size_setRow, dw_size]; done) | (simp only [World.size_alloc, size_setRow, dw_size] <;> omega) | (simp only [List.length_set, Array.length_toList, List.length_cons, List.length_nil, List.length_append, bts_size] <;> omega) | (simp only [List.all_cons, List.all_nil, Value.oneCell', Bool.and_self, Bool.and_true]; done)) [-Option.bind_some, hp_alloc_lt, hp_alloc_eq, hp_set_ne, wrap_small, ups_ap_cons, ups_ap_nil, upd_same, upd_other, env0_ap0, env0_aps, xt_a, xt_b, xt_c, nk_ptr, -splice_eq, -stR_cells, stR_box, stR_boxA, stR_row, stR_row0, stR_row1, stR_rowA, stR_rowA0, splice_rowv, splice_rowv0, splice_rowv1, splice_z, splice_n, splice_s, nth_rowv, nth_rowv0, nth_rowv1, rowv_len, e63, e64, e65, e1, e8, E0.blk, M1.blk]
    exact hQ _ ⟨by rw [ha], Mod.after (a := w0) E0 M1 (by intro x hx h; omega)⟩
  | succ d ih =>
    intro k e w acc hd e63 e64 e65 e1 e8 ha hal hb hB hA E0
    have zE0 := E0.size
    try simp only [World.size_alloc, size_setRow, dw_size] at zE0
    rw [strings_Join_l2_eq]
    obtain ⟨y, hy, _⟩ := drop_at (l := xs) (k := k + 1) (by omega)
    have hyl := hx y (List.mem_of_getElem? hy)
    have hc1 := hA _ _ hy
    have hz := E0.size
    have hc2 : cellO (hp w g) (o + 1 + k) = some (.string (bts y)) := by rw [← hc1]; congr 1; omega
    refine Ret.post fun Q hQ => ?_
    simp (maxSteps := 1000000) (disch := first | assumption | omega | (simp only [World.size_alloc, size_setRow, dw_size]; done) | (simp only [World.size_alloc, size_setRow, dw_size] <;> omega) | (simp only [List.length_set, Array.length_toList, List.length_cons, List.length_nil, List.length_append, bts_size] <;> omega) | (simp only [List.all_cons, List.all_nil, Value.oneCell', Bool.and_self, Bool.and_true]; done)) [-Option.bind_some, hp_alloc_lt, hp_alloc_eq, hp_set_ne, wrap_small, ups_ap_cons, ups_ap_nil, upd_same, upd_other, env0_ap0, env0_aps, xt_a, xt_b, xt_c, nk_ptr, -splice_eq, -stR_cells, stR_box, stR_boxA, stR_row, stR_row0, stR_row1, stR_rowA, stR_rowA0, splice_rowv, splice_rowv0, splice_rowv1, splice_z, splice_n, splice_s, nth_rowv, nth_rowv0, nth_rowv1, rowv_len, e63, e64, e65, e1, e8, show k < n - 1 by omega, show (k : Int) < ((n - 1 : Nat) : Int) by omega, ia_41, hc2, e63, e64, e65, e1, e8, E0.blk]
    refine Ret.bind (writeString_m hb (m := s) (by omega) hB) ?_
    rintro ⟨_, w1⟩ ⟨rfl, b1, M1⟩
    have zM1 := M1.size
    try simp only [World.size_alloc, size_setRow, dw_size] at zM1
    try dsimp only at b1 M1
    have zM1 := M1.size
    simp (maxSteps := 1000000) (disch := first | assumption | omega | (simp only [World.size_alloc, size_setRow, dw_size]; done) | (simp only [World.size_alloc, size_setRow, dw_size] <;> omega) | (simp only [List.length_set, Array.length_toList, List.length_cons, List.length_nil, List.length_append, bts_size] <;> omega) | (simp only [List.all_cons, List.all_nil, Value.oneCell', Bool.and_self, Bool.and_true]; done)) [-Option.bind_some, hp_alloc_lt, hp_alloc_eq, hp_set_ne, wrap_small, ups_ap_cons, ups_ap_nil, upd_same, upd_other, env0_ap0, env0_aps, xt_a, xt_b, xt_c, nk_ptr, -splice_eq, -stR_cells, stR_box, stR_boxA, stR_row, stR_row0, stR_row1, stR_rowA, stR_rowA0, splice_rowv, splice_rowv0, splice_rowv1, splice_z, splice_n, splice_s, nth_rowv, nth_rowv0, nth_rowv1, rowv_len, e63, e64, e65, e1, e8, e63, e64, e65, e1, e8, E0.blk, M1.blk]
    refine Ret.bind (writeString_m b1 (m := y) (by rw [List.length_append]; omega) (by omega)) ?_
    rintro ⟨_, w2⟩ ⟨rfl, b2, M2⟩
    have zM2 := M2.size
    try simp only [World.size_alloc, size_setRow, dw_size] at zM2
    try dsimp only at b2 M2
    have zM2 := M2.size
    simp (maxSteps := 1000000) (disch := first | assumption | omega | (simp only [World.size_alloc, size_setRow, dw_size]; done) | (simp only [World.size_alloc, size_setRow, dw_size] <;> omega) | (simp only [List.length_set, Array.length_toList, List.length_cons, List.length_nil, List.length_append, bts_size] <;> omega) | (simp only [List.all_cons, List.all_nil, Value.oneCell', Bool.and_self, Bool.and_true]; done)) [-Option.bind_some, hp_alloc_lt, hp_alloc_eq, hp_set_ne, wrap_small, ups_ap_cons, ups_ap_nil, upd_same, upd_other, env0_ap0, env0_aps, xt_a, xt_b, xt_c, nk_ptr, -splice_eq, -stR_cells, stR_box, stR_boxA, stR_row, stR_row0, stR_row1, stR_rowA, stR_rowA0, splice_rowv, splice_rowv0, splice_rowv1, splice_z, splice_n, splice_s, nth_rowv, nth_rowv0, nth_rowv1, rowv_len, e63, e64, e65, e1, e8, e63, e64, e65, e1, e8, E0.blk, M1.blk, M2.blk]
    exact Ret.mono (ih (k + 1) _ _ (acc ++ s ++ y) (by omega) (by first | omega | assumption | rfl | exact congrArg i64 (by omega) | (simp; done) | (simp; omega)) (by first | omega | assumption | rfl | exact congrArg i64 (by omega) | (simp; done) | (simp; omega)) (by first | omega | assumption | rfl | exact congrArg i64 (by omega) | (simp; done) | (simp; omega)) (by first | omega | assumption | rfl | exact congrArg i64 (by omega) | (simp; done) | (simp; omega)) (by first | omega | assumption | rfl | exact congrArg i64 (by omega) | (simp; done) | (simp; omega)) (by rw [joinL_step s hy, ← ha]) (by simp only [List.length_append]; omega) b2 (by omega) ((hA.mod M1 (by omega)).mod M2 (by omega)) (Mod.after (a := w0) E0 (M1.tr M2) (by intro x hx h; omega))) hQ
theorem Join_l1 {g o c n : Nat} {s : List UInt8} {xs : List (List UInt8)} {w0 : World} (hn : xs.length = n) (hx : ∀ x ∈ xs, x.length ≤ 3000) (hs : s.length ≤ 10) (hs0 : s ≠ []) (hn2 : 2 ≤ n) (hn100 : n ≤ 1000) (hnc : n ≤ c) (hA : StrAt w0 g o xs) :
    ∀ (d k : Nat) (e : Env) (m : Nat), k + d = n → e 39 = .slice (some ⟨g, o, none⟩) n c → e 40 = i64 n → e 41 = i64 k → e 0 = .slice (some ⟨g, o, none⟩) n c → e 1 = .string (bts s) → e 5 = i64 m → m ≤ 10000 + 3000 * k → 0 < m →
      Ret (strings_Join_l1 e w0) fun r => r.1 = .string (bts (joinL s xs)) ∧ Ext w0 r.2 := by
  intro d
  induction d with
  | zero =>
    intro k e m hd e39 e40 e41 e0 e1 e5 hm hm0
    rw [strings_Join_l1_eq]
    obtain rfl : k = n := by omega
    obtain ⟨x, hx0, _⟩ := drop_at (l := xs) (k := 0) (by omega)
    have hxl := hx x (List.mem_of_getElem? hx0)
    have hc0 := hA _ _ hx0
    rw [Nat.add_zero] at hc0
    have hg := cellO_lt hc0
    have hw := sl_l (P := P) (t := 41) el_41 (b := g) (o := o) (len := k) (cap := c) (n := 1) (by decide) (by omega) (show (1 : Int).toNat ≠ c by show 1 ≠ c; omega)
    simp only [show (1 : Int).toNat = 1 from rfl] at hw
    refine Ret.post fun Q hQ => ?_
    simp (maxSteps := 1000000) (disch := first | assumption | omega | (simp only [World.size_alloc, size_setRow, dw_size]; done) | (simp only [World.size_alloc, size_setRow, dw_size] <;> omega) | (simp only [List.length_set, Array.length_toList, List.length_cons, List.length_nil, List.length_append, bts_size] <;> omega) | (simp only [List.all_cons, List.all_nil, Value.oneCell', Bool.and_self, Bool.and_true]; done)) [-Option.bind_some, hp_alloc_lt, hp_alloc_eq, hp_set_ne, wrap_small, ups_ap_cons, ups_ap_nil, upd_same, upd_other, env0_ap0, env0_aps, xt_a, xt_b, xt_c, nk_ptr, -splice_eq, -stR_cells, stR_box, stR_boxA, stR_row, stR_row0, stR_row1, stR_rowA, stR_rowA0, splice_rowv, splice_rowv0, splice_rowv1, splice_z, splice_n, splice_s, nth_rowv, nth_rowv0, nth_rowv1, rowv_len, e39, e40, e41, e0, e1, e5, e39, e40, e41, e0, e1, e5, hg]
    refine Ret.bind (Grow_m (B := w0.heap.size + 1) (n := m) (b := w0.heap.size) (by first | assumption | rfl | (simp (maxSteps := 1000000) (disch := first | assumption | omega | (simp only [World.size_alloc, size_setRow, dw_size]; done) | (simp only [World.size_alloc, size_setRow, dw_size] <;> omega) | (simp only [List.length_set, Array.length_toList, List.length_cons, List.length_nil, List.length_append, bts_size] <;> omega) | (simp only [List.all_cons, List.all_nil, Value.oneCell', Bool.and_self, Bool.and_true]; done)) [-Option.bind_some, hp_alloc_lt, hp_alloc_eq, hp_set_ne, wrap_small, ups_ap_cons, ups_ap_nil, upd_same, upd_other, env0_ap0, env0_aps, xt_a, xt_b, xt_c, nk_ptr, -splice_eq, -stR_cells, stR_box, stR_boxA, stR_row, stR_row0, stR_row1, stR_rowA, stR_rowA0, splice_rowv, splice_rowv0, splice_rowv1, splice_z, splice_n, splice_s, nth_rowv, nth_rowv0, nth_rowv1, rowv_len, e39, e40, e41, e0, e1, e5, hg]; done)) hm0 (by omega) (by simp)) ?_
    rintro ⟨_, w1⟩ ⟨rfl, b1, M1⟩
    have zM1 := M1.size
    try simp only [World.size_alloc, size_setRow, dw_size] at zM1
    try dsimp only at b1 M1
    have zM1 := M1.size
    simp only [World.size_alloc] at zM1
    have A1 : StrAt w1 g o xs := (hA.ext (Ext.alloc _ _)).mod M1 (by omega)
    have hc1 := A1 _ _ hx0
    rw [Nat.add_zero] at hc1
    have E1 : Ext w0 w1 := Mod.after (a := w0) (by (repeat (first | exact Ext.rfl | assumption | (refine Ext.al ?_ _) | (refine Ext.dw ?_) | (refine Ext.set ?_ (by first | omega | (simp only [World.size_alloc, size_setRow, dw_size]; omega)) _) | (refine Ext.tr ?_ (by assumption))))) M1 (by intro x hx h; omega)
    have zE1 := E1.size
    try simp only [World.size_alloc, size_setRow, dw_size] at zE1
    simp (maxSteps := 1000000) (disch := first | assumption | omega | (simp only [World.size_alloc, size_setRow, dw_size]; done) | (simp only [World.size_alloc, size_setRow, dw_size] <;> omega) | (simp only [List.length_set, Array.length_toList, List.length_cons, List.length_nil, List.length_append, bts_size] <;> omega) | (simp only [List.all_cons, List.all_nil, Value.oneCell', Bool.and_self, Bool.and_true]; done)) [-Option.bind_some, hp_alloc_lt, hp_alloc_eq, hp_set_ne, wrap_small, ups_ap_cons, ups_ap_nil, upd_same, upd_other, env0_ap0, env0_aps, xt_a, xt_b, xt_c, nk_ptr, -splice_eq, -stR_cells, stR_box, stR_boxA, stR_row, stR_row0, stR_row1, stR_rowA, stR_rowA0, splice_rowv, splice_rowv0, splice_rowv1, splice_z, splice_n, splice_s, nth_rowv, nth_rowv0, nth_rowv1, rowv_len, e39, e40, e41, e0, e1, e5, ia_41, show (0 : Int) < k by omega, hc1, hc0, e39, e40, e41, e0, e1, e5, hg, M1.blk, E1.blk]
    refine Ret.bind (writeString_m b1 (m := x) (by simp only [List.length_nil]; omega) (by omega)) ?_
    rintro ⟨_, w2⟩ ⟨rfl, b2, M2⟩
    have zM2 := M2.size
    try simp only [World.size_alloc, size_setRow, dw_size] at zM2
    try dsimp only at b2 M2
    have zM2 := M2.size
    have A2 : StrAt w2 g o xs := A1.mod M2 (by omega)
    rw [List.nil_append] at b2
    simp (maxSteps := 1000000) (disch := first | assumption | omega | (simp only [World.size_alloc, size_setRow, dw_size]; done) | (simp only [World.size_alloc, size_setRow, dw_size] <;> omega) | (simp only [List.length_set, Array.length_toList, List.length_cons, List.length_nil, List.length_append, bts_size] <;> omega) | (simp only [List.all_cons, List.all_nil, Value.oneCell', Bool.and_self, Bool.and_true]; done)) [-Option.bind_some, hp_alloc_lt, hp_alloc_eq, hp_set_ne, wrap_small, ups_ap_cons, ups_ap_nil, upd_same, upd_other, env0_ap0, env0_aps, xt_a, xt_b, xt_c, nk_ptr, -splice_eq, -stR_cells, stR_box, stR_boxA, stR_row, stR_row0, stR_row1, stR_rowA, stR_rowA0, splice_rowv, splice_rowv0, splice_rowv1, splice_z, splice_n, splice_s, nth_rowv, nth_rowv0, nth_rowv1, rowv_len, e39, e40, e41, e0, e1, e5, hw, e39, e40, e41, e0, e1, e5, hg, M1.blk, E1.blk, M2.blk]
    refine Ret.mono (Join_l2 (g := g) (o := o) (c := c) (b := w0.heap.size) (B := w0.heap.size + 1) (n := k) (w0 := w0) hn hx hs hs0 hn2 hn100 (by omega) (by omega) (Nat.le_refl _) (by omega) (k - 1) 0 _ _ x (by omega) rfl (by first | omega | assumption | rfl | exact congrArg i64 (by omega) | (simp; done) | (simp; omega)) (by first | omega | assumption | rfl | exact congrArg i64 (by omega) | (simp; done) | (simp; omega)) (by first | omega | assumption | rfl | exact congrArg i64 (by omega) | (simp; done) | (simp; omega)) (by first | omega | assumption | rfl | exact congrArg i64 (by omega) | (simp; done) | (simp; omega)) ?_ (by omega) b2 (by omega) A2 (Mod.after (a := w0) E1 M2 (by intro x hx h; omega))) hQ
    cases xs with
    | nil => simp at hx0
    | cons z r =>
      simp only [List.getElem?_cons_zero, Option.some.injEq] at hx0
      subst hx0
      simp [joinL]
  | succ d ih =>
    intro k e m hd e39 e40 e41 e0 e1 e5 hm hm0
    rw [strings_Join_l1_eq]
    obtain ⟨x, hx0, _⟩ := drop_at (l := xs) (k := k) (by omega)
    have hxl := hx x (List.mem_of_getElem? hx0)
    have hc0 := hA _ _ hx0
    have hw1 : IntKind.i64.wrap (9223372036854775807 - (m : Int)) = 9223372036854775807 - (m : Int) := w64 (by omega) (by omega)
    have hw2 : IntKind.i64.wrap ((m : Int) + (x.length : Int)) = ((m + x.length : Nat) : Int) := by rw [w64 (by omega) (by omega)]; omega
    refine Ret.post fun Q hQ => ?_
    simp (maxSteps := 1000000) (disch := first | assumption | omega | (simp only [World.size_alloc, size_setRow, dw_size]; done) | (simp only [World.size_alloc, size_setRow, dw_size] <;> omega) | (simp only [List.length_set, Array.length_toList, List.length_cons, List.length_nil, List.length_append, bts_size] <;> omega) | (simp only [List.all_cons, List.all_nil, Value.oneCell', Bool.and_self, Bool.and_true]; done)) [-Option.bind_some, hp_alloc_lt, hp_alloc_eq, hp_set_ne, wrap_small, ups_ap_cons, ups_ap_nil, upd_same, upd_other, env0_ap0, env0_aps, xt_a, xt_b, xt_c, nk_ptr, -splice_eq, -stR_cells, stR_box, stR_boxA, stR_row, stR_row0, stR_row1, stR_rowA, stR_rowA0, splice_rowv, splice_rowv0, splice_rowv1, splice_z, splice_n, splice_s, nth_rowv, nth_rowv0, nth_rowv1, rowv_len, e39, e40, e41, e0, e1, e5, show k < n by omega, show (k : Int) < n by omega, ia_41, hc0, hw1, bts_size, show ¬ (9223372036854775807 - (m : Int) < x.length) by omega, e39, e40, e41, e0, e1, e5]
    rw [strings_Join_j3_eq]
    simp (maxSteps := 1000000) (disch := first | assumption | omega | (simp only [World.size_alloc, size_setRow, dw_size]; done) | (simp only [World.size_alloc, size_setRow, dw_size] <;> omega) | (simp only [List.length_set, Array.length_toList, List.length_cons, List.length_nil, List.length_append, bts_size] <;> omega) | (simp only [List.all_cons, List.all_nil, Value.oneCell', Bool.and_self, Bool.and_true]; done)) [-Option.bind_some, hp_alloc_lt, hp_alloc_eq, hp_set_ne, wrap_small, ups_ap_cons, ups_ap_nil, upd_same, upd_other, env0_ap0, env0_aps, xt_a, xt_b, xt_c, nk_ptr, -splice_eq, -stR_cells, stR_box, stR_boxA, stR_row, stR_row0, stR_row1, stR_rowA, stR_rowA0, splice_rowv, splice_rowv0, splice_rowv1, splice_z, splice_n, splice_s, nth_rowv, nth_rowv0, nth_rowv1, rowv_len, e39, e40, e41, e0, e1, e5, bts_size, hw2, e39, e40, e41, e0, e1, e5]
    exact Ret.mono (ih (k + 1) _ (m + x.length) (by omega) (by first | omega | assumption | rfl | exact congrArg i64 (by omega) | (simp; done) | (simp; omega)) (by first | omega | assumption | rfl | exact congrArg i64 (by omega) | (simp; done) | (simp; omega)) (by first | omega | assumption | rfl | exact congrArg i64 (by omega) | (simp; done) | (simp; omega)) (by first | omega | assumption | rfl | exact congrArg i64 (by omega) | (simp; done) | (simp; omega)) (by first | omega | assumption | rfl | exact congrArg i64 (by omega) | (simp; done) | (simp; omega)) (by first | omega | assumption | rfl | exact congrArg i64 (by omega) | (simp; done) | (simp; omega)) (by omega) (by omega)) hQ
theorem Join_m {g o c n : Nat} {s : List UInt8} {xs : List (List UInt8)} {w : World} (hn : xs.length = n) (hx : ∀ x ∈ xs, x.length ≤ 3000) (hs : s.length ≤ 10) (hs0 : s ≠ []) (hn2 : 2 ≤ n) (hn100 : n ≤ 900) (hnc : n ≤ c) (hA : StrAt w g o xs) :
    Ret (EV P 68 #[.slice (some ⟨g, o, none⟩) n c, .string (bts s)] w) fun r => r.1 = .string (bts (joinL s xs)) ∧ Ext w r.2 := by
  have hsp : 0 < s.length := List.length_pos_iff.2 hs0
  have hw1 : IntKind.i64.wrap ((n : Int) - 1) = (n : Int) - 1 := w64 (by omega) (by omega)
  have hq : (9223372036854775807 : Int).tdiv ((n : Int) - 1) = ((9223372036854775807 / (n - 1) : Nat) : Int) := by
    rw [show (n : Int) - 1 = ((n - 1 : Nat) : Int) by omega, show (9223372036854775807 : Int) = ((9223372036854775807 : Nat) : Int) from rfl, tdiv_nat]
  have hge : 10 < 9223372036854775807 / (n - 1) := by
    have : 9223372036854775807 / 1000 ≤ 9223372036854775807 / (n - 1) := Nat.div_le_div_left (by omega) (by omega)
    omega
  have hlt : 9223372036854775807 / (n - 1) ≤ 9223372036854775807 := Nat.div_le_self _ _
  have hw2 : IntKind.i64.wrap ((9223372036854775807 / (n - 1) : Nat) : Int) = ((9223372036854775807 / (n - 1) : Nat) : Int) := w64 (by omega) (by omega)
  have hsn : s.length * (n - 1) ≤ 10 * 900 := Nat.mul_le_mul hs (by omega)
  have hsn0 : 0 < s.length * (n - 1) := Nat.mul_pos hsp (by omega)
  have hw3 : IntKind.i64.wrap ((s.length : Int) * ((n : Int) - 1)) = ((s.length * (n - 1) : Nat) : Int) := by
    rw [show (n : Int) - 1 = ((n - 1 : Nat) : Int) by omega, ← Int.natCast_mul]
    exact w64 (by omega) (by omega)
  have hw4 : IntKind.i64.wrap (0 + ((s.length * (n - 1) : Nat) : Int)) = ((s.length * (n - 1) : Nat) : Int) := by rw [Int.zero_add]; exact w64 (by omega) (by omega)
  generalize 9223372036854775807 / (n - 1) = q at *
  generalize s.length * (n - 1) = t at *
  have hn0 : ((n : Int) == 0) = false := beq_eq_false_iff_ne.2 (by omega)
  have hn1 : ((n : Int) == 1) = false := beq_eq_false_iff_ne.2 (by omega)
  have hqn : ((n : Int) - 1 == 0) = false := beq_eq_false_iff_ne.2 (by omega)
  refine Ret.post fun Q hQ => ?_
  refine Ret.enter plain mixed (strings_Join_fn _ _ _) (by kernel_rfl) (n := 2) (by kernel_rfl) rfl ?_
  simp (maxSteps := 1000000) (disch := first | assumption | omega | (simp only [World.size_alloc, size_setRow, dw_size]; done) | (simp only [World.size_alloc, size_setRow, dw_size] <;> omega) | (simp only [List.length_set, Array.length_toList, List.length_cons, List.length_nil, List.length_append, bts_size] <;> omega) | (simp only [List.all_cons, List.all_nil, Value.oneCell', Bool.and_self, Bool.and_true]; done)) [-Option.bind_some, hp_alloc_lt, hp_alloc_eq, hp_set_ne, wrap_small, ups_ap_cons, ups_ap_nil, upd_same, upd_other, env0_ap0, env0_aps, xt_a, xt_b, xt_c, nk_ptr, -splice_eq, -stR_cells, stR_box, stR_boxA, stR_row, stR_row0, stR_row1, stR_rowA, stR_rowA0, splice_rowv, splice_rowv0, splice_rowv1, splice_z, splice_n, splice_s, nth_rowv, nth_rowv0, nth_rowv1, rowv_len, hn0, hn1, bts_size, show (0 : Int) < s.length by omega, hsp, hw1, bo_quo, hq, hw2, show ¬ (q : Int) ≤ s.length by omega, hlt]
  rw [strings_Join_j1_eq]
  simp (maxSteps := 1000000) (disch := first | assumption | omega | (simp only [World.size_alloc, size_setRow, dw_size]; done) | (simp only [World.size_alloc, size_setRow, dw_size] <;> omega) | (simp only [List.length_set, Array.length_toList, List.length_cons, List.length_nil, List.length_append, bts_size] <;> omega) | (simp only [List.all_cons, List.all_nil, Value.oneCell', Bool.and_self, Bool.and_true]; done)) [-Option.bind_some, hp_alloc_lt, hp_alloc_eq, hp_set_ne, wrap_small, ups_ap_cons, ups_ap_nil, upd_same, upd_other, env0_ap0, env0_aps, xt_a, xt_b, xt_c, nk_ptr, -splice_eq, -stR_cells, stR_box, stR_boxA, stR_row, stR_row0, stR_row1, stR_rowA, stR_rowA0, splice_rowv, splice_rowv0, splice_rowv1, splice_z, splice_n, splice_s, nth_rowv, nth_rowv0, nth_rowv1, rowv_len, bts_size, hw1, bo_mul, hw3, hw4, hlt]
  rw [strings_Join_j2_eq]
  simp (maxSteps := 1000000) (disch := first | assumption | omega | (simp only [World.size_alloc, size_setRow, dw_size]; done) | (simp only [World.size_alloc, size_setRow, dw_size] <;> omega) | (simp only [List.length_set, Array.length_toList, List.length_cons, List.length_nil, List.length_append, bts_size] <;> omega) | (simp only [List.all_cons, List.all_nil, Value.oneCell', Bool.and_self, Bool.and_true]; done)) [-Option.bind_some, hp_alloc_lt, hp_alloc_eq, hp_set_ne, wrap_small, ups_ap_cons, ups_ap_nil, upd_same, upd_other, env0_ap0, env0_aps, xt_a, xt_b, xt_c, nk_ptr, -splice_eq, -stR_cells, stR_box, stR_boxA, stR_row, stR_row0, stR_row1, stR_rowA, stR_rowA0, splice_rowv, splice_rowv0, splice_rowv1, splice_z, splice_n, splice_s, nth_rowv, nth_rowv0, nth_rowv1, rowv_len, hlt]
  exact Ret.mono (Join_l1 (g := g) (o := o) (c := c) (n := n) (s := s) (xs := xs) (w0 := w) hn hx hs hs0 hn2 (by omega) hnc hA n 0 _ t (by omega) (by first | omega | assumption | rfl | exact congrArg i64 (by omega) | (simp; done) | (simp; omega)) (by first | omega | assumption | rfl | exact congrArg i64 (by omega) | (simp; done) | (simp; omega)) (by first | omega | assumption | rfl | exact congrArg i64 (by omega) | (simp; done) | (simp; omega)) (by first | omega | assumption | rfl | exact congrArg i64 (by omega) | (simp; done) | (simp; omega)) (by first | omega | assumption | rfl | exact congrArg i64 (by omega) | (simp; done) | (simp; omega)) (by first | omega | assumption | rfl | exact congrArg i64 (by omega) | (simp; done) | (simp; omega)) (by omega) hsn0) hQ
end Go.Proofs.YtgdacclgooaodaaGreatDoor.X
set_option linter.unusedVariables false
set_option linter.unusedSimpArgs false
set_option maxRecDepth 100000
set_option maxHeartbeats 1000000
namespace Go.Proofs.YtgdacclgooaodaaGreatDoor.X
open Go Go.Ev Go.RowKit
theorem o_str {S : Nat → Prop} {w : World} {a : Option Addr} {n c : Nat} {xs : List (List UInt8)} (h : O tStrs S w [.slice a n c] (xs.map bts)) (h0 : 0 < xs.length) : ∃ g o, a = some ⟨g, o, none⟩ ∧ StrAt w g o xs := by
  obtain ⟨x, hx, _⟩ := drop_at (l := xs) (k := 0) h0
  obtain ⟨g, o, rfl, _⟩ := rdS (i := 0) h (by rw [List.getElem?_map, hx]; rfl) Ext.rfl
  refine ⟨g, o, rfl, fun i y hy => ?_⟩
  obtain ⟨_, _, he, h1⟩ := rdS (i := i) h (by rw [List.getElem?_map, hy]; rfl) Ext.rfl
  cases he
  exact h1
theorem put_str {w0 w : World} {sv : Value} {parts : List (List UInt8)} {g : Nat} {s : List UInt8} (E0 : Ext w0 w) (ho : O tStrs (In w0.heap.size w.heap.size) w [sv] (parts.map bts)) (hpl : parts.length ≤ 1000000) (hs : s.length ≤ 140737488351232) (hg : hp w g = some (.cells #[.string (bts s)] 9 (0, 0))) :
      Ret (b_append P #[41, 41] 41 #[sv, .slice (some ⟨g, 0, none⟩) 1 1] w) fun r => ∃ a q, r.1 = .slice a (parts.length + 1) q ∧ O tStrs (In w0.heap.size r.2.heap.size) r.2 [.slice a (parts.length + 1) q] ((parts ++ [s]).map bts) ∧ Ext w0 r.2 := by
    have hz := E0.size
    refine Ret.mono (O.appD (L := LStr) (mx := 8796093021952) flat_str el_41 zz_9 rfl (by decide) ho (one_raw (P := P) (by rw [bts_size]; exact hs) hg) (by simp; omega) (by decide) (by decide)) ?_
    rintro ⟨_, w1⟩ ⟨a1, c1, rfl, o1, M1⟩
    have zM1 := M1.size
    try simp only [World.size_alloc, size_setRow, dw_size] at zM1
    try dsimp only at o1 M1
    have zM1 := M1.size
    have F1 : Ext w0 w1 := Mod.after (a := w0) E0 M1 (by intro x hx h; simp only [In] at h; omega)
    refine ⟨a1, c1, by simp, ?_, F1⟩
    rw [List.map_append]
    rw [List.length_map] at o1
    exact o1.wide (by intro b hb hl; simp only [In] at hb ⊢; rcases hb with hb | hb <;> omega)
theorem Past_text_n {a : Option Addr} {c : Nat} {S : Nat → Prop} {xs : List Tag} {w0 : World} (G : Glob w0) (hok : ∀ t ∈ xs, tagOk t = true) (hl2 : 2 ≤ xs.length) (hl4 : xs.length ≤ 100) (ha : D tTags S w0 [.slice a xs.length c] xs) :
    ∀ (d k : Nat) (e : Env) (w : World) (sv : Value), k + d = xs.length → e 3 = sv → e 11 = .slice a xs.length c → e 12 = i64 xs.length → e 13 = i64 k → Ext w0 w → O tStrs (In w0.heap.size w.heap.size) w [sv] (((xs.take k).map tagL).map bts) →
    Ret (impl_Past_text_l1 e w) fun r => r.1 = .string (bts (joinL [32] (xs.map tagL))) ∧ Ext w0 r.2 := by
  have hn := ha.n
  intro d
  induction d with
  | zero =>
    intro k e w sv hd e3 e11 e12 e13 E0 ho
    have zE0 := E0.size
    try simp only [World.size_alloc, size_setRow, dw_size] at zE0
    rw [impl_Past_text_l1_eq]
    obtain rfl : k = xs.length := by omega
    rw [List.take_of_length_le (Nat.le_refl _)] at ho
    obtain ⟨a1, q1, rfl, _⟩ := ho.d.sl
    have ho' := ho
    rw [List.length_map, List.length_map] at ho' e3
    have hcl := ho'.clip
    obtain ⟨g, o, rfl, hA⟩ := o_str ho' (by rw [List.length_map]; omega)
    refine Ret.post fun Q hQ => ?_
    simp (maxSteps := 1000000) (disch := first | assumption | omega | (simp only [World.size_alloc, size_setRow, dw_size]; done) | (simp only [World.size_alloc, size_setRow, dw_size] <;> omega) | (simp only [List.length_set, Array.length_toList, List.length_cons, List.length_nil, List.length_append, bts_size] <;> omega) | (simp only [List.all_cons, List.all_nil, Value.oneCell', Bool.and_self, Bool.and_true]; done)) [-Option.bind_some, hp_alloc_lt, hp_alloc_eq, hp_set_ne, wrap_small, ups_ap_cons, ups_ap_nil, upd_same, upd_other, env0_ap0, env0_aps, xt_a, xt_b, xt_c, nk_ptr, -splice_eq, -stR_cells, stR_box, stR_boxA, stR_row, stR_row0, stR_row1, stR_rowA, stR_rowA0, splice_rowv, splice_rowv0, splice_rowv1, splice_z, splice_n, splice_s, nth_rowv, nth_rowv0, nth_rowv1, rowv_len, e3, e11, e12, e13, e3, e11, e12, e13, E0.blk]
    have hj := Join_m (g := g) (o := o) (c := q1) (n := xs.length) (s := [32]) (xs := xs.map tagL) (w := w) (by rw [List.length_map]) (fun x hx => by obtain ⟨t, ht, rfl⟩ := List.mem_map.1 hx; have := tagL_len (hok t ht); omega) (by decide) (by decide) hl2 (by omega) hcl.1 hA
    refine Ret.bind (hj) ?_
    rintro ⟨_, w1⟩ ⟨rfl, E1⟩
    try dsimp only at E1
    have zE1 := E1.size
    try simp only [World.size_alloc, size_setRow, dw_size] at zE1
    simp (maxSteps := 1000000) (disch := first | assumption | omega | (simp only [World.size_alloc, size_setRow, dw_size]; done) | (simp only [World.size_alloc, size_setRow, dw_size] <;> omega) | (simp only [List.length_set, Array.length_toList, List.length_cons, List.length_nil, List.length_append, bts_size] <;> omega) | (simp only [List.all_cons, List.all_nil, Value.oneCell', Bool.and_self, Bool.and_true]; done)) [-Option.bind_some, hp_alloc_lt, hp_alloc_eq, hp_set_ne, wrap_small, ups_ap_cons, ups_ap_nil, upd_same, upd_other, env0_ap0, env0_aps, xt_a, xt_b, xt_c, nk_ptr, -splice_eq, -stR_cells, stR_box, stR_boxA, stR_row, stR_row0, stR_row1, stR_rowA, stR_rowA0, splice_rowv, splice_rowv0, splice_rowv1, splice_z, splice_n, splice_s, nth_rowv, nth_rowv0, nth_rowv1, rowv_len, e3, e11, e12, e13, E0.blk, E1.blk]
    exact hQ _ ⟨rfl, by (repeat (first | exact Ext.rfl | assumption | (refine Ext.al ?_ _) | (refine Ext.dw ?_) | (refine Ext.set ?_ (by first | omega | (simp only [World.size_alloc, size_setRow, dw_size]; omega)) _) | (refine Ext.tr ?_ (by assumption))))⟩
  | succ d ih =>
    intro k e w sv hd e3 e11 e12 e13 E0 ho
    have zE0 := E0.size
    try simp only [World.size_alloc, size_setRow, dw_size] at zE0
    rw [impl_Past_text_l1_eq]
    have hlt : k < xs.length := by omega
    obtain ⟨x, hx, hdx⟩ := drop_at hlt
    have hox := hok x (List.mem_of_getElem? hx)
    have hxl := tagL_len hox
    have hz := E0.size
    obtain ⟨b1, o1, cs1, rfl, A1, D1, _, l1⟩ := (ha.ext E0).at (by decide) hx
    obtain rfl := D.tag.1 D1
    have p0 := A1 0 _ rfl
    have p1 := A1 1 _ rfl
    simp only [LVer_n, LTag_n, LNode_n, Nat.add_zero] at p0 p1
    refine Ret.post fun Q hQ => ?_
    simp (maxSteps := 1000000) (disch := first | assumption | omega | (simp only [World.size_alloc, size_setRow, dw_size]; done) | (simp only [World.size_alloc, size_setRow, dw_size] <;> omega) | (simp only [List.length_set, Array.length_toList, List.length_cons, List.length_nil, List.length_append, bts_size] <;> omega) | (simp only [List.all_cons, List.all_nil, Value.oneCell', Bool.and_self, Bool.and_true]; done)) [-Option.bind_some, hp_alloc_lt, hp_alloc_eq, hp_set_ne, wrap_small, ups_ap_cons, ups_ap_nil, upd_same, upd_other, env0_ap0, env0_aps, xt_a, xt_b, xt_c, nk_ptr, -splice_eq, -stR_cells, stR_box, stR_boxA, stR_row, stR_row0, stR_row1, stR_rowA, stR_rowA0, splice_rowv, splice_rowv0, splice_rowv1, splice_z, splice_n, splice_s, nth_rowv, nth_rowv0, nth_rowv1, rowv_len, e3, e11, e12, e13, hlt, ia_24, e3, e11, e12, e13, E0.blk, hlt, p0, p1]
    refine Ret.bind (impl_Tag_text_m hox (G.ext (by (repeat (first | exact Ext.rfl | assumption | (refine Ext.al ?_ _) | (refine Ext.dw ?_) | (refine Ext.set ?_ (by first | omega | (simp only [World.size_alloc, size_setRow, dw_size]; omega)) _) | (refine Ext.tr ?_ (by assumption))))))) ?_
    rintro ⟨_, w1⟩ ⟨rfl, E1⟩
    try dsimp only at E1
    have zE1 := E1.size
    try simp only [World.size_alloc, size_setRow, dw_size] at zE1
    simp (maxSteps := 1000000) (disch := first | assumption | omega | (simp only [World.size_alloc, size_setRow, dw_size]; done) | (simp only [World.size_alloc, size_setRow, dw_size] <;> omega) | (simp only [List.length_set, Array.length_toList, List.length_cons, List.length_nil, List.length_append, bts_size] <;> omega) | (simp only [List.all_cons, List.all_nil, Value.oneCell', Bool.and_self, Bool.and_true]; done)) [-Option.bind_some, hp_alloc_lt, hp_alloc_eq, hp_set_ne, wrap_small, ups_ap_cons, ups_ap_nil, upd_same, upd_other, env0_ap0, env0_aps, xt_a, xt_b, xt_c, nk_ptr, -splice_eq, -stR_cells, stR_box, stR_boxA, stR_row, stR_row0, stR_row1, stR_rowA, stR_rowA0, splice_rowv, splice_rowv0, splice_rowv1, splice_z, splice_n, splice_s, nth_rowv, nth_rowv0, nth_rowv1, rowv_len, e3, e11, e12, e13, e3, e11, e12, e13, E0.blk, hlt, p0, p1, E1.blk]
    refine Ret.bind (put_str (w0 := w0) (s := tagL x) (parts := (xs.take k).map tagL) (g := w1.heap.size) (by (repeat (first | exact Ext.rfl | assumption | (refine Ext.al ?_ _) | (refine Ext.dw ?_) | (refine Ext.set ?_ (by first | omega | (simp only [World.size_alloc, size_setRow, dw_size]; omega)) _) | (refine Ext.tr ?_ (by assumption))))) ?_ (by rw [List.length_map, List.length_take]; omega) (by omega) (by first | assumption | rfl | (simp (maxSteps := 1000000) (disch := first | assumption | omega | (simp only [World.size_alloc, size_setRow, dw_size]; done) | (simp only [World.size_alloc, size_setRow, dw_size] <;> omega) | (simp only [List.length_set, Array.length_toList, List.length_cons, List.length_nil, List.length_append, bts_size] <;> omega) | (simp only [List.all_cons, List.all_nil, Value.oneCell', Bool.and_self, Bool.and_true]; done)) [-Option.bind_some, hp_alloc_lt, hp_alloc_eq, hp_set_ne, wrap_small, ups_ap_cons, ups_ap_nil, upd_same, upd_other, env0_ap0, env0_aps, xt_a, xt_b, xt_c, nk_ptr, -splice_eq, -stR_cells, stR_box, stR_boxA, stR_row, stR_row0, stR_row1, stR_rowA, stR_rowA0, splice_rowv, splice_rowv0, splice_rowv1, splice_z, splice_n, splice_s, nth_rowv, nth_rowv0, nth_rowv1, rowv_len, e3, e11, e12, e13, E0.blk, hlt, p0, p1, E1.blk]; done))) ?_
    · exact (ho.keep (by intro b hS hb; (try dsimp only at hS); (try simp only [In, World.size_alloc, size_setRow, dw_size] at hS hb); first | rfl | (simp (disch := first | assumption | omega | (simp only [World.size_alloc, size_setRow, dw_size]; omega) | (simp only [World.size_alloc, size_setRow, dw_size, In]; omega)) only [E0.blk, E1.blk, hp_alloc_lt, hp_set_ne, hp_dw]; done))).wide (by intro b h1 h2; (try dsimp only at h1); (try simp only [In, World.size_alloc, size_setRow, dw_size] at *); omega)
    · rintro ⟨_, w2⟩ ⟨a2, q2, rfl, o2, E2⟩
      have zE2 := E2.size
      try simp only [World.size_alloc, size_setRow, dw_size] at zE2
      try dsimp only at o2 E2
      have e5 : (xs.take k).map tagL ++ [tagL x] = (xs.take (k + 1)).map tagL := by rw [List.take_add_one, hx]; simp
      have hlk : ((xs.take k).map tagL).length = k := by rw [List.length_map, List.length_take]; omega
      rw [e5, hlk] at o2
      simp (maxSteps := 1000000) (disch := first | assumption | omega | (simp only [World.size_alloc, size_setRow, dw_size]; done) | (simp only [World.size_alloc, size_setRow, dw_size] <;> omega) | (simp only [List.length_set, Array.length_toList, List.length_cons, List.length_nil, List.length_append, bts_size] <;> omega) | (simp only [List.all_cons, List.all_nil, Value.oneCell', Bool.and_self, Bool.and_true]; done)) [-Option.bind_some, hp_alloc_lt, hp_alloc_eq, hp_set_ne, wrap_small, ups_ap_cons, ups_ap_nil, upd_same, upd_other, env0_ap0, env0_aps, xt_a, xt_b, xt_c, nk_ptr, -splice_eq, -stR_cells, stR_box, stR_boxA, stR_row, stR_row0, stR_row1, stR_rowA, stR_rowA0, splice_rowv, splice_rowv0, splice_rowv1, splice_z, splice_n, splice_s, nth_rowv, nth_rowv0, nth_rowv1, rowv_len, e3, e11, e12, e13, e3, e11, e12, e13, E0.blk, hlt, p0, p1, E1.blk, E2.blk, e5]
      exact Ret.mono (ih (k + 1) _ _ _ (by omega) rfl (by first | omega | assumption | rfl | exact congrArg i64 (by omega) | (simp; done) | (simp; omega)) (by first | omega | assumption | rfl | exact congrArg i64 (by omega) | (simp; done) | (simp; omega)) (by first | omega | assumption | rfl | exact congrArg i64 (by omega) | (simp; done) | (simp; omega)) E2 o2) hQ
theorem Past_text_m {a : Option Addr} {n c : Nat} {S : Nat → Prop} {xs : List Tag} {w : World} (G : Glob w) (hok : ∀ t ∈ xs, tagOk t = true) (hl2 : 2 ≤ xs.length) (hl4 : xs.length ≤ 100) (ha : D tTags S w [.slice a n c] xs) :
    Ret (EV P 36 #[.agg #[.slice a n c]] w) fun r => r.1 = .string (bts (joinL [32] (xs.map tagL))) ∧ Ext w r.2 := by
  obtain ⟨rfl, _⟩ := ha.n
  refine Ret.post fun Q hQ => ?_
  refine Ret.enter plain mixed (impl_Past_text_fn _ _) (by kernel_rfl) (n := 1) (by kernel_rfl) rfl ?_
  simp (maxSteps := 1000000) (disch := first | assumption | omega | (simp only [World.size_alloc, size_setRow, dw_size]; done) | (simp only [World.size_alloc, size_setRow, dw_size] <;> omega) | (simp only [List.length_set, Array.length_toList, List.length_cons, List.length_nil, List.length_append, bts_size] <;> omega) | (simp only [List.all_cons, List.all_nil, Value.oneCell', Bool.and_self, Bool.and_true]; done)) [-Option.bind_some, hp_alloc_lt, hp_alloc_eq, hp_set_ne, wrap_small, ups_ap_cons, ups_ap_nil, upd_same, upd_other, env0_ap0, env0_aps, xt_a, xt_b, xt_c, nk_ptr, -splice_eq, -stR_cells, stR_box, stR_boxA, stR_row, stR_row0, stR_row1, stR_rowA, stR_rowA0, splice_rowv, splice_rowv0, splice_rowv1, splice_z, splice_n, splice_s, nth_rowv, nth_rowv0, nth_rowv1, rowv_len]
  refine Ret.bind (O.make0 (L := LStr) (mx := 8796093021952) el_41 zz_9 rfl (by decide) (n := xs.length) (by omega) (by decide) (by decide)) ?_
  rintro ⟨_, w1⟩ ⟨rfl, o1, z1, E1⟩
  have zE1 := E1.size
  try simp only [World.size_alloc, size_setRow, dw_size] at zE1
  try dsimp only at o1 z1 E1
  have X1 : hp w1 w.heap.size = some (.cells #[.slice a xs.length c] 26 (0, 0)) := (E1.blk (by simp)).trans (by first | assumption | rfl | (simp (maxSteps := 1000000) (disch := first | assumption | omega | (simp only [World.size_alloc, size_setRow, dw_size]; done) | (simp only [World.size_alloc, size_setRow, dw_size] <;> omega) | (simp only [List.length_set, Array.length_toList, List.length_cons, List.length_nil, List.length_append, bts_size] <;> omega) | (simp only [List.all_cons, List.all_nil, Value.oneCell', Bool.and_self, Bool.and_true]; done)) [-Option.bind_some, hp_alloc_lt, hp_alloc_eq, hp_set_ne, wrap_small, ups_ap_cons, ups_ap_nil, upd_same, upd_other, env0_ap0, env0_aps, xt_a, xt_b, xt_c, nk_ptr, -splice_eq, -stR_cells, stR_box, stR_boxA, stR_row, stR_row0, stR_row1, stR_rowA, stR_rowA0, splice_rowv, splice_rowv0, splice_rowv1, splice_z, splice_n, splice_s, nth_rowv, nth_rowv0, nth_rowv1, rowv_len, E1.blk]; done))
  simp only [World.size_alloc] at z1 o1
  have F1 : Ext w w1 := by (repeat (first | exact Ext.rfl | assumption | (refine Ext.al ?_ _) | (refine Ext.dw ?_) | (refine Ext.set ?_ (by first | omega | (simp only [World.size_alloc, size_setRow, dw_size]; omega)) _) | (refine Ext.tr ?_ (by assumption))))
  have zF1 := F1.size
  simp (maxSteps := 1000000) (disch := first | assumption | omega | (simp only [World.size_alloc, size_setRow, dw_size]; done) | (simp only [World.size_alloc, size_setRow, dw_size] <;> omega) | (simp only [List.length_set, Array.length_toList, List.length_cons, List.length_nil, List.length_append, bts_size] <;> omega) | (simp only [List.all_cons, List.all_nil, Value.oneCell', Bool.and_self, Bool.and_true]; done)) [-Option.bind_some, hp_alloc_lt, hp_alloc_eq, hp_set_ne, wrap_small, ups_ap_cons, ups_ap_nil, upd_same, upd_other, env0_ap0, env0_aps, xt_a, xt_b, xt_c, nk_ptr, -splice_eq, -stR_cells, stR_box, stR_boxA, stR_row, stR_row0, stR_row1, stR_rowA, stR_rowA0, splice_rowv, splice_rowv0, splice_rowv1, splice_z, splice_n, splice_s, nth_rowv, nth_rowv0, nth_rowv1, rowv_len, X1, E1.blk, X1]
  exact Ret.mono (Past_text_n G hok hl2 hl4 ha xs.length 0 _ w1 _ (by omega) rfl (by first | omega | assumption | rfl | exact congrArg i64 (by omega) | (simp; done) | (simp; omega)) (by first | omega | assumption | rfl | exact congrArg i64 (by omega) | (simp; done) | (simp; omega)) (by first | omega | assumption | rfl | exact congrArg i64 (by omega) | (simp; done) | (simp; omega)) F1 (o1.wide (by intro b hb hl; simp only [In]; omega))) hQ
theorem Ver_rest_m {S : Nat → Prop} {cs : List Value} {v : Ver} {w : World} (ha : D tVer S w cs v) : Ret (EV P 37 #[.agg cs.toArray] w) fun r => r.1 = .string (bts (restL v)) ∧ Ext w r.2 := by
  obtain ⟨a, c, rfl, hpp, ht⟩ := D.ver.1 ha
  refine Ret.post fun Q hQ => ?_
  refine Ret.enter plain mixed (impl_Ver_rest_fn _ _) (by kernel_rfl) (n := 1) (by kernel_rfl) rfl ?_
  cases hg : v.gone
  · simp (maxSteps := 1000000) (disch := first | assumption | omega | (simp only [World.size_alloc, size_setRow, dw_size]; done) | (simp only [World.size_alloc, size_setRow, dw_size] <;> omega) | (simp only [List.length_set, Array.length_toList, List.length_cons, List.length_nil, List.length_append, bts_size] <;> omega) | (simp only [List.all_cons, List.all_nil, Value.oneCell', Bool.and_self, Bool.and_true]; done)) [-Option.bind_some, hp_alloc_lt, hp_alloc_eq, hp_set_ne, wrap_small, ups_ap_cons, ups_ap_nil, upd_same, upd_other, env0_ap0, env0_aps, xt_a, xt_b, xt_c, nk_ptr, -splice_eq, -stR_cells, stR_box, stR_boxA, stR_row, stR_row0, stR_row1, stR_rowA, stR_rowA0, splice_rowv, splice_rowv0, splice_rowv1, splice_z, splice_n, splice_s, nth_rowv, nth_rowv0, nth_rowv1, rowv_len, hg, mk_bts, bo_add_btx]
    exact hQ _ ⟨by simp [restL, hg], by (repeat (first | exact Ext.rfl | assumption | (refine Ext.al ?_ _) | (refine Ext.dw ?_) | (refine Ext.set ?_ (by first | omega | (simp only [World.size_alloc, size_setRow, dw_size]; omega)) _) | (refine Ext.tr ?_ (by assumption))))⟩
  · simp (maxSteps := 1000000) (disch := first | assumption | omega | (simp only [World.size_alloc, size_setRow, dw_size]; done) | (simp only [World.size_alloc, size_setRow, dw_size] <;> omega) | (simp only [List.length_set, Array.length_toList, List.length_cons, List.length_nil, List.length_append, bts_size] <;> omega) | (simp only [List.all_cons, List.all_nil, Value.oneCell', Bool.and_self, Bool.and_true]; done)) [-Option.bind_some, hp_alloc_lt, hp_alloc_eq, hp_set_ne, wrap_small, ups_ap_cons, ups_ap_nil, upd_same, upd_other, env0_ap0, env0_aps, xt_a, xt_b, xt_c, nk_ptr, -splice_eq, -stR_cells, stR_box, stR_boxA, stR_row, stR_row0, stR_row1, stR_rowA, stR_rowA0, splice_rowv, splice_rowv0, splice_rowv1, splice_z, splice_n, splice_s, nth_rowv, nth_rowv0, nth_rowv1, rowv_len, hg, mk_bts]
    exact hQ _ ⟨by simp [restL, hg], by (repeat (first | exact Ext.rfl | assumption | (refine Ext.al ?_ _) | (refine Ext.dw ?_) | (refine Ext.set ?_ (by first | omega | (simp only [World.size_alloc, size_setRow, dw_size]; omega)) _) | (refine Ext.tr ?_ (by assumption))))⟩
def verPutL (v : Ver) : List UInt8 := if verOk v then verL v else []
theorem verL_bound {v : Ver} (h : verOk v = true) : (verL v).length ≤ 20000 + v.text.size := by
  obtain ⟨a1, a2, a3, a4, a5, a6, a7⟩ := ver_parts h
  have h1 := decL_len v.key.toNat
  have h2 := tagL_len a7
  have h3 := pastL_len a5
  have hbl : v.text.toList.length = v.text.size := byte_list _
  rw [a6] at h3
  have h4 : (restL v).length ≤ 1 + v.text.size := by
    unfold restL
    split
    · simp
    · rw [List.length_cons, hbl]; omega
  simp only [verL, List.length_append, List.length_cons]
  omega
theorem impl_VerPut_m {S : Nat → Prop} {cs : List Value} {v : Ver} {w : World} (G : Glob w) (ha : D tVer S w cs v) : Ret (EV P 12 #[.agg cs.toArray] w) fun r => r.1 = .string (bts (verPutL v)) ∧ Ext w r.2 := by
  have ha0 := ha
  obtain ⟨a, c, rfl, hpp, ht⟩ := D.ver.1 ha
  refine Ret.post fun Q hQ => ?_
  refine Ret.enter plain mixed (impl_VerPut_fn _ _) (by kernel_rfl) (n := 1) (by kernel_rfl) rfl ?_
  simp (maxSteps := 1000000) (disch := first | assumption | omega | (simp only [World.size_alloc, size_setRow, dw_size]; done) | (simp only [World.size_alloc, size_setRow, dw_size] <;> omega) | (simp only [List.length_set, Array.length_toList, List.length_cons, List.length_nil, List.length_append, bts_size] <;> omega) | (simp only [List.all_cons, List.all_nil, Value.oneCell', Bool.and_self, Bool.and_true]; done)) [-Option.bind_some, hp_alloc_lt, hp_alloc_eq, hp_set_ne, wrap_small, ups_ap_cons, ups_ap_nil, upd_same, upd_other, env0_ap0, env0_aps, xt_a, xt_b, xt_c, nk_ptr, -splice_eq, -stR_cells, stR_box, stR_boxA, stR_row, stR_row0, stR_row1, stR_rowA, stR_rowA0, splice_rowv, splice_rowv0, splice_rowv1, splice_z, splice_n, splice_s, nth_rowv, nth_rowv0, nth_rowv1, rowv_len]
  refine Ret.bind (impl_VerOk_c (ha0.ext (by (repeat (first | exact Ext.rfl | assumption | (refine Ext.al ?_ _) | (refine Ext.dw ?_) | (refine Ext.set ?_ (by first | omega | (simp only [World.size_alloc, size_setRow, dw_size]; omega)) _) | (refine Ext.tr ?_ (by assumption)))))).rVer) ?_
  rintro ⟨_, w1⟩ ⟨rfl, E1⟩
  try dsimp only at E1
  have zE1 := E1.size
  try simp only [World.size_alloc, size_setRow, dw_size] at zE1
  have X1 : hp w1 w.heap.size = some (.cells #[i64 v.key, i64 v.tag.t, i64 v.tag.p, .slice a v.past.length c, .string v.text, .bool v.gone] 28 (0, 0)) := (by first | assumption | rfl | (simp (maxSteps := 1000000) (disch := first | assumption | omega | (simp only [World.size_alloc, size_setRow, dw_size]; done) | (simp only [World.size_alloc, size_setRow, dw_size] <;> omega) | (simp only [List.length_set, Array.length_toList, List.length_cons, List.length_nil, List.length_append, bts_size] <;> omega) | (simp only [List.all_cons, List.all_nil, Value.oneCell', Bool.and_self, Bool.and_true]; done)) [-Option.bind_some, hp_alloc_lt, hp_alloc_eq, hp_set_ne, wrap_small, ups_ap_cons, ups_ap_nil, upd_same, upd_other, env0_ap0, env0_aps, xt_a, xt_b, xt_c, nk_ptr, -splice_eq, -stR_cells, stR_box, stR_boxA, stR_row, stR_row0, stR_row1, stR_rowA, stR_rowA0, splice_rowv, splice_rowv0, splice_rowv1, splice_z, splice_n, splice_s, nth_rowv, nth_rowv0, nth_rowv1, rowv_len, E1.blk]; done))
  cases hv : verOk v
  · simp (maxSteps := 1000000) (disch := first | assumption | omega | (simp only [World.size_alloc, size_setRow, dw_size]; done) | (simp only [World.size_alloc, size_setRow, dw_size] <;> omega) | (simp only [List.length_set, Array.length_toList, List.length_cons, List.length_nil, List.length_append, bts_size] <;> omega) | (simp only [List.all_cons, List.all_nil, Value.oneCell', Bool.and_self, Bool.and_true]; done)) [-Option.bind_some, hp_alloc_lt, hp_alloc_eq, hp_set_ne, wrap_small, ups_ap_cons, ups_ap_nil, upd_same, upd_other, env0_ap0, env0_aps, xt_a, xt_b, xt_c, nk_ptr, -splice_eq, -stR_cells, stR_box, stR_boxA, stR_row, stR_row0, stR_row1, stR_rowA, stR_rowA0, splice_rowv, splice_rowv0, splice_rowv1, splice_z, splice_n, splice_s, nth_rowv, nth_rowv0, nth_rowv1, rowv_len, hv, E1.blk, X1]
    exact hQ _ ⟨by rw [verPutL, hv]; rfl, by (repeat (first | exact Ext.rfl | assumption | (refine Ext.al ?_ _) | (refine Ext.dw ?_) | (refine Ext.set ?_ (by first | omega | (simp only [World.size_alloc, size_setRow, dw_size]; omega)) _) | (refine Ext.tr ?_ (by assumption))))⟩
  · obtain ⟨a1, a2, a3, a4, a5, a6, a7⟩ := ver_parts hv
    obtain ⟨k, hk⟩ : ∃ k : Nat, v.key = k := ⟨v.key.toNat, by omega⟩
    have h1 := decL_len k
    have h2 := tagL_len a7
    have h3 := pastL_len a5
    rw [a6] at h3
    have hbl : v.text.toList.length = v.text.size := byte_list _
    have h4 : (restL v).length ≤ 1 + v.text.size := by
      unfold restL
      split
      · simp
      · rw [List.length_cons, hbl]; omega
    have hp2 : 32 :: joinL [32] (v.past.map tagL) = pastL v.past := by
      cases hvp : v.past with
      | nil => rw [hvp] at a6; simp at a6
      | cons t ts => exact joinL_past t ts
    have h5 := congrArg List.length hp2
    rw [List.length_cons] at h5
    have e : verPutL v = decL k ++ [32] ++ tagL v.tag ++ [32] ++ joinL [32] (v.past.map tagL) ++ [32] ++ restL v := by rw [verPutL, hv, if_pos rfl, verL, hk, ← hp2]; simp
    rw [e] at hQ
    rw [hk] at X1 ha0
    simp (maxSteps := 1000000) (disch := first | assumption | omega | (simp only [World.size_alloc, size_setRow, dw_size]; done) | (simp only [World.size_alloc, size_setRow, dw_size] <;> omega) | (simp only [List.length_set, Array.length_toList, List.length_cons, List.length_nil, List.length_append, bts_size] <;> omega) | (simp only [List.all_cons, List.all_nil, Value.oneCell', Bool.and_self, Bool.and_true]; done)) [-Option.bind_some, hp_alloc_lt, hp_alloc_eq, hp_set_ne, wrap_small, ups_ap_cons, ups_ap_nil, upd_same, upd_other, env0_ap0, env0_aps, xt_a, xt_b, xt_c, nk_ptr, -splice_eq, -stR_cells, stR_box, stR_boxA, stR_row, stR_row0, stR_row1, stR_rowA, stR_rowA0, splice_rowv, splice_rowv0, splice_rowv1, splice_z, splice_n, splice_s, nth_rowv, nth_rowv0, nth_rowv1, rowv_len, hv, X1, hk, E1.blk, X1]
    have G1 : Glob (dw w1) := G.ext (by (repeat (first | exact Ext.rfl | assumption | (refine Ext.al ?_ _) | (refine Ext.dw ?_) | (refine Ext.set ?_ (by first | omega | (simp only [World.size_alloc, size_setRow, dw_size]; omega)) _) | (refine Ext.tr ?_ (by assumption)))))
    refine Ret.bind (itoa_m (n := k) (by omega) G1) ?_
    rintro ⟨_, w2⟩ ⟨rfl, E2⟩
    try dsimp only at E2
    have zE2 := E2.size
    try simp only [World.size_alloc, size_setRow, dw_size] at zE2
    have X2 : hp w2 w.heap.size = some (.cells #[i64 k, i64 v.tag.t, i64 v.tag.p, .slice a v.past.length c, .string v.text, .bool v.gone] 28 (0, 0)) := (by first | assumption | rfl | (simp (maxSteps := 1000000) (disch := first | assumption | omega | (simp only [World.size_alloc, size_setRow, dw_size]; done) | (simp only [World.size_alloc, size_setRow, dw_size] <;> omega) | (simp only [List.length_set, Array.length_toList, List.length_cons, List.length_nil, List.length_append, bts_size] <;> omega) | (simp only [List.all_cons, List.all_nil, Value.oneCell', Bool.and_self, Bool.and_true]; done)) [-Option.bind_some, hp_alloc_lt, hp_alloc_eq, hp_set_ne, wrap_small, ups_ap_cons, ups_ap_nil, upd_same, upd_other, env0_ap0, env0_aps, xt_a, xt_b, xt_c, nk_ptr, -splice_eq, -stR_cells, stR_box, stR_boxA, stR_row, stR_row0, stR_row1, stR_rowA, stR_rowA0, splice_rowv, splice_rowv0, splice_rowv1, splice_z, splice_n, splice_s, nth_rowv, nth_rowv0, nth_rowv1, rowv_len, X1, E1.blk, X1, E2.blk]; done))
    simp (maxSteps := 1000000) (disch := first | assumption | omega | (simp only [World.size_alloc, size_setRow, dw_size]; done) | (simp only [World.size_alloc, size_setRow, dw_size] <;> omega) | (simp only [List.length_set, Array.length_toList, List.length_cons, List.length_nil, List.length_append, bts_size] <;> omega) | (simp only [List.all_cons, List.all_nil, Value.oneCell', Bool.and_self, Bool.and_true]; done)) [-Option.bind_some, hp_alloc_lt, hp_alloc_eq, hp_set_ne, wrap_small, ups_ap_cons, ups_ap_nil, upd_same, upd_other, env0_ap0, env0_aps, xt_a, xt_b, xt_c, nk_ptr, -splice_eq, -stR_cells, stR_box, stR_boxA, stR_row, stR_row0, stR_row1, stR_rowA, stR_rowA0, splice_rowv, splice_rowv0, splice_rowv1, splice_z, splice_n, splice_s, nth_rowv, nth_rowv0, nth_rowv1, rowv_len, X2, mk_bts, bo_add_btx, bts_list, E1.blk, X1, E2.blk, X2]
    refine Ret.bind (impl_Tag_text_m a7 (G1.ext (by (repeat (first | exact Ext.rfl | assumption | (refine Ext.al ?_ _) | (refine Ext.dw ?_) | (refine Ext.set ?_ (by first | omega | (simp only [World.size_alloc, size_setRow, dw_size]; omega)) _) | (refine Ext.tr ?_ (by assumption))))))) ?_
    rintro ⟨_, w3⟩ ⟨rfl, E3⟩
    try dsimp only at E3
    have zE3 := E3.size
    try simp only [World.size_alloc, size_setRow, dw_size] at zE3
    have X3 : hp w3 w.heap.size = some (.cells #[i64 k, i64 v.tag.t, i64 v.tag.p, .slice a v.past.length c, .string v.text, .bool v.gone] 28 (0, 0)) := (by first | assumption | rfl | (simp (maxSteps := 1000000) (disch := first | assumption | omega | (simp only [World.size_alloc, size_setRow, dw_size]; done) | (simp only [World.size_alloc, size_setRow, dw_size] <;> omega) | (simp only [List.length_set, Array.length_toList, List.length_cons, List.length_nil, List.length_append, bts_size] <;> omega) | (simp only [List.all_cons, List.all_nil, Value.oneCell', Bool.and_self, Bool.and_true]; done)) [-Option.bind_some, hp_alloc_lt, hp_alloc_eq, hp_set_ne, wrap_small, ups_ap_cons, ups_ap_nil, upd_same, upd_other, env0_ap0, env0_aps, xt_a, xt_b, xt_c, nk_ptr, -splice_eq, -stR_cells, stR_box, stR_boxA, stR_row, stR_row0, stR_row1, stR_rowA, stR_rowA0, splice_rowv, splice_rowv0, splice_rowv1, splice_z, splice_n, splice_s, nth_rowv, nth_rowv0, nth_rowv1, rowv_len, X2, E1.blk, X1, E2.blk, X2, E3.blk]; done))
    simp (maxSteps := 1000000) (disch := first | assumption | omega | (simp only [World.size_alloc, size_setRow, dw_size]; done) | (simp only [World.size_alloc, size_setRow, dw_size] <;> omega) | (simp only [List.length_set, Array.length_toList, List.length_cons, List.length_nil, List.length_append, bts_size] <;> omega) | (simp only [List.all_cons, List.all_nil, Value.oneCell', Bool.and_self, Bool.and_true]; done)) [-Option.bind_some, hp_alloc_lt, hp_alloc_eq, hp_set_ne, wrap_small, ups_ap_cons, ups_ap_nil, upd_same, upd_other, env0_ap0, env0_aps, xt_a, xt_b, xt_c, nk_ptr, -splice_eq, -stR_cells, stR_box, stR_boxA, stR_row, stR_row0, stR_row1, stR_rowA, stR_rowA0, splice_rowv, splice_rowv0, splice_rowv1, splice_z, splice_n, splice_s, nth_rowv, nth_rowv0, nth_rowv1, rowv_len, X3, mk_bts, bo_add_btx, bts_list, E1.blk, X1, E2.blk, X2, E3.blk, X3]
    refine Ret.bind (Past_text_m (G1.ext (by (repeat (first | exact Ext.rfl | assumption | (refine Ext.al ?_ _) | (refine Ext.dw ?_) | (refine Ext.set ?_ (by first | omega | (simp only [World.size_alloc, size_setRow, dw_size]; omega)) _) | (refine Ext.tr ?_ (by assumption)))))) a5 (by omega) (by omega) (hpp.ext (by (repeat (first | exact Ext.rfl | assumption | (refine Ext.al ?_ _) | (refine Ext.dw ?_) | (refine Ext.set ?_ (by first | omega | (simp only [World.size_alloc, size_setRow, dw_size]; omega)) _) | (refine Ext.tr ?_ (by assumption))))))) ?_
    rintro ⟨_, w4⟩ ⟨rfl, E4⟩
    try dsimp only at E4
    have zE4 := E4.size
    try simp only [World.size_alloc, size_setRow, dw_size] at zE4
    have X4 : hp w4 w.heap.size = some (.cells #[i64 k, i64 v.tag.t, i64 v.tag.p, .slice a v.past.length c, .string v.text, .bool v.gone] 28 (0, 0)) := (by first | assumption | rfl | (simp (maxSteps := 1000000) (disch := first | assumption | omega | (simp only [World.size_alloc, size_setRow, dw_size]; done) | (simp only [World.size_alloc, size_setRow, dw_size] <;> omega) | (simp only [List.length_set, Array.length_toList, List.length_cons, List.length_nil, List.length_append, bts_size] <;> omega) | (simp only [List.all_cons, List.all_nil, Value.oneCell', Bool.and_self, Bool.and_true]; done)) [-Option.bind_some, hp_alloc_lt, hp_alloc_eq, hp_set_ne, wrap_small, ups_ap_cons, ups_ap_nil, upd_same, upd_other, env0_ap0, env0_aps, xt_a, xt_b, xt_c, nk_ptr, -splice_eq, -stR_cells, stR_box, stR_boxA, stR_row, stR_row0, stR_row1, stR_rowA, stR_rowA0, splice_rowv, splice_rowv0, splice_rowv1, splice_z, splice_n, splice_s, nth_rowv, nth_rowv0, nth_rowv1, rowv_len, X3, E1.blk, X1, E2.blk, X2, E3.blk, X3, E4.blk]; done))
    simp (maxSteps := 1000000) (disch := first | assumption | omega | (simp only [World.size_alloc, size_setRow, dw_size]; done) | (simp only [World.size_alloc, size_setRow, dw_size] <;> omega) | (simp only [List.length_set, Array.length_toList, List.length_cons, List.length_nil, List.length_append, bts_size] <;> omega) | (simp only [List.all_cons, List.all_nil, Value.oneCell', Bool.and_self, Bool.and_true]; done)) [-Option.bind_some, hp_alloc_lt, hp_alloc_eq, hp_set_ne, wrap_small, ups_ap_cons, ups_ap_nil, upd_same, upd_other, env0_ap0, env0_aps, xt_a, xt_b, xt_c, nk_ptr, -splice_eq, -stR_cells, stR_box, stR_boxA, stR_row, stR_row0, stR_row1, stR_rowA, stR_rowA0, splice_rowv, splice_rowv0, splice_rowv1, splice_z, splice_n, splice_s, nth_rowv, nth_rowv0, nth_rowv1, rowv_len, X4, mk_bts, bo_add_btx, bts_list, E1.blk, X1, E2.blk, X2, E3.blk, X3, E4.blk, X4]
    refine Ret.bind (Ver_rest_m (ha0.ext (by (repeat (first | exact Ext.rfl | assumption | (refine Ext.al ?_ _) | (refine Ext.dw ?_) | (refine Ext.set ?_ (by first | omega | (simp only [World.size_alloc, size_setRow, dw_size]; omega)) _) | (refine Ext.tr ?_ (by assumption))))))) ?_
    rintro ⟨_, w5⟩ ⟨rfl, E5⟩
    try dsimp only at E5
    have zE5 := E5.size
    try simp only [World.size_alloc, size_setRow, dw_size] at zE5
    simp (maxSteps := 1000000) (disch := first | assumption | omega | (simp only [World.size_alloc, size_setRow, dw_size]; done) | (simp only [World.size_alloc, size_setRow, dw_size] <;> omega) | (simp only [List.length_set, Array.length_toList, List.length_cons, List.length_nil, List.length_append, bts_size] <;> omega) | (simp only [List.all_cons, List.all_nil, Value.oneCell', Bool.and_self, Bool.and_true]; done)) [-Option.bind_some, hp_alloc_lt, hp_alloc_eq, hp_set_ne, wrap_small, ups_ap_cons, ups_ap_nil, upd_same, upd_other, env0_ap0, env0_aps, xt_a, xt_b, xt_c, nk_ptr, -splice_eq, -stR_cells, stR_box, stR_boxA, stR_row, stR_row0, stR_row1, stR_rowA, stR_rowA0, splice_rowv, splice_rowv0, splice_rowv1, splice_z, splice_n, splice_s, nth_rowv, nth_rowv0, nth_rowv1, rowv_len, mk_bts, bo_add_btx, bts_list, E1.blk, X1, E2.blk, X2, E3.blk, X3, E4.blk, X4, E5.blk]
    exact hQ _ ⟨by simp, by (repeat (first | exact Ext.rfl | assumption | (refine Ext.al ?_ _) | (refine Ext.dw ?_) | (refine Ext.set ?_ (by first | omega | (simp only [World.size_alloc, size_setRow, dw_size]; omega)) _) | (refine Ext.tr ?_ (by assumption))))⟩
theorem spec_VerPut_m {S : Nat → Prop} {cs : List Value} {v : Ver} {w : World} (ha : D tVer S w cs v) : Ret (EV P 13 #[.agg cs.toArray] w) fun r => r.1 = .string (bts (verPutL v)) ∧ Ext w r.2 := by
  have ha0 := ha
  obtain ⟨a, c, rfl, hpp, ht⟩ := D.ver.1 ha
  refine Ret.post fun Q hQ => ?_
  refine Ret.enter plain mixed (spec_VerPut_fn _ _) (by kernel_rfl) (n := 1) (by kernel_rfl) rfl ?_
  simp (maxSteps := 1000000) (disch := first | assumption | omega | (simp only [World.size_alloc, size_setRow, dw_size]; done) | (simp only [World.size_alloc, size_setRow, dw_size] <;> omega) | (simp only [List.length_set, Array.length_toList, List.length_cons, List.length_nil, List.length_append, bts_size] <;> omega) | (simp only [List.all_cons, List.all_nil, Value.oneCell', Bool.and_self, Bool.and_true]; done)) [-Option.bind_some, hp_alloc_lt, hp_alloc_eq, hp_set_ne, wrap_small, ups_ap_cons, ups_ap_nil, upd_same, upd_other, env0_ap0, env0_aps, xt_a, xt_b, xt_c, nk_ptr, -splice_eq, -stR_cells, stR_box, stR_boxA, stR_row, stR_row0, stR_row1, stR_rowA, stR_rowA0, splice_rowv, splice_rowv0, splice_rowv1, splice_z, splice_n, splice_s, nth_rowv, nth_rowv0, nth_rowv1, rowv_len]
  refine Ret.bind (spec_l2Ok_c (ha0.ext (by (repeat (first | exact Ext.rfl | assumption | (refine Ext.al ?_ _) | (refine Ext.dw ?_) | (refine Ext.set ?_ (by first | omega | (simp only [World.size_alloc, size_setRow, dw_size]; omega)) _) | (refine Ext.tr ?_ (by assumption)))))).rVer) ?_
  rintro ⟨_, w1⟩ ⟨rfl, E1⟩
  try dsimp only at E1
  have zE1 := E1.size
  try simp only [World.size_alloc, size_setRow, dw_size] at zE1
  cases hv : verOk v
  · simp (maxSteps := 1000000) (disch := first | assumption | omega | (simp only [World.size_alloc, size_setRow, dw_size]; done) | (simp only [World.size_alloc, size_setRow, dw_size] <;> omega) | (simp only [List.length_set, Array.length_toList, List.length_cons, List.length_nil, List.length_append, bts_size] <;> omega) | (simp only [List.all_cons, List.all_nil, Value.oneCell', Bool.and_self, Bool.and_true]; done)) [-Option.bind_some, hp_alloc_lt, hp_alloc_eq, hp_set_ne, wrap_small, ups_ap_cons, ups_ap_nil, upd_same, upd_other, env0_ap0, env0_aps, xt_a, xt_b, xt_c, nk_ptr, -splice_eq, -stR_cells, stR_box, stR_boxA, stR_row, stR_row0, stR_row1, stR_rowA, stR_rowA0, splice_rowv, splice_rowv0, splice_rowv1, splice_z, splice_n, splice_s, nth_rowv, nth_rowv0, nth_rowv1, rowv_len, hv, E1.blk]
    exact hQ _ ⟨by rw [verPutL, hv]; rfl, by (repeat (first | exact Ext.rfl | assumption | (refine Ext.al ?_ _) | (refine Ext.dw ?_) | (refine Ext.set ?_ (by first | omega | (simp only [World.size_alloc, size_setRow, dw_size]; omega)) _) | (refine Ext.tr ?_ (by assumption))))⟩
  · simp (maxSteps := 1000000) (disch := first | assumption | omega | (simp only [World.size_alloc, size_setRow, dw_size]; done) | (simp only [World.size_alloc, size_setRow, dw_size] <;> omega) | (simp only [List.length_set, Array.length_toList, List.length_cons, List.length_nil, List.length_append, bts_size] <;> omega) | (simp only [List.all_cons, List.all_nil, Value.oneCell', Bool.and_self, Bool.and_true]; done)) [-Option.bind_some, hp_alloc_lt, hp_alloc_eq, hp_set_ne, wrap_small, ups_ap_cons, ups_ap_nil, upd_same, upd_other, env0_ap0, env0_aps, xt_a, xt_b, xt_c, nk_ptr, -splice_eq, -stR_cells, stR_box, stR_boxA, stR_row, stR_row0, stR_row1, stR_rowA, stR_rowA0, splice_rowv, splice_rowv0, splice_rowv1, splice_z, splice_n, splice_s, nth_rowv, nth_rowv0, nth_rowv1, rowv_len, hv, E1.blk]
    refine Ret.bind (spec_l2Put_m hv (ha0.ext (by (repeat (first | exact Ext.rfl | assumption | (refine Ext.al ?_ _) | (refine Ext.dw ?_) | (refine Ext.set ?_ (by first | omega | (simp only [World.size_alloc, size_setRow, dw_size]; omega)) _) | (refine Ext.tr ?_ (by assumption))))))) ?_
    rintro ⟨_, w2⟩ ⟨rfl, E2⟩
    try dsimp only at E2
    have zE2 := E2.size
    try simp only [World.size_alloc, size_setRow, dw_size] at zE2
    simp (maxSteps := 1000000) (disch := first | assumption | omega | (simp only [World.size_alloc, size_setRow, dw_size]; done) | (simp only [World.size_alloc, size_setRow, dw_size] <;> omega) | (simp only [List.length_set, Array.length_toList, List.length_cons, List.length_nil, List.length_append, bts_size] <;> omega) | (simp only [List.all_cons, List.all_nil, Value.oneCell', Bool.and_self, Bool.and_true]; done)) [-Option.bind_some, hp_alloc_lt, hp_alloc_eq, hp_set_ne, wrap_small, ups_ap_cons, ups_ap_nil, upd_same, upd_other, env0_ap0, env0_aps, xt_a, xt_b, xt_c, nk_ptr, -splice_eq, -stR_cells, stR_box, stR_boxA, stR_row, stR_row0, stR_row1, stR_rowA, stR_rowA0, splice_rowv, splice_rowv0, splice_rowv1, splice_z, splice_n, splice_s, nth_rowv, nth_rowv0, nth_rowv1, rowv_len, E1.blk, E2.blk]
    exact hQ _ ⟨by rw [verPutL, hv]; rfl, by (repeat (first | exact Ext.rfl | assumption | (refine Ext.al ?_ _) | (refine Ext.dw ?_) | (refine Ext.set ?_ (by first | omega | (simp only [World.size_alloc, size_setRow, dw_size]; omega)) _) | (refine Ext.tr ?_ (by assumption))))⟩
end Go.Proofs.YtgdacclgooaodaaGreatDoor.X
set_option linter.unusedVariables false
set_option linter.unusedSimpArgs false
set_option maxRecDepth 100000
set_option maxHeartbeats 1000000
namespace Go.Proofs.YtgdacclgooaodaaGreatDoor.X
open Go Go.Ev Go.RowKit
theorem count_m (l : List UInt8) (c : UInt8) (w : World) : Ret (EV P 80 #[.string (bts l), .string (bts [c])] w) fun r => r = (i64 (l.count c), w) := by
  have hx : ∀ w, xf P 99 #[.string (bts l), .int .u8 c.toNat] w = some (i64 (l.count c), w) := by
    intro w
    unfold xf
    rw [run_callFunc_extern (P := P) Tryz.func99 (by kernel_rfl) (by kernel_rfl) (by kernel_rfl) (e := Extern.BytealgCount.count) (by kernel_rfl), Lib.run_countString]
    rw [show (c.toNat : Int).toNat.toUInt8 = c by simp]
    rfl
  have hix := fun w => ix_bts (P := P) (t := 9) (by kernel_rfl) [c] (k := .i64) (i := 0) (by decide) (b := c) rfl w
  refine Ret.post fun Q hQ => ?_
  refine Ret.enter plain mixed (strings_Count_fn _ _ _) (by kernel_rfl) (n := 2) (by kernel_rfl) rfl ?_
  simp (maxSteps := 1000000) (disch := first | assumption | omega | (simp only [World.size_alloc, size_setRow, dw_size]; done) | (simp only [World.size_alloc, size_setRow, dw_size] <;> omega) | (simp only [List.length_set, Array.length_toList, List.length_cons, List.length_nil, List.length_append, bts_size] <;> omega) | (simp only [List.all_cons, List.all_nil, Value.oneCell', Bool.and_self, Bool.and_true]; done)) [-Option.bind_some, hp_alloc_lt, hp_alloc_eq, hp_set_ne, wrap_small, ups_ap_cons, ups_ap_nil, upd_same, upd_other, env0_ap0, env0_aps, xt_a, xt_b, xt_c, nk_ptr, -splice_eq, -stR_cells, stR_box, stR_boxA, stR_row, stR_row0, stR_row1, stR_rowA, stR_rowA0, splice_rowv, splice_rowv0, splice_rowv1, splice_z, splice_n, splice_s, nth_rowv, nth_rowv0, nth_rowv1, rowv_len, bts_size, hix, hx]
  exact hQ _ rfl
theorem sindex_m (l : List UInt8) (c : UInt8) (w : World) : Ret (EV P 81 #[.string (bts l), .string (bts [c])] w) fun r => r = (i64 (Lib.indexByte l c), w) := by
  refine Ret.post fun Q hQ => ?_
  refine Ret.enter plain mixed (strings_Index_fn _ _ _) (by kernel_rfl) (n := 2) (by kernel_rfl) rfl ?_
  simp (maxSteps := 1000000) (disch := first | assumption | omega | (simp only [World.size_alloc, size_setRow, dw_size]; done) | (simp only [World.size_alloc, size_setRow, dw_size] <;> omega) | (simp only [List.length_set, Array.length_toList, List.length_cons, List.length_nil, List.length_append, bts_size] <;> omega) | (simp only [List.all_cons, List.all_nil, Value.oneCell', Bool.and_self, Bool.and_true]; done)) [-Option.bind_some, hp_alloc_lt, hp_alloc_eq, hp_set_ne, wrap_small, ups_ap_cons, ups_ap_nil, upd_same, upd_other, env0_ap0, env0_aps, xt_a, xt_b, xt_c, nk_ptr, -splice_eq, -stR_cells, stR_box, stR_boxA, stR_row, stR_row0, stR_row1, stR_rowA, stR_rowA0, splice_rowv, splice_rowv0, splice_rowv1, splice_z, splice_n, splice_s, nth_rowv, nth_rowv0, nth_rowv1, rowv_len]
  refine Ret.bind (index1_m l c _) ?_
  rintro ⟨_, w1⟩ h
  simp only [Prod.mk.injEq] at h
  obtain ⟨rfl, rfl⟩ := h
  simp (maxSteps := 1000000) (disch := first | assumption | omega | (simp only [World.size_alloc, size_setRow, dw_size]; done) | (simp only [World.size_alloc, size_setRow, dw_size] <;> omega) | (simp only [List.length_set, Array.length_toList, List.length_cons, List.length_nil, List.length_append, bts_size] <;> omega) | (simp only [List.all_cons, List.all_nil, Value.oneCell', Bool.and_self, Bool.and_true]; done)) [-Option.bind_some, hp_alloc_lt, hp_alloc_eq, hp_set_ne, wrap_small, ups_ap_cons, ups_ap_nil, upd_same, upd_other, env0_ap0, env0_aps, xt_a, xt_b, xt_c, nk_ptr, -splice_eq, -stR_cells, stR_box, stR_boxA, stR_row, stR_row0, stR_row1, stR_rowA, stR_rowA0, splice_rowv, splice_rowv0, splice_rowv1, splice_z, splice_n, splice_s, nth_rowv, nth_rowv0, nth_rowv1, rowv_len]
  exact hQ _ rfl
theorem genSplit_n {l : List UInt8} {c : UInt8} {g n : Nat} {xs : List (List UInt8)} {w0 : World} (hl : l.length ≤ 100000000) (hxs : xs = splitL c l) (hn : xs.length = n) (hg : w0.heap.size ≤ g) :
    ∀ (d i : Nat) (e : Env) (w : World) (s : List UInt8), i + d + 1 = n → s.length ≤ l.length → splitL c s = xs.drop i → e 0 = .string (bts s) → e 1 = .string (bts [c]) → e 2 = i64 0 → e 3 = i64 ((n - 1 : Nat) : Int) → e 9 = .slice (some ⟨g, 0, none⟩) n n → e 10 = i64 i →
      Ext w0 w → O tStrs (fun b => b = g) w [.slice (some ⟨g, 0, none⟩) n n] (fillP (xs.map bts) (bts []) i) →
      Ret (strings_genSplit_l1 e w) fun r => ∃ q, r.1 = .slice (some ⟨g, 0, none⟩) n q ∧ n ≤ q ∧ StrAt r.2 g 0 xs ∧ Ext w0 r.2 := by
  have hnl : n ≤ 100000001 := by
    have h1 := splitL_length c l
    have h2 := List.count_le_length (a := c) (l := l)
    rw [hxs] at hn
    omega
  have fin : ∀ (i : Nat) (e : Env) (w : World) (s : List UInt8), i + 1 = n → xs[i]? = some s → s.length ≤ l.length → e 0 = .string (bts s) → e 9 = .slice (some ⟨g, 0, none⟩) n n → e 10 = i64 i → Ext w0 w → O tStrs (fun b => b = g) w [.slice (some ⟨g, 0, none⟩) n n] (fillP (xs.map bts) (bts []) i) →
      Ret (strings_genSplit_j2 e w) fun r => ∃ q, r.1 = .slice (some ⟨g, 0, none⟩) n q ∧ n ≤ q ∧ StrAt r.2 g 0 xs ∧ Ext w0 r.2 := by
    intro i e w s hi hs hsl e0 e9 e10 E0 ho
    have zE0 := E0.size
    try simp only [World.size_alloc, size_setRow, dw_size] at zE0
    rw [strings_genSplit_j2_eq]
    have hz := E0.size
    have hw1 : IntKind.i64.wrap ((i : Int) + 1) = (n : Int) := by rw [w64 (by omega) (by omega)]; omega
    have hsl' := sl_h (P := P) (t := 41) el_41 (a := some ⟨g, 0, none⟩) (len := n) (cap := n) (n := (n : Int)) (by omega) (by omega)
    rw [Int.toNat_natCast] at hsl'
    obtain ⟨g', cur, ds, S2, hgg, hSg, hgl, hgc, hle, hx1, hS2, put⟩ := ho.row (i := i) (x := bts []) (by decide) (fillP_get (by rw [List.length_map]; omega))
    simp only [Option.some.injEq, Addr.mk.injEq, and_true] at hgg
    subst hgg
    obtain ⟨rfl, _⟩ := O.str.1 hx1
    simp only [show LStr.n = 1 from rfl, Nat.mul_one] at hgc hle put
    refine Ret.post fun Q hQ => ?_
    simp (maxSteps := 1000000) (disch := first | assumption | omega | (simp only [World.size_alloc, size_setRow, dw_size]; done) | (simp only [World.size_alloc, size_setRow, dw_size] <;> omega) | (simp only [List.length_set, Array.length_toList, List.length_cons, List.length_nil, List.length_append, bts_size] <;> omega) | (simp only [List.all_cons, List.all_nil, Value.oneCell', Bool.and_self, Bool.and_true]; done)) [-Option.bind_some, hp_alloc_lt, hp_alloc_eq, hp_set_ne, wrap_small, ups_ap_cons, ups_ap_nil, upd_same, upd_other, env0_ap0, env0_aps, xt_a, xt_b, xt_c, nk_ptr, -splice_eq, -stR_cells, stR_box, stR_boxA, stR_row, stR_row0, stR_row1, stR_rowA, stR_rowA0, splice_rowv, splice_rowv0, splice_rowv1, splice_z, splice_n, splice_s, nth_rowv, nth_rowv0, nth_rowv1, rowv_len, e0, e9, e10, ia_41, show i < n by omega, hgc, hw1, hsl', e0, e9, e10, E0.blk]
    refine hQ _ ⟨n, rfl, Nat.le_refl _, ?_, by (repeat (first | exact Ext.rfl | assumption | (refine Ext.al ?_ _) | (refine Ext.dw ?_) | (refine Ext.set ?_ (by first | omega | (simp only [World.size_alloc, size_setRow, dw_size]; omega)) _) | (refine Ext.tr ?_ (by assumption))))⟩
    have hO := put (w.setRow g (rowv cur i [.string (bts s)]).toArray) [.string (bts s)] (bts s) (fun _ => False) (O.str.2 ⟨rfl, by rw [bts_size]; omega⟩) (by first | assumption | rfl | (simp (maxSteps := 1000000) (disch := first | assumption | omega | (simp only [World.size_alloc, size_setRow, dw_size]; done) | (simp only [World.size_alloc, size_setRow, dw_size] <;> omega) | (simp only [List.length_set, Array.length_toList, List.length_cons, List.length_nil, List.length_append, bts_size] <;> omega) | (simp only [List.all_cons, List.all_nil, Value.oneCell', Bool.and_self, Bool.and_true]; done)) [-Option.bind_some, hp_alloc_lt, hp_alloc_eq, hp_set_ne, wrap_small, ups_ap_cons, ups_ap_nil, upd_same, upd_other, env0_ap0, env0_aps, xt_a, xt_b, xt_c, nk_ptr, -splice_eq, -stR_cells, stR_box, stR_boxA, stR_row, stR_row0, stR_row1, stR_rowA, stR_rowA0, splice_rowv, splice_rowv0, splice_rowv1, splice_z, splice_n, splice_s, nth_rowv, nth_rowv0, nth_rowv1, rowv_len, hgc, e0, e9, e10, E0.blk]; done)) (by intro b _ _ _ _; first | rfl | (simp (disch := first | assumption | omega | (simp only [World.size_alloc, size_setRow, dw_size]; omega) | (simp only [World.size_alloc, size_setRow, dw_size, In]; omega)) only [E0.blk, hp_alloc_lt, hp_set_ne, hp_dw]; done)) (fun _ _ h => h.elim)
    rw [fillP_set (by rw [List.getElem?_map, hs]; rfl)] at hO
    have hfe : fillP (xs.map bts) (bts []) (i + 1) = xs.map bts := by rw [show i + 1 = (xs.map bts).length by rw [List.length_map]; omega, fillP_end]
    rw [hfe] at hO
    intro j y hy
    have hyj := hO.d.at (i := j) (x := bts y) (by decide) (by rw [List.getElem?_map, hy]; rfl)
    obtain ⟨b1, o1, cs1, he, A1, D1, _, _⟩ := hyj
    cases he
    obtain ⟨rfl, _⟩ := D.str.1 D1
    have := A1 0 _ rfl
    simpa only [show LStr.n = 1 from rfl, Nat.mul_one, Nat.add_zero] using this
  intro d
  induction d with
  | zero =>
    intro i e w s hd hsl hss e0 e1 e2 e3 e9 e10 E0 ho
    have zE0 := E0.size
    try simp only [World.size_alloc, size_setRow, dw_size] at zE0
    rw [strings_genSplit_l1_eq]
    have hlast : xs[i]? = some s := by
      have h1 : (xs.drop i).length = 1 := by rw [List.length_drop]; omega
      rw [← hss, splitL_length] at h1
      have h2 := splitL_not (List.count_eq_zero.1 (show s.count c = 0 by omega))
      rw [h2] at hss
      have := congrArg (fun l => l[0]?) hss
      simpa using this.symm
    simp (maxSteps := 1000000) (disch := first | assumption | omega | (simp only [World.size_alloc, size_setRow, dw_size]; done) | (simp only [World.size_alloc, size_setRow, dw_size] <;> omega) | (simp only [List.length_set, Array.length_toList, List.length_cons, List.length_nil, List.length_append, bts_size] <;> omega) | (simp only [List.all_cons, List.all_nil, Value.oneCell', Bool.and_self, Bool.and_true]; done)) [-Option.bind_some, hp_alloc_lt, hp_alloc_eq, hp_set_ne, wrap_small, ups_ap_cons, ups_ap_nil, upd_same, upd_other, env0_ap0, env0_aps, xt_a, xt_b, xt_c, nk_ptr, -splice_eq, -stR_cells, stR_box, stR_boxA, stR_row, stR_row0, stR_row1, stR_rowA, stR_rowA0, splice_rowv, splice_rowv0, splice_rowv1, splice_z, splice_n, splice_s, nth_rowv, nth_rowv0, nth_rowv1, rowv_len, e0, e1, e2, e3, e9, e10, show ¬ i < n - 1 by omega, show ¬ (i : Int) < ((n - 1 : Nat) : Int) by omega, e0, e1, e2, e3, e9, e10, E0.blk]
    exact fin i _ w s (by omega) hlast hsl (by first | omega | assumption | rfl | exact congrArg i64 (by omega) | (simp; done) | (simp; omega)) (by first | omega | assumption | rfl | exact congrArg i64 (by omega) | (simp; done) | (simp; omega)) (by first | omega | assumption | rfl | exact congrArg i64 (by omega) | (simp; done) | (simp; omega)) E0 ho
  | succ d ih =>
    intro i e w s hd hsl hss e0 e1 e2 e3 e9 e10 E0 ho
    have zE0 := E0.size
    try simp only [World.size_alloc, size_setRow, dw_size] at zE0
    rw [strings_genSplit_l1_eq]
    have hz := E0.size
    have hcount : s.count c = d + 1 := by
      have h1 : (xs.drop i).length = d + 2 := by rw [List.length_drop]; omega
      rw [← hss, splitL_length] at h1
      omega
    cases hc : cutL c s with
    | none => have := List.count_eq_zero_of_not_mem (cutL_none hc); omega
    | some p =>
      have hcs := splitL_cons hc
      obtain ⟨hq1, hq2⟩ := cutL_eq hc
      have hsz : s.length = p.1.length + (p.2.length + 1) := by conv => lhs; rw [hq1]; simp
      have hpi : xs[i]? = some p.1 := by
        rw [hss] at hcs
        have := congrArg (fun l => l[0]?) hcs
        simpa using this
      have hpd : splitL c p.2 = xs.drop (i + 1) := by
        rw [hss] at hcs
        have := congrArg List.tail hcs
        rw [List.tail_drop] at this
        exact this.symm
      have hix := cutL_idx c s
      rw [hc] at hix
      have hix : Lib.indexByte s c = (p.1.length : Int) := hix
      have hw0 : IntKind.i64.wrap ((p.1.length : Int) + 0) = (p.1.length : Int) := by rw [Int.add_zero]; exact w64 (by omega) (by omega)
      have hw1 : IntKind.i64.wrap ((p.1.length : Int) + 1) = (p.1.length : Int) + 1 := w64 (by omega) (by omega)
      have hs1 := fun w => sl_str_to (P := P) (t := 9) (by kernel_rfl) s (j := (p.1.length : Int)) (by omega) (by omega) w
      have ht1 : s.take p.1.length = p.1 := by conv => lhs; rw [hq1]; simp
      rw [Int.toNat_natCast, ht1] at hs1
      have hs2 := fun w => sl_str_from (P := P) (t := 9) (by kernel_rfl) s (i := (p.1.length : Int) + 1) (by omega) (by omega) w
      have ht2 : s.drop (p.1.length + 1) = p.2 := by conv => lhs; rw [hq1, show p.1.length + 1 = (p.1 ++ [c]).length by simp, show p.1 ++ c :: p.2 = (p.1 ++ [c]) ++ p.2 by simp, List.drop_left]
      rw [show ((p.1.length : Int) + 1).toNat = p.1.length + 1 by omega, ht2] at hs2
      obtain ⟨g', cur, ds, S2, hgg, hSg, hgl, hgc, hle, hx1, hS2, put⟩ := ho.row (i := i) (x := bts []) (by decide) (fillP_get (by rw [List.length_map]; omega))
      simp only [Option.some.injEq, Addr.mk.injEq, and_true] at hgg
      subst hgg
      obtain ⟨rfl, _⟩ := O.str.1 hx1
      simp only [show LStr.n = 1 from rfl, Nat.mul_one] at hgc hle put
      refine Ret.post fun Q hQ => ?_
      simp (maxSteps := 1000000) (disch := first | assumption | omega | (simp only [World.size_alloc, size_setRow, dw_size]; done) | (simp only [World.size_alloc, size_setRow, dw_size] <;> omega) | (simp only [List.length_set, Array.length_toList, List.length_cons, List.length_nil, List.length_append, bts_size] <;> omega) | (simp only [List.all_cons, List.all_nil, Value.oneCell', Bool.and_self, Bool.and_true]; done)) [-Option.bind_some, hp_alloc_lt, hp_alloc_eq, hp_set_ne, wrap_small, ups_ap_cons, ups_ap_nil, upd_same, upd_other, env0_ap0, env0_aps, xt_a, xt_b, xt_c, nk_ptr, -splice_eq, -stR_cells, stR_box, stR_boxA, stR_row, stR_row0, stR_row1, stR_rowA, stR_rowA0, splice_rowv, splice_rowv0, splice_rowv1, splice_z, splice_n, splice_s, nth_rowv, nth_rowv0, nth_rowv1, rowv_len, e0, e1, e2, e3, e9, e10, show i < n - 1 by omega, show (i : Int) < ((n - 1 : Nat) : Int) by omega, e0, e1, e2, e3, e9, e10, E0.blk]
      refine Ret.bind (sindex_m s c _) ?_
      rintro ⟨_, w1⟩ h
      simp only [Prod.mk.injEq] at h
      obtain ⟨rfl, rfl⟩ := h
      rw [hix]
      simp (maxSteps := 1000000) (disch := first | assumption | omega | (simp only [World.size_alloc, size_setRow, dw_size]; done) | (simp only [World.size_alloc, size_setRow, dw_size] <;> omega) | (simp only [List.length_set, Array.length_toList, List.length_cons, List.length_nil, List.length_append, bts_size] <;> omega) | (simp only [List.all_cons, List.all_nil, Value.oneCell', Bool.and_self, Bool.and_true]; done)) [-Option.bind_some, hp_alloc_lt, hp_alloc_eq, hp_set_ne, wrap_small, ups_ap_cons, ups_ap_nil, upd_same, upd_other, env0_ap0, env0_aps, xt_a, xt_b, xt_c, nk_ptr, -splice_eq, -stR_cells, stR_box, stR_boxA, stR_row, stR_row0, stR_row1, stR_rowA, stR_rowA0, splice_rowv, splice_rowv0, splice_rowv1, splice_z, splice_n, splice_s, nth_rowv, nth_rowv0, nth_rowv1, rowv_len, e0, e1, e2, e3, e9, e10, show ¬ (p.1.length : Int) < 0 by omega, hw0, hs1, ia_41, show i < n by omega, hgc, bts_size, hw1, hs2, e0, e1, e2, e3, e9, e10, E0.blk]
      refine Ret.mono (ih (i + 1) _ _ p.2 (by omega) (by omega) hpd (by first | omega | assumption | rfl | exact congrArg i64 (by omega) | (simp; done) | (simp; omega)) (by first | omega | assumption | rfl | exact congrArg i64 (by omega) | (simp; done) | (simp; omega)) (by first | omega | assumption | rfl | exact congrArg i64 (by omega) | (simp; done) | (simp; omega)) (by first | omega | assumption | rfl | exact congrArg i64 (by omega) | (simp; done) | (simp; omega)) (by first | omega | assumption | rfl | exact congrArg i64 (by omega) | (simp; done) | (simp; omega)) (by first | omega | assumption | rfl | exact congrArg i64 (by omega) | (simp; done) | (simp; omega)) (by (repeat (first | exact Ext.rfl | assumption | (refine Ext.al ?_ _) | (refine Ext.dw ?_) | (refine Ext.set ?_ (by first | omega | (simp only [World.size_alloc, size_setRow, dw_size]; omega)) _) | (refine Ext.tr ?_ (by assumption))))) ?_) hQ
      rw [← fillP_set (x := bts p.1) (by rw [List.getElem?_map, hpi]; rfl)]
      exact (put _ _ (bts p.1) (fun _ => False) (O.str.2 ⟨rfl, by rw [bts_size]; omega⟩) (by first | assumption | rfl | (simp (maxSteps := 1000000) (disch := first | assumption | omega | (simp only [World.size_alloc, size_setRow, dw_size]; done) | (simp only [World.size_alloc, size_setRow, dw_size] <;> omega) | (simp only [List.length_set, Array.length_toList, List.length_cons, List.length_nil, List.length_append, bts_size] <;> omega) | (simp only [List.all_cons, List.all_nil, Value.oneCell', Bool.and_self, Bool.and_true]; done)) [-Option.bind_some, hp_alloc_lt, hp_alloc_eq, hp_set_ne, wrap_small, ups_ap_cons, ups_ap_nil, upd_same, upd_other, env0_ap0, env0_aps, xt_a, xt_b, xt_c, nk_ptr, -splice_eq, -stR_cells, stR_box, stR_boxA, stR_row, stR_row0, stR_row1, stR_rowA, stR_rowA0, splice_rowv, splice_rowv0, splice_rowv1, splice_z, splice_n, splice_s, nth_rowv, nth_rowv0, nth_rowv1, rowv_len, hgc, e0, e1, e2, e3, e9, e10, E0.blk]; done)) (by intro b _ _ _ _; first | rfl | (simp (disch := first | assumption | omega | (simp only [World.size_alloc, size_setRow, dw_size]; omega) | (simp only [World.size_alloc, size_setRow, dw_size, In]; omega)) only [E0.blk, hp_alloc_lt, hp_set_ne, hp_dw]; done)) (fun _ _ h => h.elim)).wide fun b h _ => h.elim id fun h => h.elim
theorem split_m {l : List UInt8} {c : UInt8} (hl : l.length ≤ 100000000) (w : World) : Ret (EV P 23 #[.string (bts l), .string (bts [c])] w) fun r => ∃ q, r.1 = .slice (some ⟨w.heap.size, 0, none⟩) (splitL c l).length q ∧ (splitL c l).length ≤ q ∧ StrAt r.2 w.heap.size 0 (splitL c l) ∧ Ext w r.2 := by
  have hlen := splitL_length c l
  have hcl := List.count_le_length (a := c) (l := l)
  have hneg : (([c] : List UInt8) == []) = false := rfl
  have hw1 : IntKind.i64.wrap ((l.count c : Int) + 1) = ((splitL c l).length : Int) := by rw [w64 (by omega) (by omega)]; omega
  have hw2 : IntKind.i64.wrap ((l.length : Int) + 1) = (l.length : Int) + 1 := w64 (by omega) (by omega)
  have hw3 : IntKind.i64.wrap (((splitL c l).length : Int) - 1) = (((splitL c l).length - 1 : Nat) : Int) := by rw [w64 (by omega) (by omega)]; omega
  have hmin : ∀ (ts : Array TypeId) (t : TypeId) (w : World), b_min P ts t #[i64 ((splitL c l).length : Int), i64 ((l.length : Int) + 1)] w = some (i64 ((splitL c l).length : Int), w) := by
    intro ts t w
    rw [b_min_i64, if_neg (by omega)]
  refine Ret.post fun Q hQ => ?_
  refine Ret.enter plain mixed (strings_Split_fn _ _ _) (by kernel_rfl) (n := 2) (by kernel_rfl) rfl ?_
  simp (maxSteps := 1000000) (disch := first | assumption | omega | (simp only [World.size_alloc, size_setRow, dw_size]; done) | (simp only [World.size_alloc, size_setRow, dw_size] <;> omega) | (simp only [List.length_set, Array.length_toList, List.length_cons, List.length_nil, List.length_append, bts_size] <;> omega) | (simp only [List.all_cons, List.all_nil, Value.oneCell', Bool.and_self, Bool.and_true]; done)) [-Option.bind_some, hp_alloc_lt, hp_alloc_eq, hp_set_ne, wrap_small, ups_ap_cons, ups_ap_nil, upd_same, upd_other, env0_ap0, env0_aps, xt_a, xt_b, xt_c, nk_ptr, -splice_eq, -stR_cells, stR_box, stR_boxA, stR_row, stR_row0, stR_row1, stR_rowA, stR_rowA0, splice_rowv, splice_rowv0, splice_rowv1, splice_z, splice_n, splice_s, nth_rowv, nth_rowv0, nth_rowv1, rowv_len]
  refine Ret.bind (Q := fun r => ∃ q, r.1 = .slice (some ⟨w.heap.size, 0, none⟩) (splitL c l).length q ∧ (splitL c l).length ≤ q ∧ StrAt r.2 w.heap.size 0 (splitL c l) ∧ Ext w r.2) ?_ ?_
  · refine Ret.post fun Q hQ => ?_
    refine Ret.enter plain mixed (strings_genSplit_fn _ _ _ _ _) (by kernel_rfl) (n := 4) (by kernel_rfl) rfl ?_
    simp (maxSteps := 1000000) (disch := first | assumption | omega | (simp only [World.size_alloc, size_setRow, dw_size]; done) | (simp only [World.size_alloc, size_setRow, dw_size] <;> omega) | (simp only [List.length_set, Array.length_toList, List.length_cons, List.length_nil, List.length_append, bts_size] <;> omega) | (simp only [List.all_cons, List.all_nil, Value.oneCell', Bool.and_self, Bool.and_true]; done)) [-Option.bind_some, hp_alloc_lt, hp_alloc_eq, hp_set_ne, wrap_small, ups_ap_cons, ups_ap_nil, upd_same, upd_other, env0_ap0, env0_aps, xt_a, xt_b, xt_c, nk_ptr, -splice_eq, -stR_cells, stR_box, stR_boxA, stR_row, stR_row0, stR_row1, stR_rowA, stR_rowA0, splice_rowv, splice_rowv0, splice_rowv1, splice_z, splice_n, splice_s, nth_rowv, nth_rowv0, nth_rowv1, rowv_len, bts_list]
    refine Ret.bind (count_m l c _) ?_
    rintro ⟨_, w1⟩ h
    simp only [Prod.mk.injEq] at h
    obtain ⟨rfl, hw'⟩ := h
    obtain rfl := hw'.symm
    simp (maxSteps := 1000000) (disch := first | assumption | omega | (simp only [World.size_alloc, size_setRow, dw_size]; done) | (simp only [World.size_alloc, size_setRow, dw_size] <;> omega) | (simp only [List.length_set, Array.length_toList, List.length_cons, List.length_nil, List.length_append, bts_size] <;> omega) | (simp only [List.all_cons, List.all_nil, Value.oneCell', Bool.and_self, Bool.and_true]; done)) [-Option.bind_some, hp_alloc_lt, hp_alloc_eq, hp_set_ne, wrap_small, ups_ap_cons, ups_ap_nil, upd_same, upd_other, env0_ap0, env0_aps, xt_a, xt_b, xt_c, nk_ptr, -splice_eq, -stR_cells, stR_box, stR_boxA, stR_row, stR_row0, stR_row1, stR_rowA, stR_rowA0, splice_rowv, splice_rowv0, splice_rowv1, splice_z, splice_n, splice_s, nth_rowv, nth_rowv0, nth_rowv1, rowv_len, hw1]
    rw [strings_genSplit_j1_eq]
    simp (maxSteps := 1000000) (disch := first | assumption | omega | (simp only [World.size_alloc, size_setRow, dw_size]; done) | (simp only [World.size_alloc, size_setRow, dw_size] <;> omega) | (simp only [List.length_set, Array.length_toList, List.length_cons, List.length_nil, List.length_append, bts_size] <;> omega) | (simp only [List.all_cons, List.all_nil, Value.oneCell', Bool.and_self, Bool.and_true]; done)) [-Option.bind_some, hp_alloc_lt, hp_alloc_eq, hp_set_ne, wrap_small, ups_ap_cons, ups_ap_nil, upd_same, upd_other, env0_ap0, env0_aps, xt_a, xt_b, xt_c, nk_ptr, -splice_eq, -stR_cells, stR_box, stR_boxA, stR_row, stR_row0, stR_row1, stR_rowA, stR_rowA0, splice_rowv, splice_rowv0, splice_rowv1, splice_z, splice_n, splice_s, nth_rowv, nth_rowv0, nth_rowv1, rowv_len, bts_size, hw2, hmin]
    refine Ret.bind (O.make (L := LStr) (mx := 8796093021952) (x0 := (⟨#[]⟩ : ByteArray)) el_41 zz_9 rfl (by decide) (fun w => O.str.2 ⟨rfl, by decide⟩) (n := (splitL c l).length) (by omega) (by decide) (by decide)) ?_
    rintro ⟨_, w1⟩ ⟨rfl, o1, z1, E1⟩
    have zE1 := E1.size
    try simp only [World.size_alloc, size_setRow, dw_size] at zE1
    try dsimp only at o1 z1 E1
    simp (maxSteps := 1000000) (disch := first | assumption | omega | (simp only [World.size_alloc, size_setRow, dw_size]; done) | (simp only [World.size_alloc, size_setRow, dw_size] <;> omega) | (simp only [List.length_set, Array.length_toList, List.length_cons, List.length_nil, List.length_append, bts_size] <;> omega) | (simp only [List.all_cons, List.all_nil, Value.oneCell', Bool.and_self, Bool.and_true]; done)) [-Option.bind_some, hp_alloc_lt, hp_alloc_eq, hp_set_ne, wrap_small, ups_ap_cons, ups_ap_nil, upd_same, upd_other, env0_ap0, env0_aps, xt_a, xt_b, xt_c, nk_ptr, -splice_eq, -stR_cells, stR_box, stR_boxA, stR_row, stR_row0, stR_row1, stR_rowA, stR_rowA0, splice_rowv, splice_rowv0, splice_rowv1, splice_z, splice_n, splice_s, nth_rowv, nth_rowv0, nth_rowv1, rowv_len, hw3, E1.blk]
    refine Ret.mono (genSplit_n (l := l) (c := c) (g := w.heap.size) (n := (splitL c l).length) (xs := splitL c l) (w0 := w) hl rfl rfl (Nat.le_refl _) ((splitL c l).length - 1) 0 _ w1 l (by omega) (Nat.le_refl _) (by rw [List.drop_zero]) (by first | omega | assumption | rfl | exact congrArg i64 (by omega) | (simp; done) | (simp; omega)) (by first | omega | assumption | rfl | exact congrArg i64 (by omega) | (simp; done) | (simp; omega)) (by first | omega | assumption | rfl | exact congrArg i64 (by omega) | (simp; done) | (simp; omega)) (by first | omega | assumption | rfl | exact congrArg i64 (by omega) | (simp; done) | (simp; omega)) (by first | omega | assumption | rfl | exact congrArg i64 (by omega) | (simp; done) | (simp; omega)) (by first | omega | assumption | rfl | exact congrArg i64 (by omega) | (simp; done) | (simp; omega)) E1 ?_) hQ
    rw [fillP_zero, List.length_map]
    exact o1
  · rintro ⟨_, w1⟩ ⟨q, rfl, h1, h2, h3⟩
    simp (maxSteps := 1000000) (disch := first | assumption | omega | (simp only [World.size_alloc, size_setRow, dw_size]; done) | (simp only [World.size_alloc, size_setRow, dw_size] <;> omega) | (simp only [List.length_set, Array.length_toList, List.length_cons, List.length_nil, List.length_append, bts_size] <;> omega) | (simp only [List.all_cons, List.all_nil, Value.oneCell', Bool.and_self, Bool.and_true]; done)) [-Option.bind_some, hp_alloc_lt, hp_alloc_eq, hp_set_ne, wrap_small, ups_ap_cons, ups_ap_nil, upd_same, upd_other, env0_ap0, env0_aps, xt_a, xt_b, xt_c, nk_ptr, -splice_eq, -stR_cells, stR_box, stR_boxA, stR_row, stR_row0, stR_row1, stR_rowA, stR_rowA0, splice_rowv, splice_rowv0, splice_rowv1, splice_z, splice_n, splice_s, nth_rowv, nth_rowv0, nth_rowv1, rowv_len]
    exact hQ _ ⟨q, rfl, h1, h2, h3⟩
end Go.Proofs.YtgdacclgooaodaaGreatDoor.X
