/- A part of the proof: an evaluator of the model, its laws, and contracts of functions; no condition. -/
import Derived.Test.YtkhbpmhagpljiaaDoorEvLz
import Derived.Test.YtkhbpmhagpljiaaDoorEvL
import Derived.Test.YtkhbpmhagpljiaaDoorEvLv
import Derived.Test.YtkhbpmhagpljiaaDoorT10
import Derived.Test.YtkhbpmhagpljiaaDoorEvHi
import Derived.Test.YtkhbpmhagpljiaaDoorEvR
set_option linter.unusedVariables false
set_option linter.unusedSimpArgs false
set_option maxRecDepth 100000
set_option maxHeartbeats 1000000
namespace Go.Proofs.YtkhbpmhagpljiaaDoor.X
open Go Go.Ev Go.RowKit
abbrev BldS := Bld 46 5
theorem copyCheck_m {b : Nat} {p s : Value} {w : World} (h : hp w b = some (.cells #[p, s] 46 (0, 0))) (hpp : p = .pointer none ∨ p = pt b 0) :
    Ret (EV P 40 #[pt b 0] w) fun r => r.1 = .tuple #[] ∧ hp r.2 b = some (.cells #[pt b 0, s] 46 (0, 0)) ∧ Mod (fun x => x = b) w r.2 := by
  have hlt := hp_lt h
  have hne : ∀ w, xf P 52 #[pt b 0] w = some (pt b 0, w) := by
    intro w
    unfold xf
    rw [run_callFunc_extern (P := P) Tryd.func52 (by kernel_rfl) (by kernel_rfl) (by kernel_rfl) (e := Extern.AbiNoEscape.same) (by kernel_rfl), Lib.run_noEscape]
    rfl
  have c1 := cv_tou (P := P) (src := 43) (dst := 77) (t := 46) (n := 2) Tryd.underlying43 Tryd.underlying77 (by kernel_rfl) (by decide) h (o := 0) (by simp)
  have c2 := cv_fromu (P := P) (src := 77) (dst := 43) (u := 46) (n := 2) (m := 2) Tryd.underlying77 Tryd.underlying43 (by kernel_rfl) h (o := 0) rfl (by kernel_rfl)
  have hq := bo_eql_ptn (P := P) (t := 43) (te := 46) Tryd.underlying43
  have hn := bo_neq_pts (P := P) (t := 43) (te := 46) (n := 2) Tryd.underlying43 (by kernel_rfl)
  refine Ret.post fun Q hQ => ?_
  refine Ret.enter plain mixed (strings_Builder_copyCheck_fn _ _) (by kernel_rfl) (n := 1) (by kernel_rfl) rfl ?_
  rcases hpp with rfl | rfl
  · simp (maxSteps := 1000000) (disch := first | assumption | omega | (simp only [World.size_alloc, size_setRow, dw_size]; done) | (simp only [World.size_alloc, size_setRow, dw_size] <;> omega) | (simp only [List.length_set, Array.length_toList, List.length_cons, List.length_nil, List.length_append, bts_size] <;> omega) | (simp only [List.all_cons, List.all_nil, Value.oneCell', Bool.and_self, Bool.and_true]; done)) [-Option.bind_some, hp_alloc_lt, hp_alloc_eq, hp_set_ne, wrap_small, ups_ap_cons, ups_ap_nil, upd_same, upd_other, env0_ap0, env0_aps, xt_a, xt_b, xt_c, nk_ptr, -splice_eq, -stR_cells, stR_box, stR_boxA, stR_row, stR_row0, stR_row1, stR_rowA, stR_rowA0, splice_rowv, splice_rowv0, splice_rowv1, splice_z, splice_n, splice_s, nth_rowv, nth_rowv0, nth_rowv1, rowv_len, h, hq, c1, hne, c2, hlt]
    exact hQ _ ⟨rfl, by simp (maxSteps := 1000000) (disch := first | assumption | omega | (simp only [World.size_alloc, size_setRow, dw_size]; done) | (simp only [World.size_alloc, size_setRow, dw_size] <;> omega) | (simp only [List.length_set, Array.length_toList, List.length_cons, List.length_nil, List.length_append, bts_size] <;> omega) | (simp only [List.all_cons, List.all_nil, Value.oneCell', Bool.and_self, Bool.and_true]; done)) [-Option.bind_some, hp_alloc_lt, hp_alloc_eq, hp_set_ne, wrap_small, ups_ap_cons, ups_ap_nil, upd_same, upd_other, env0_ap0, env0_aps, xt_a, xt_b, xt_c, nk_ptr, h, hlt], by (repeat (first | exact Mod.rfl | assumption | (refine Mod.al ?_ _) | (refine Mod.dw' ?_) | (refine Mod.set' ?_ (by first | (left; omega) | (left; simp only [World.size_alloc, size_setRow, dw_size]; omega) | (right; assumption) | (right; simp; done)) _) | (refine Mod.ex ?_ (by assumption))))⟩
  · simp (maxSteps := 1000000) (disch := first | assumption | omega | (simp only [World.size_alloc, size_setRow, dw_size]; done) | (simp only [World.size_alloc, size_setRow, dw_size] <;> omega) | (simp only [List.length_set, Array.length_toList, List.length_cons, List.length_nil, List.length_append, bts_size] <;> omega) | (simp only [List.all_cons, List.all_nil, Value.oneCell', Bool.and_self, Bool.and_true]; done)) [-Option.bind_some, hp_alloc_lt, hp_alloc_eq, hp_set_ne, wrap_small, ups_ap_cons, ups_ap_nil, upd_same, upd_other, env0_ap0, env0_aps, xt_a, xt_b, xt_c, nk_ptr, -splice_eq, -stR_cells, stR_box, stR_boxA, stR_row, stR_row0, stR_row1, stR_rowA, stR_rowA0, splice_rowv, splice_rowv0, splice_rowv1, splice_z, splice_n, splice_s, nth_rowv, nth_rowv0, nth_rowv1, rowv_len, h, hq, hn, hlt]
    exact hQ _ ⟨rfl, h, Mod.rfl⟩
theorem writeString_m {B b : Nat} {l m : List UInt8} {w : World} (h : BldS B w b l) (hl : l.length + m.length ≤ 140737488355328) (hB : B ≤ w.heap.size) :
    Ret (EV P 18 #[pt b 0, .string (bts m)] w) fun r => r.1 = .tuple #[i64 m.length, .nilIface] ∧ BldS B r.2 b (l ++ m) ∧ Mod (fun x => x = b ∨ B ≤ x) w r.2 := by
  obtain ⟨p, s, h1, h2, h3, h4⟩ := h
  have hlt := hp_lt h1
  refine Ret.post fun Q hQ => ?_
  refine Ret.enter plain mixed (strings_Builder_WriteString_fn _ _ _) (by kernel_rfl) (n := 2) (by kernel_rfl) rfl ?_
  simp (maxSteps := 1000000) (disch := first | assumption | omega | (simp only [World.size_alloc, size_setRow, dw_size]; done) | (simp only [World.size_alloc, size_setRow, dw_size] <;> omega) | (simp only [List.length_set, Array.length_toList, List.length_cons, List.length_nil, List.length_append, bts_size] <;> omega) | (simp only [List.all_cons, List.all_nil, Value.oneCell', Bool.and_self, Bool.and_true]; done)) [-Option.bind_some, hp_alloc_lt, hp_alloc_eq, hp_set_ne, wrap_small, ups_ap_cons, ups_ap_nil, upd_same, upd_other, env0_ap0, env0_aps, xt_a, xt_b, xt_c, nk_ptr, -splice_eq, -stR_cells, stR_box, stR_boxA, stR_row, stR_row0, stR_row1, stR_rowA, stR_rowA0, splice_rowv, splice_rowv0, splice_rowv1, splice_z, splice_n, splice_s, nth_rowv, nth_rowv0, nth_rowv1, rowv_len, hlt]
  refine Ret.bind (copyCheck_m h1 h2) ?_
  rintro ⟨_, w1⟩ ⟨rfl, H1, M1⟩
  have zM1 := M1.size
  try simp only [World.size_alloc, size_setRow, dw_size] at zM1
  try dsimp only at H1 M1
  have zM1 := M1.size
  have h3' : w1.ownsRow B 5 1 s l.length (Lib.byteCells l) := by
    refine owns_keep h3 fun g hg => ?_
    have hgb : g ≠ b := fun e => h4 (by rw [hg, e])
    obtain ⟨_, h3⟩ := h3
    rcases h3 with ⟨rfl, _⟩ | ⟨g', cap, cur, rfl, h5, h6, _⟩
    · cases hg
    · cases hg
      exact M1.blk _ (hp_lt h6) hgb
  obtain ⟨v', w2, k1, k2, k3, va, vn, vc, hv'⟩ := app_str (P := P) (t := 44) (u := 9) (ty := 44) (e := 5) Tryd.underlying44 Tryd.underlying9 (by kernel_rfl) (m := m) h3' hl (by omega)
  subst hv'
  have H2 : hp w2 b = some (.cells #[pt b 0, s] 46 (0, 0)) := (k3.blk b (by omega) h4).trans H1
  have zk3 := k3.size
  have hno : (Value.slice va vn vc).ownBlock ≠ some b := by
    intro hv
    obtain ⟨_, k2⟩ := k2
    rcases k2 with ⟨k2, _⟩ | ⟨g', cap, cur, k2, h5, h6, _⟩
    · rw [k2] at hv; cases hv
    · rw [k2] at hv
      have h6' : hp w2 g' = some (.cells cur 5 (0, 0)) := h6
      rw [show g' = b by simpa [Value.ownBlock] using hv, H2] at h6'
      simp at h6'
  have hsb : ∀ g, s.ownBlock = some g → B ≤ g := by
    intro g hg
    obtain ⟨_, h3⟩ := h3
    rcases h3 with ⟨rfl, _⟩ | ⟨g', cap, cur, rfl, h5, h6, _⟩
    · cases hg
    · cases hg; exact h5
  have M2 : Mod (fun x => x = b ∨ B ≤ x) w w2 := (M1.weak fun x _ h => .inl h).tr (k3.weak fun x _ h => .inr (hsb x h))
  have zM2 := M2.size
  try simp only [World.size_alloc, size_setRow, dw_size] at zM2
  simp (maxSteps := 1000000) (disch := first | assumption | omega | (simp only [World.size_alloc, size_setRow, dw_size]; done) | (simp only [World.size_alloc, size_setRow, dw_size] <;> omega) | (simp only [List.length_set, Array.length_toList, List.length_cons, List.length_nil, List.length_append, bts_size] <;> omega) | (simp only [List.all_cons, List.all_nil, Value.oneCell', Bool.and_self, Bool.and_true]; done)) [-Option.bind_some, hp_alloc_lt, hp_alloc_eq, hp_set_ne, wrap_small, ups_ap_cons, ups_ap_nil, upd_same, upd_other, env0_ap0, env0_aps, xt_a, xt_b, xt_c, nk_ptr, -splice_eq, -stR_cells, stR_box, stR_boxA, stR_row, stR_row0, stR_row1, stR_rowA, stR_rowA0, splice_rowv, splice_rowv0, splice_rowv1, splice_z, splice_n, splice_s, nth_rowv, nth_rowv0, nth_rowv1, rowv_len, H1, k1, H2, bts_size, hlt, M1.blk, M2.blk]
  refine hQ _ ⟨rfl, ⟨pt b 0, .slice va vn vc, by simp (maxSteps := 1000000) (disch := first | assumption | omega | (simp only [World.size_alloc, size_setRow, dw_size]; done) | (simp only [World.size_alloc, size_setRow, dw_size] <;> omega) | (simp only [List.length_set, Array.length_toList, List.length_cons, List.length_nil, List.length_append, bts_size] <;> omega) | (simp only [List.all_cons, List.all_nil, Value.oneCell', Bool.and_self, Bool.and_true]; done)) [-Option.bind_some, hp_alloc_lt, hp_alloc_eq, hp_set_ne, wrap_small, ups_ap_cons, ups_ap_nil, upd_same, upd_other, env0_ap0, env0_aps, xt_a, xt_b, xt_c, nk_ptr, H2, hlt, M1.blk, M2.blk], .inr rfl, owns_keep k2 fun g hg => ?_, hno⟩, M2.set' (.inr (.inl rfl)) _⟩
  exact hp_set_ne fun e => hno (by rw [hg, e])
theorem bstring_m {B b : Nat} {l : List UInt8} {w : World} (h : BldS B w b l) (hl : l.length ≤ 140737488355328) (hn : l = [] → hp w b = some (.cells #[.pointer none, .slice none 0 0] 46 (0, 0))) :
    Ret (EV P 22 #[pt b 0] w) fun r => r.1 = .string (bts l) ∧ Mod (fun x => B ≤ x) w r.2 := by
  obtain ⟨p, s, h1, h2, h3, h4⟩ := h
  have hlt := hp_lt h1
  refine Ret.post fun Q hQ => ?_
  refine Ret.enter plain mixed (strings_Builder_String_fn _ _) (by kernel_rfl) (n := 1) (by kernel_rfl) rfl ?_
  by_cases hl0 : l = []
  · subst hl0
    have h1 := hn rfl
    simp (maxSteps := 1000000) (disch := first | assumption | omega | (simp only [World.size_alloc, size_setRow, dw_size]; done) | (simp only [World.size_alloc, size_setRow, dw_size] <;> omega) | (simp only [List.length_set, Array.length_toList, List.length_cons, List.length_nil, List.length_append, bts_size] <;> omega) | (simp only [List.all_cons, List.all_nil, Value.oneCell', Bool.and_self, Bool.and_true]; done)) [-Option.bind_some, hp_alloc_lt, hp_alloc_eq, hp_set_ne, wrap_small, ups_ap_cons, ups_ap_nil, upd_same, upd_other, env0_ap0, env0_aps, xt_a, xt_b, xt_c, nk_ptr, -splice_eq, -stR_cells, stR_box, stR_boxA, stR_row, stR_row0, stR_row1, stR_rowA, stR_rowA0, splice_rowv, splice_rowv0, splice_rowv1, splice_z, splice_n, splice_s, nth_rowv, nth_rowv0, nth_rowv1, rowv_len, h1, gn_usd, usd_nil, gn_ustr, us_none, hlt]
    exact hQ _ ⟨rfl, by (repeat (first | exact Mod.rfl | assumption | (refine Mod.al ?_ _) | (refine Mod.dw' ?_) | (refine Mod.set' ?_ (by first | (left; omega) | (left; simp only [World.size_alloc, size_setRow, dw_size]; omega) | (right; assumption) | (right; simp; done)) _) | (refine Mod.ex ?_ (by assumption))))⟩
  · have hpos : 0 < l.length := List.length_pos_iff.2 hl0
    obtain ⟨k0, h3⟩ := h3
    rcases h3 with ⟨rfl, h0⟩ | ⟨g, cap, cur, rfl, h5, h6, h7, h8, h9, h10⟩
    · omega
    · have hg : hp w g = some (.cells cur.toList.toArray 5 (0, 0)) := by show w.heap[g]? = _; rw [h6]
      have hgb : g ≠ b := fun e => h4 (by rw [e]; rfl)
      have hu := fun (w' : World) (hw : hp w' g = hp w g) => us_head (P := P) (pt' := 72) (it := 3) (ty := 9) (e := 5) Tryd.underlying72 (by kernel_rfl) (w := w') (g := g) (l := l) (cur := cur.toList) hpos (by omega) (hw.trans hg) (by rw [Nat.mul_one] at h10; exact h10)
      have hu1 := hu (dw w) (hp_dw _ _)
      simp (maxSteps := 1000000) (disch := first | assumption | omega | (simp only [World.size_alloc, size_setRow, dw_size]; done) | (simp only [World.size_alloc, size_setRow, dw_size] <;> omega) | (simp only [List.length_set, Array.length_toList, List.length_cons, List.length_nil, List.length_append, bts_size] <;> omega) | (simp only [List.all_cons, List.all_nil, Value.oneCell', Bool.and_self, Bool.and_true]; done)) [-Option.bind_some, hp_alloc_lt, hp_alloc_eq, hp_set_ne, wrap_small, ups_ap_cons, ups_ap_nil, upd_same, upd_other, env0_ap0, env0_aps, xt_a, xt_b, xt_c, nk_ptr, -splice_eq, -stR_cells, stR_box, stR_boxA, stR_row, stR_row0, stR_row1, stR_rowA, stR_rowA0, splice_rowv, splice_rowv0, splice_rowv1, splice_z, splice_n, splice_s, nth_rowv, nth_rowv0, nth_rowv1, rowv_len, h1, gn_usd, usd_row, show 0 < cap by omega, gn_ustr, hu1, hlt, hg]
      refine hQ _ ⟨rfl, ?_⟩
      have hM : Mod (fun x => B ≤ x) w (dw w) := Mod.dw _ _
      refine hM.tr ?_
      have hf : Ext (dw w) (dw w) := Ext.rfl
      have hfz := Lib.below_freeze (B := g) (a := dw w) (w := dw w) ⟨rfl, rfl, rfl, Nat.le_refl _, fun _ _ => rfl⟩ (p := ⟨g, 0, none⟩) (Nat.le_refl _) l.length
      refine ⟨hfz.os, hfz.tape, hfz.output, ?_, ?_⟩
      · exact hfz.size
      · intro x hx hnx
        exact hfz.block x (by omega)
end Go.Proofs.YtkhbpmhagpljiaaDoor.X
set_option linter.unusedVariables false
set_option linter.unusedSimpArgs false
set_option maxRecDepth 100000
set_option maxHeartbeats 1000000
namespace Go.Proofs.YtkhbpmhagpljiaaDoor.X
open Go Go.Ev Go.RowKit
abbrev tDones : Lay (List Done) := LDones 38
theorem laws_szDoneS_m {n0 : Int} (h0 : -1 ≤ n0) (h1 : n0 ≤ 1048576) {S : Nat → Prop} {a : Option Addr} {n c : Nat} {xs : List Done} {w : World} (ha : D tDones S w [.slice a n c] xs) :
    Ret (EV P 5 #[.slice a n c, i64 n0] w) fun r => ∃ m, r.1 = i64 m ∧ -1 ≤ m ∧ m ≤ 1048576 ∧ (0 ≤ m → m + (MDone.wtL xs : Int) ≤ n0) ∧ Ext w r.2 := by
  obtain ⟨rfl, hm, _⟩ := ha.n
  have hw := MDone_wt xs
  refine Ret.post fun Q hQ => ?_
  refine Ret.enter plain mixed (laws_szDoneS_fn _ _ _) (by kernel_rfl) (n := 2) (by kernel_rfl) rfl ?_
  have hwr : IntKind.i64.wrap (n0 - xs.length) = n0 - xs.length := w64 (by omega) (by omega)
  by_cases g1 : n0 - (xs.length : Int) < 0
  · simp (maxSteps := 1000000) (disch := first | assumption | omega | (simp only [World.size_alloc, size_setRow, dw_size]; done) | (simp only [World.size_alloc, size_setRow, dw_size] <;> omega) | (simp only [List.length_set, Array.length_toList, List.length_cons, List.length_nil, List.length_append, bts_size] <;> omega) | (simp only [List.all_cons, List.all_nil, Value.oneCell', Bool.and_self, Bool.and_true]; done)) [-Option.bind_some, hp_alloc_lt, hp_alloc_eq, hp_set_ne, wrap_small, ups_ap_cons, ups_ap_nil, upd_same, upd_other, env0_ap0, env0_aps, xt_a, xt_b, xt_c, nk_ptr, hwr, g1]
    exact hQ _ ⟨-1, rfl, by omega, by omega, by omega, by (repeat (first | exact Ext.rfl | assumption | (refine Ext.al ?_ _) | (refine Ext.dw ?_) | (refine Ext.set ?_ (by first | omega | (simp only [World.size_alloc, size_setRow, dw_size]; omega)) _) | (refine Ext.tr ?_ (by assumption))))⟩
  simp (maxSteps := 1000000) (disch := first | assumption | omega | (simp only [World.size_alloc, size_setRow, dw_size]; done) | (simp only [World.size_alloc, size_setRow, dw_size] <;> omega) | (simp only [List.length_set, Array.length_toList, List.length_cons, List.length_nil, List.length_append, bts_size] <;> omega) | (simp only [List.all_cons, List.all_nil, Value.oneCell', Bool.and_self, Bool.and_true]; done)) [-Option.bind_some, hp_alloc_lt, hp_alloc_eq, hp_set_ne, wrap_small, ups_ap_cons, ups_ap_nil, upd_same, upd_other, env0_ap0, env0_aps, xt_a, xt_b, xt_c, nk_ptr, hwr, g1]
  exact hQ _ ⟨n0 - xs.length, rfl, by omega, by omega, fun _ => by omega, by (repeat (first | exact Ext.rfl | assumption | (refine Ext.al ?_ _) | (refine Ext.dw ?_) | (refine Ext.set ?_ (by first | omega | (simp only [World.size_alloc, size_setRow, dw_size]; omega)) _) | (refine Ext.tr ?_ (by assumption))))⟩
theorem laws_toDone_c (d : Done) (w : World) : Ret (EV P 16 #[.agg (doneC d).toArray] w) fun r => r.1 = .agg (doneC d).toArray ∧ Ext w r.2 := by
  refine Ret.post fun Q hQ => ?_
  refine Ret.enter plain mixed (laws_toDone_fn _ _) (by kernel_rfl) (n := 1) (by kernel_rfl) rfl ?_
  simp (maxSteps := 1000000) (disch := first | assumption | omega | (simp only [World.size_alloc, size_setRow, dw_size]; done) | (simp only [World.size_alloc, size_setRow, dw_size] <;> omega) | (simp only [List.length_set, Array.length_toList, List.length_cons, List.length_nil, List.length_append, bts_size] <;> omega) | (simp only [List.all_cons, List.all_nil, Value.oneCell', Bool.and_self, Bool.and_true]; done)) [-Option.bind_some, hp_alloc_lt, hp_alloc_eq, hp_set_ne, wrap_small, ups_ap_cons, ups_ap_nil, upd_same, upd_other, env0_ap0, env0_aps, xt_a, xt_b, xt_c, nk_ptr]
  refine Ret.bind (laws_toTag_c d.tag _) ?_
  rintro ⟨_, w1⟩ ⟨rfl, E1⟩
  have zE1 := E1.size
  try simp only [World.size_alloc, size_setRow, dw_size] at zE1
  try dsimp only at E1
  simp (maxSteps := 1000000) (disch := first | assumption | omega | (simp only [World.size_alloc, size_setRow, dw_size]; done) | (simp only [World.size_alloc, size_setRow, dw_size] <;> omega) | (simp only [List.length_set, Array.length_toList, List.length_cons, List.length_nil, List.length_append, bts_size] <;> omega) | (simp only [List.all_cons, List.all_nil, Value.oneCell', Bool.and_self, Bool.and_true]; done)) [-Option.bind_some, hp_alloc_lt, hp_alloc_eq, hp_set_ne, wrap_small, ups_ap_cons, ups_ap_nil, upd_same, upd_other, env0_ap0, env0_aps, xt_a, xt_b, xt_c, nk_ptr, E1.blk, E1.blk]
  exact hQ _ ⟨rfl, by (repeat (first | exact Ext.rfl | assumption | (refine Ext.al ?_ _) | (refine Ext.dw ?_) | (refine Ext.set ?_ (by first | omega | (simp only [World.size_alloc, size_setRow, dw_size]; omega)) _) | (refine Ext.tr ?_ (by assumption))))⟩
theorem laws_eqDone_c (d : Done) (w : World) : Ret (EV P 23 #[.agg (doneC d).toArray, .agg (doneC d).toArray] w) fun r => r.1 = .bool true ∧ Ext w r.2 := by
  refine Ret.post fun Q hQ => ?_
  refine Ret.enter plain mixed (laws_eqDone_fn _ _ _) (by kernel_rfl) (n := 2) (by kernel_rfl) rfl ?_
  simp (maxSteps := 1000000) (disch := first | assumption | omega | (simp only [World.size_alloc, size_setRow, dw_size]; done) | (simp only [World.size_alloc, size_setRow, dw_size] <;> omega) | (simp only [List.length_set, Array.length_toList, List.length_cons, List.length_nil, List.length_append, bts_size] <;> omega) | (simp only [List.all_cons, List.all_nil, Value.oneCell', Bool.and_self, Bool.and_true]; done)) [-Option.bind_some, hp_alloc_lt, hp_alloc_eq, hp_set_ne, wrap_small, ups_ap_cons, ups_ap_nil, upd_same, upd_other, env0_ap0, env0_aps, xt_a, xt_b, xt_c, nk_ptr, bne_self_eq_false]
  refine Ret.bind (laws_eqTag_c d.tag d.tag _) ?_
  rintro ⟨_, w1⟩ ⟨rfl, E1⟩
  have zE1 := E1.size
  try simp only [World.size_alloc, size_setRow, dw_size] at zE1
  try dsimp only at E1
  simp (maxSteps := 1000000) (disch := first | assumption | omega | (simp only [World.size_alloc, size_setRow, dw_size]; done) | (simp only [World.size_alloc, size_setRow, dw_size] <;> omega) | (simp only [List.length_set, Array.length_toList, List.length_cons, List.length_nil, List.length_append, bts_size] <;> omega) | (simp only [List.all_cons, List.all_nil, Value.oneCell', Bool.and_self, Bool.and_true]; done)) [-Option.bind_some, hp_alloc_lt, hp_alloc_eq, hp_set_ne, wrap_small, ups_ap_cons, ups_ap_nil, upd_same, upd_other, env0_ap0, env0_aps, xt_a, xt_b, xt_c, nk_ptr, decide_true, E1.blk]
  exact hQ _ ⟨rfl, by (repeat (first | exact Ext.rfl | assumption | (refine Ext.al ?_ _) | (refine Ext.dw ?_) | (refine Ext.set ?_ (by first | omega | (simp only [World.size_alloc, size_setRow, dw_size]; omega)) _) | (refine Ext.tr ?_ (by assumption))))⟩
theorem laws_toDoneS_n {a : Option Addr} {c g : Nat} {S : Nat → Prop} {xs : List Done} {w0 : World} : ∀ (d k : Nat) (e : Env) (w : World), k + d = xs.length → e 0 = .slice a xs.length c → e 3 = .slice (some ⟨g, 0, none⟩) xs.length xs.length → e 4 = i64 k → D tDones S w0 [.slice a xs.length c] xs → Ext w0 w →
    O tDones (In w0.heap.size w.heap.size) w [.slice (some ⟨g, 0, none⟩) xs.length xs.length] (fillP xs ⟨0, 0, 0, ⟨0, 0⟩⟩ k) →
    Ret (laws_toDoneS_l1 e w) fun r => r.1 = .slice (some ⟨g, 0, none⟩) xs.length xs.length ∧ O tDones (In w0.heap.size r.2.heap.size) r.2 [.slice (some ⟨g, 0, none⟩) xs.length xs.length] xs ∧ Ext w0 r.2 := by
  intro d
  induction d with
  | zero =>
    intro k e w hd e0 e3 e4 ha E0 ho
    have zE0 := E0.size
    try simp only [World.size_alloc, size_setRow, dw_size] at zE0
    rw [laws_toDoneS_l1_eq]
    obtain rfl : k = xs.length := by omega
    rw [fillP_end] at ho
    refine Ret.post fun Q hQ => ?_
    simp (maxSteps := 1000000) (disch := first | assumption | omega | (simp only [World.size_alloc, size_setRow, dw_size]; done) | (simp only [World.size_alloc, size_setRow, dw_size] <;> omega) | (simp only [List.length_set, Array.length_toList, List.length_cons, List.length_nil, List.length_append, bts_size] <;> omega) | (simp only [List.all_cons, List.all_nil, Value.oneCell', Bool.and_self, Bool.and_true]; done)) [-Option.bind_some, hp_alloc_lt, hp_alloc_eq, hp_set_ne, wrap_small, ups_ap_cons, ups_ap_nil, upd_same, upd_other, env0_ap0, env0_aps, xt_a, xt_b, xt_c, nk_ptr, e0, e3, e4, e0, e3, e4, E0.blk]
    exact hQ _ ⟨rfl, ho, E0⟩
  | succ d ih =>
    intro k e w hd e0 e3 e4 ha E0 ho
    have zE0 := E0.size
    try simp only [World.size_alloc, size_setRow, dw_size] at zE0
    rw [laws_toDoneS_l1_eq]
    have hlt : k < xs.length := by omega
    obtain ⟨x, hx, _⟩ := drop_at hlt
    have hn := ha.n
    obtain ⟨b1, o1, cs1, rfl, A1, D1, _, l1⟩ := (ha.ext E0).at (by decide) hx
    obtain rfl := D.done.1 D1
    have p0 := A1 0 _ rfl
    have p1 := A1 1 _ rfl
    have p2 := A1 2 _ rfl
    have p3 := A1 3 _ rfl
    have p4 := A1 4 _ rfl
    simp only [LDone_n, Nat.add_zero] at p0 p1 p2 p3 p4
    obtain ⟨g', cur, ds, S2, hgg, hSg, hgl, hg, hle, hx1, hS2, put⟩ := ho.row (by decide) (fillP_get hlt)
    simp only [Option.some.injEq, Addr.mk.injEq, and_true] at hgg
    subst hgg
    obtain rfl := O.done.1 hx1
    simp only [LDone_n] at hg hle put
    simp only [In] at hSg
    refine Ret.post fun Q hQ => ?_
    simp (maxSteps := 1000000) (disch := first | assumption | omega | (simp only [World.size_alloc, size_setRow, dw_size]; done) | (simp only [World.size_alloc, size_setRow, dw_size] <;> omega) | (simp only [List.length_set, Array.length_toList, List.length_cons, List.length_nil, List.length_append, bts_size] <;> omega) | (simp only [List.all_cons, List.all_nil, Value.oneCell', Bool.and_self, Bool.and_true]; done)) [-Option.bind_some, hp_alloc_lt, hp_alloc_eq, hp_set_ne, wrap_small, ups_ap_cons, ups_ap_nil, upd_same, upd_other, env0_ap0, env0_aps, xt_a, xt_b, xt_c, nk_ptr, -splice_eq, -stR_cells, stR_box, stR_boxA, stR_row, stR_row0, stR_row1, stR_rowA, stR_rowA0, splice_rowv, splice_rowv0, splice_rowv1, splice_z, splice_n, splice_s, nth_rowv, nth_rowv0, nth_rowv1, rowv_len, e0, e3, e4, hlt, ia_22, ia_25, p0, p1, p2, p3, p4, e0, e3, e4, E0.blk, hlt, hg]
    refine Ret.bind (laws_toDone_c x _) ?_
    rintro ⟨_, w1⟩ ⟨rfl, E1⟩
    try dsimp only at E1
    have zE1 := E1.size
    try simp only [World.size_alloc, size_setRow, dw_size] at zE1
    simp (maxSteps := 1000000) (disch := first | assumption | omega | (simp only [World.size_alloc, size_setRow, dw_size]; done) | (simp only [World.size_alloc, size_setRow, dw_size] <;> omega) | (simp only [List.length_set, Array.length_toList, List.length_cons, List.length_nil, List.length_append, bts_size] <;> omega) | (simp only [List.all_cons, List.all_nil, Value.oneCell', Bool.and_self, Bool.and_true]; done)) [-Option.bind_some, hp_alloc_lt, hp_alloc_eq, hp_set_ne, wrap_small, ups_ap_cons, ups_ap_nil, upd_same, upd_other, env0_ap0, env0_aps, xt_a, xt_b, xt_c, nk_ptr, -splice_eq, -stR_cells, stR_box, stR_boxA, stR_row, stR_row0, stR_row1, stR_rowA, stR_rowA0, splice_rowv, splice_rowv0, splice_rowv1, splice_z, splice_n, splice_s, nth_rowv, nth_rowv0, nth_rowv1, rowv_len, e0, e3, e4, hlt, ia_22, ia_25, hg, e0, e3, e4, E0.blk, hlt, hg, E1.blk]
    refine Ret.mono (ih (k + 1) _ _ (by omega) (by first | omega | assumption | rfl | exact congrArg i64 (by omega) | (simp; done) | (simp; omega)) (by first | omega | assumption | rfl | exact congrArg i64 (by omega) | (simp; done) | (simp; omega)) (by first | omega | assumption | rfl | exact congrArg i64 (by omega) | (simp; done) | (simp; omega)) ha (by (repeat (first | exact Ext.rfl | assumption | (refine Ext.al ?_ _) | (refine Ext.dw ?_) | (refine Ext.set ?_ (by first | omega | (simp only [World.size_alloc, size_setRow, dw_size]; omega)) _) | (refine Ext.tr ?_ (by assumption))))) ?_) hQ
    rw [← fillP_set hx]
    exact (put _ _ x (fun _ => False) (O.done.2 rfl) (by first | assumption | rfl | (simp (maxSteps := 1000000) (disch := first | assumption | omega | (simp only [World.size_alloc, size_setRow, dw_size]; done) | (simp only [World.size_alloc, size_setRow, dw_size] <;> omega) | (simp only [List.length_set, Array.length_toList, List.length_cons, List.length_nil, List.length_append, bts_size] <;> omega) | (simp only [List.all_cons, List.all_nil, Value.oneCell', Bool.and_self, Bool.and_true]; done)) [-Option.bind_some, hp_alloc_lt, hp_alloc_eq, hp_set_ne, wrap_small, ups_ap_cons, ups_ap_nil, upd_same, upd_other, env0_ap0, env0_aps, xt_a, xt_b, xt_c, nk_ptr, -splice_eq, -stR_cells, stR_box, stR_boxA, stR_row, stR_row0, stR_row1, stR_rowA, stR_rowA0, splice_rowv, splice_rowv0, splice_rowv1, splice_z, splice_n, splice_s, nth_rowv, nth_rowv0, nth_rowv1, rowv_len, hg, e0, e3, e4, E0.blk, hlt, hg, E1.blk]; done)) (by intro b _ _ _ _; first | rfl | (simp (disch := first | assumption | omega | (simp only [World.size_alloc, size_setRow, dw_size]; omega) | (simp only [World.size_alloc, size_setRow, dw_size, In]; omega)) only [E0.blk, E1.blk, hp_alloc_lt, hp_set_ne, hp_dw]; done)) (fun _ _ h => h.elim)).wide fun b h _ => h.elim (by intro h; (try simp only [In, World.size_alloc, size_setRow, dw_size] at *); omega) fun h => h.elim
theorem laws_toDoneS_m {S : Nat → Prop} {a : Option Addr} {n c : Nat} {xs : List Done} {w : World} (ha : D tDones S w [.slice a n c] xs) :
    Ret (EV P 7 #[.slice a n c] w) fun r => ∃ a' c', r.1 = .slice a' xs.length c' ∧ O tDones (In w.heap.size r.2.heap.size) r.2 [.slice a' xs.length c'] xs ∧ Ext w r.2 := by
  obtain ⟨rfl, hm, _⟩ := ha.n
  refine Ret.post fun Q hQ => ?_
  refine Ret.enter plain mixed (laws_toDoneS_fn _ _) (by kernel_rfl) (n := 1) (by kernel_rfl) rfl ?_
  simp (maxSteps := 1000000) (disch := first | assumption | omega | (simp only [World.size_alloc, size_setRow, dw_size]; done) | (simp only [World.size_alloc, size_setRow, dw_size] <;> omega) | (simp only [List.length_set, Array.length_toList, List.length_cons, List.length_nil, List.length_append, bts_size] <;> omega) | (simp only [List.all_cons, List.all_nil, Value.oneCell', Bool.and_self, Bool.and_true]; done)) [-Option.bind_some, hp_alloc_lt, hp_alloc_eq, hp_set_ne, wrap_small, ups_ap_cons, ups_ap_nil, upd_same, upd_other, env0_ap0, env0_aps, xt_a, xt_b, xt_c, nk_ptr]
  refine Ret.bind (O.make (L := LDone) (mx := 3518437208883) (x0 := (⟨0, 0, 0, ⟨0, 0⟩⟩ : Done)) el_25 zz_38 rfl (by decide) (fun w => O.done.2 rfl) hm (by decide) (by decide)) ?_
  rintro ⟨_, w1⟩ ⟨rfl, o1, z1, E1⟩
  have zE1 := E1.size
  try simp only [World.size_alloc, size_setRow, dw_size] at zE1
  try dsimp only at o1 z1 E1
  simp (maxSteps := 1000000) (disch := first | assumption | omega | (simp only [World.size_alloc, size_setRow, dw_size]; done) | (simp only [World.size_alloc, size_setRow, dw_size] <;> omega) | (simp only [List.length_set, Array.length_toList, List.length_cons, List.length_nil, List.length_append, bts_size] <;> omega) | (simp only [List.all_cons, List.all_nil, Value.oneCell', Bool.and_self, Bool.and_true]; done)) [-Option.bind_some, hp_alloc_lt, hp_alloc_eq, hp_set_ne, wrap_small, ups_ap_cons, ups_ap_nil, upd_same, upd_other, env0_ap0, env0_aps, xt_a, xt_b, xt_c, nk_ptr, E1.blk]
  refine Ret.mono (laws_toDoneS_n (g := w.heap.size) (w0 := w) xs.length 0 _ w1 (by omega) rfl rfl rfl ha E1 ?_) ?_
  · rw [show fillP xs (⟨0, 0, 0, ⟨0, 0⟩⟩ : Done) 0 = List.replicate xs.length ⟨0, 0, 0, ⟨0, 0⟩⟩ by simp [fillP]]
    exact o1.wide (fun b h _ => by have h : b = w.heap.size := h; simp only [In]; omega)
  · rintro r ⟨h1, h2, h3⟩
    exact hQ _ ⟨_, _, h1, h2, h3⟩
theorem laws_eqDoneS_n {a b : Option Addr} {c c' : Nat} {S S' : Nat → Prop} {xs : List Done} {w0 : World} :
    ∀ (d k : Nat) (e : Env) (w : World), k + d = xs.length → e 0 = .slice a xs.length c → e 1 = .slice b xs.length c' → e 5 = i64 k → D tDones S w0 [.slice a xs.length c] xs → D tDones S' w0 [.slice b xs.length c'] xs → Ext w0 w →
    Ret (laws_eqDoneS_l1 e w) fun r => r.1 = .bool true ∧ Ext w0 r.2 := by
  intro d
  induction d with
  | zero =>
    intro k e w hd e0 e1 e5 ha hb E0
    have zE0 := E0.size
    try simp only [World.size_alloc, size_setRow, dw_size] at zE0
    rw [laws_eqDoneS_l1_eq]
    obtain rfl : k = xs.length := by omega
    refine Ret.post fun Q hQ => ?_
    simp (maxSteps := 1000000) (disch := first | assumption | omega | (simp only [World.size_alloc, size_setRow, dw_size]; done) | (simp only [World.size_alloc, size_setRow, dw_size] <;> omega) | (simp only [List.length_set, Array.length_toList, List.length_cons, List.length_nil, List.length_append, bts_size] <;> omega) | (simp only [List.all_cons, List.all_nil, Value.oneCell', Bool.and_self, Bool.and_true]; done)) [-Option.bind_some, hp_alloc_lt, hp_alloc_eq, hp_set_ne, wrap_small, ups_ap_cons, ups_ap_nil, upd_same, upd_other, env0_ap0, env0_aps, xt_a, xt_b, xt_c, nk_ptr, -splice_eq, -stR_cells, stR_box, stR_boxA, stR_row, stR_row0, stR_row1, stR_rowA, stR_rowA0, splice_rowv, splice_rowv0, splice_rowv1, splice_z, splice_n, splice_s, nth_rowv, nth_rowv0, nth_rowv1, rowv_len, e0, e1, e5, e0, e1, e5, E0.blk]
    exact hQ _ ⟨rfl, by (repeat (first | exact Ext.rfl | assumption | (refine Ext.al ?_ _) | (refine Ext.dw ?_) | (refine Ext.set ?_ (by first | omega | (simp only [World.size_alloc, size_setRow, dw_size]; omega)) _) | (refine Ext.tr ?_ (by assumption))))⟩
  | succ d ih =>
    intro k e w hd e0 e1 e5 ha hb E0
    have zE0 := E0.size
    try simp only [World.size_alloc, size_setRow, dw_size] at zE0
    rw [laws_eqDoneS_l1_eq]
    have hlt : k < xs.length := by omega
    obtain ⟨x, hx, hdx⟩ := drop_at hlt
    have hn := ha.n
    obtain ⟨b1, o1, cs1, rfl, A1, D1, _, l1⟩ := (ha.ext E0).at (by decide) hx
    obtain rfl := D.done.1 D1
    have p0 := A1 0 _ rfl
    have p1 := A1 1 _ rfl
    have p2 := A1 2 _ rfl
    have p3 := A1 3 _ rfl
    have p4 := A1 4 _ rfl
    simp only [LDone_n, Nat.add_zero] at p0 p1 p2 p3 p4
    obtain ⟨b2, o2, cs2, rfl, A2, D2, _, l2⟩ := (hb.ext E0).at (by decide) hx
    obtain rfl := D.done.1 D2
    have q0 := A2 0 _ rfl
    have q1 := A2 1 _ rfl
    have q2 := A2 2 _ rfl
    have q3 := A2 3 _ rfl
    have q4 := A2 4 _ rfl
    simp only [LDone_n, Nat.add_zero] at q0 q1 q2 q3 q4
    refine Ret.post fun Q hQ => ?_
    simp (maxSteps := 1000000) (disch := first | assumption | omega | (simp only [World.size_alloc, size_setRow, dw_size]; done) | (simp only [World.size_alloc, size_setRow, dw_size] <;> omega) | (simp only [List.length_set, Array.length_toList, List.length_cons, List.length_nil, List.length_append, bts_size] <;> omega) | (simp only [List.all_cons, List.all_nil, Value.oneCell', Bool.and_self, Bool.and_true]; done)) [-Option.bind_some, hp_alloc_lt, hp_alloc_eq, hp_set_ne, wrap_small, ups_ap_cons, ups_ap_nil, upd_same, upd_other, env0_ap0, env0_aps, xt_a, xt_b, xt_c, nk_ptr, -splice_eq, -stR_cells, stR_box, stR_boxA, stR_row, stR_row0, stR_row1, stR_rowA, stR_rowA0, splice_rowv, splice_rowv0, splice_rowv1, splice_z, splice_n, splice_s, nth_rowv, nth_rowv0, nth_rowv1, rowv_len, e0, e1, e5, hlt, ia_25, p0, p1, p2, p3, p4, q0, q1, q2, q3, q4, e0, e1, e5, E0.blk, hlt]
    refine Ret.bind (laws_eqDone_c x _) ?_
    rintro ⟨_, w1⟩ ⟨rfl, E1⟩
    try dsimp only at E1
    have zE1 := E1.size
    try simp only [World.size_alloc, size_setRow, dw_size] at zE1
    simp (maxSteps := 1000000) (disch := first | assumption | omega | (simp only [World.size_alloc, size_setRow, dw_size]; done) | (simp only [World.size_alloc, size_setRow, dw_size] <;> omega) | (simp only [List.length_set, Array.length_toList, List.length_cons, List.length_nil, List.length_append, bts_size] <;> omega) | (simp only [List.all_cons, List.all_nil, Value.oneCell', Bool.and_self, Bool.and_true]; done)) [-Option.bind_some, hp_alloc_lt, hp_alloc_eq, hp_set_ne, wrap_small, ups_ap_cons, ups_ap_nil, upd_same, upd_other, env0_ap0, env0_aps, xt_a, xt_b, xt_c, nk_ptr, -splice_eq, -stR_cells, stR_box, stR_boxA, stR_row, stR_row0, stR_row1, stR_rowA, stR_rowA0, splice_rowv, splice_rowv0, splice_rowv1, splice_z, splice_n, splice_s, nth_rowv, nth_rowv0, nth_rowv1, rowv_len, e0, e1, e5, e0, e1, e5, E0.blk, hlt, E1.blk]
    exact Ret.mono (ih (k + 1) _ _ (by omega) (by first | omega | assumption | rfl | exact congrArg i64 (by omega) | (simp; done) | (simp; omega)) (by first | omega | assumption | rfl | exact congrArg i64 (by omega) | (simp; done) | (simp; omega)) (by first | omega | assumption | rfl | exact congrArg i64 (by omega) | (simp; done) | (simp; omega)) ha hb (by (repeat (first | exact Ext.rfl | assumption | (refine Ext.al ?_ _) | (refine Ext.dw ?_) | (refine Ext.set ?_ (by first | omega | (simp only [World.size_alloc, size_setRow, dw_size]; omega)) _) | (refine Ext.tr ?_ (by assumption)))))) hQ
theorem laws_eqDoneS_m {a b : Option Addr} {n m c c' : Nat} {S S' : Nat → Prop} {xs : List Done} {w : World} (ha : D tDones S w [.slice a n c] xs) (hb : D tDones S' w [.slice b m c'] xs) :
    Ret (EV P 9 #[.slice a n c, .slice b m c'] w) fun r => r.1 = .bool true ∧ Ext w r.2 := by
  obtain ⟨rfl, hm, _⟩ := ha.n
  obtain ⟨rfl, hm2, _⟩ := hb.n
  refine Ret.post fun Q hQ => ?_
  refine Ret.enter plain mixed (laws_eqDoneS_fn _ _ _) (by kernel_rfl) (n := 2) (by kernel_rfl) rfl ?_
  simp (maxSteps := 1000000) (disch := first | assumption | omega | (simp only [World.size_alloc, size_setRow, dw_size]; done) | (simp only [World.size_alloc, size_setRow, dw_size] <;> omega) | (simp only [List.length_set, Array.length_toList, List.length_cons, List.length_nil, List.length_append, bts_size] <;> omega) | (simp only [List.all_cons, List.all_nil, Value.oneCell', Bool.and_self, Bool.and_true]; done)) [-Option.bind_some, hp_alloc_lt, hp_alloc_eq, hp_set_ne, wrap_small, ups_ap_cons, ups_ap_nil, upd_same, upd_other, env0_ap0, env0_aps, xt_a, xt_b, xt_c, nk_ptr, -splice_eq, -stR_cells, stR_box, stR_boxA, stR_row, stR_row0, stR_row1, stR_rowA, stR_rowA0, splice_rowv, splice_rowv0, splice_rowv1, splice_z, splice_n, splice_s, nth_rowv, nth_rowv0, nth_rowv1, rowv_len, bne_self_eq_false]
  refine Ret.mono (laws_eqDoneS_n xs.length 0 _ w (by omega) rfl rfl rfl ha hb Ext.rfl) hQ
theorem spec_l5OpOk_c (d : Done) (w : World) : Ret (EV P 28 #[.agg (doneC d).toArray] w) fun r => r.1 = .bool (opOk d) ∧ Ext w r.2 := by
  refine Ret.post fun Q hQ => ?_
  refine Ret.enter plain mixed (spec_l5OpOk_fn _ _) (by kernel_rfl) (n := 1) (by kernel_rfl) rfl ?_
  simp (maxSteps := 1000000) (disch := first | assumption | omega | (simp only [World.size_alloc, size_setRow, dw_size]; done) | (simp only [World.size_alloc, size_setRow, dw_size] <;> omega) | (simp only [List.length_set, Array.length_toList, List.length_cons, List.length_nil, List.length_append, bts_size] <;> omega) | (simp only [List.all_cons, List.all_nil, Value.oneCell', Bool.and_self, Bool.and_true]; done)) [-Option.bind_some, hp_alloc_lt, hp_alloc_eq, hp_set_ne, wrap_small, ups_ap_cons, ups_ap_nil, upd_same, upd_other, env0_ap0, env0_aps, xt_a, xt_b, xt_c, nk_ptr, -splice_eq, -stR_cells, stR_box, stR_boxA, stR_row, stR_row0, stR_row1, stR_rowA, stR_rowA0, splice_rowv, splice_rowv0, splice_rowv1, splice_z, splice_n, splice_s, nth_rowv, nth_rowv0, nth_rowv1, rowv_len]
  refine Ret.bind (spec_l1In_c _ _ _ _) ?_
  rintro _ rfl
  unfold opOk at hQ
  cases b1 : (decide (0 ≤ d.sess) && decide (d.sess ≤ 3))
  · rw [b1] at hQ
    simp (maxSteps := 1000000) (disch := first | assumption | omega | (simp only [World.size_alloc, size_setRow, dw_size]; done) | (simp only [World.size_alloc, size_setRow, dw_size] <;> omega) | (simp only [List.length_set, Array.length_toList, List.length_cons, List.length_nil, List.length_append, bts_size] <;> omega) | (simp only [List.all_cons, List.all_nil, Value.oneCell', Bool.and_self, Bool.and_true]; done)) [-Option.bind_some, hp_alloc_lt, hp_alloc_eq, hp_set_ne, wrap_small, ups_ap_cons, ups_ap_nil, upd_same, upd_other, env0_ap0, env0_aps, xt_a, xt_b, xt_c, nk_ptr, -splice_eq, -stR_cells, stR_box, stR_boxA, stR_row, stR_row0, stR_row1, stR_rowA, stR_rowA0, splice_rowv, splice_rowv0, splice_rowv1, splice_z, splice_n, splice_s, nth_rowv, nth_rowv0, nth_rowv1, rowv_len]
    exact hQ _ ⟨by simp, by (repeat (first | exact Ext.rfl | assumption | (refine Ext.al ?_ _) | (refine Ext.dw ?_) | (refine Ext.set ?_ (by first | omega | (simp only [World.size_alloc, size_setRow, dw_size]; omega)) _) | (refine Ext.tr ?_ (by assumption))))⟩
  simp (maxSteps := 1000000) (disch := first | assumption | omega | (simp only [World.size_alloc, size_setRow, dw_size]; done) | (simp only [World.size_alloc, size_setRow, dw_size] <;> omega) | (simp only [List.length_set, Array.length_toList, List.length_cons, List.length_nil, List.length_append, bts_size] <;> omega) | (simp only [List.all_cons, List.all_nil, Value.oneCell', Bool.and_self, Bool.and_true]; done)) [-Option.bind_some, hp_alloc_lt, hp_alloc_eq, hp_set_ne, wrap_small, ups_ap_cons, ups_ap_nil, upd_same, upd_other, env0_ap0, env0_aps, xt_a, xt_b, xt_c, nk_ptr, -splice_eq, -stR_cells, stR_box, stR_boxA, stR_row, stR_row0, stR_row1, stR_rowA, stR_rowA0, splice_rowv, splice_rowv0, splice_rowv1, splice_z, splice_n, splice_s, nth_rowv, nth_rowv0, nth_rowv1, rowv_len]
  refine Ret.bind (spec_l1In_c _ _ _ _) ?_
  rintro _ rfl
  cases b2 : (decide (1 ≤ d.kind) && decide (d.kind ≤ 3))
  · rw [b2] at hQ
    simp (maxSteps := 1000000) (disch := first | assumption | omega | (simp only [World.size_alloc, size_setRow, dw_size]; done) | (simp only [World.size_alloc, size_setRow, dw_size] <;> omega) | (simp only [List.length_set, Array.length_toList, List.length_cons, List.length_nil, List.length_append, bts_size] <;> omega) | (simp only [List.all_cons, List.all_nil, Value.oneCell', Bool.and_self, Bool.and_true]; done)) [-Option.bind_some, hp_alloc_lt, hp_alloc_eq, hp_set_ne, wrap_small, ups_ap_cons, ups_ap_nil, upd_same, upd_other, env0_ap0, env0_aps, xt_a, xt_b, xt_c, nk_ptr, -splice_eq, -stR_cells, stR_box, stR_boxA, stR_row, stR_row0, stR_row1, stR_rowA, stR_rowA0, splice_rowv, splice_rowv0, splice_rowv1, splice_z, splice_n, splice_s, nth_rowv, nth_rowv0, nth_rowv1, rowv_len]
    exact hQ _ ⟨by simp, by (repeat (first | exact Ext.rfl | assumption | (refine Ext.al ?_ _) | (refine Ext.dw ?_) | (refine Ext.set ?_ (by first | omega | (simp only [World.size_alloc, size_setRow, dw_size]; omega)) _) | (refine Ext.tr ?_ (by assumption))))⟩
  simp (maxSteps := 1000000) (disch := first | assumption | omega | (simp only [World.size_alloc, size_setRow, dw_size]; done) | (simp only [World.size_alloc, size_setRow, dw_size] <;> omega) | (simp only [List.length_set, Array.length_toList, List.length_cons, List.length_nil, List.length_append, bts_size] <;> omega) | (simp only [List.all_cons, List.all_nil, Value.oneCell', Bool.and_self, Bool.and_true]; done)) [-Option.bind_some, hp_alloc_lt, hp_alloc_eq, hp_set_ne, wrap_small, ups_ap_cons, ups_ap_nil, upd_same, upd_other, env0_ap0, env0_aps, xt_a, xt_b, xt_c, nk_ptr, -splice_eq, -stR_cells, stR_box, stR_boxA, stR_row, stR_row0, stR_row1, stR_rowA, stR_rowA0, splice_rowv, splice_rowv0, splice_rowv1, splice_z, splice_n, splice_s, nth_rowv, nth_rowv0, nth_rowv1, rowv_len]
  refine Ret.bind (spec_l1In_c _ _ _ _) ?_
  rintro _ rfl
  cases b3 : (decide (0 ≤ d.key) && decide (d.key ≤ 3))
  · rw [b3] at hQ
    simp (maxSteps := 1000000) (disch := first | assumption | omega | (simp only [World.size_alloc, size_setRow, dw_size]; done) | (simp only [World.size_alloc, size_setRow, dw_size] <;> omega) | (simp only [List.length_set, Array.length_toList, List.length_cons, List.length_nil, List.length_append, bts_size] <;> omega) | (simp only [List.all_cons, List.all_nil, Value.oneCell', Bool.and_self, Bool.and_true]; done)) [-Option.bind_some, hp_alloc_lt, hp_alloc_eq, hp_set_ne, wrap_small, ups_ap_cons, ups_ap_nil, upd_same, upd_other, env0_ap0, env0_aps, xt_a, xt_b, xt_c, nk_ptr, -splice_eq, -stR_cells, stR_box, stR_boxA, stR_row, stR_row0, stR_row1, stR_rowA, stR_rowA0, splice_rowv, splice_rowv0, splice_rowv1, splice_z, splice_n, splice_s, nth_rowv, nth_rowv0, nth_rowv1, rowv_len]
    exact hQ _ ⟨by simp, by (repeat (first | exact Ext.rfl | assumption | (refine Ext.al ?_ _) | (refine Ext.dw ?_) | (refine Ext.set ?_ (by first | omega | (simp only [World.size_alloc, size_setRow, dw_size]; omega)) _) | (refine Ext.tr ?_ (by assumption))))⟩
  simp (maxSteps := 1000000) (disch := first | assumption | omega | (simp only [World.size_alloc, size_setRow, dw_size]; done) | (simp only [World.size_alloc, size_setRow, dw_size] <;> omega) | (simp only [List.length_set, Array.length_toList, List.length_cons, List.length_nil, List.length_append, bts_size] <;> omega) | (simp only [List.all_cons, List.all_nil, Value.oneCell', Bool.and_self, Bool.and_true]; done)) [-Option.bind_some, hp_alloc_lt, hp_alloc_eq, hp_set_ne, wrap_small, ups_ap_cons, ups_ap_nil, upd_same, upd_other, env0_ap0, env0_aps, xt_a, xt_b, xt_c, nk_ptr, -splice_eq, -stR_cells, stR_box, stR_boxA, stR_row, stR_row0, stR_row1, stR_rowA, stR_rowA0, splice_rowv, splice_rowv0, splice_rowv1, splice_z, splice_n, splice_s, nth_rowv, nth_rowv0, nth_rowv1, rowv_len]
  refine Ret.bind (spec_l1TagOk_c d.tag _) ?_
  rintro ⟨_, w1⟩ ⟨rfl, E1⟩
  try dsimp only at E1
  have zE1 := E1.size
  try simp only [World.size_alloc, size_setRow, dw_size] at zE1
  cases b4 : tagOk d.tag
  · rw [b4] at hQ
    simp (maxSteps := 1000000) (disch := first | assumption | omega | (simp only [World.size_alloc, size_setRow, dw_size]; done) | (simp only [World.size_alloc, size_setRow, dw_size] <;> omega) | (simp only [List.length_set, Array.length_toList, List.length_cons, List.length_nil, List.length_append, bts_size] <;> omega) | (simp only [List.all_cons, List.all_nil, Value.oneCell', Bool.and_self, Bool.and_true]; done)) [-Option.bind_some, hp_alloc_lt, hp_alloc_eq, hp_set_ne, wrap_small, ups_ap_cons, ups_ap_nil, upd_same, upd_other, env0_ap0, env0_aps, xt_a, xt_b, xt_c, nk_ptr, -splice_eq, -stR_cells, stR_box, stR_boxA, stR_row, stR_row0, stR_row1, stR_rowA, stR_rowA0, splice_rowv, splice_rowv0, splice_rowv1, splice_z, splice_n, splice_s, nth_rowv, nth_rowv0, nth_rowv1, rowv_len, E1.blk]
    exact hQ _ ⟨by simp, by (repeat (first | exact Ext.rfl | assumption | (refine Ext.al ?_ _) | (refine Ext.dw ?_) | (refine Ext.set ?_ (by first | omega | (simp only [World.size_alloc, size_setRow, dw_size]; omega)) _) | (refine Ext.tr ?_ (by assumption))))⟩
  rw [b1, b2, b3, b4] at hQ
  cases b5 : (d.kind == 2)
  · rw [b5] at hQ
    simp (maxSteps := 1000000) (disch := first | assumption | omega | (simp only [World.size_alloc, size_setRow, dw_size]; done) | (simp only [World.size_alloc, size_setRow, dw_size] <;> omega) | (simp only [List.length_set, Array.length_toList, List.length_cons, List.length_nil, List.length_append, bts_size] <;> omega) | (simp only [List.all_cons, List.all_nil, Value.oneCell', Bool.and_self, Bool.and_true]; done)) [-Option.bind_some, hp_alloc_lt, hp_alloc_eq, hp_set_ne, wrap_small, ups_ap_cons, ups_ap_nil, upd_same, upd_other, env0_ap0, env0_aps, xt_a, xt_b, xt_c, nk_ptr, -splice_eq, -stR_cells, stR_box, stR_boxA, stR_row, stR_row0, stR_row1, stR_rowA, stR_rowA0, splice_rowv, splice_rowv0, splice_rowv1, splice_z, splice_n, splice_s, nth_rowv, nth_rowv0, nth_rowv1, rowv_len, b5, E1.blk]
    exact hQ _ ⟨by simp, by (repeat (first | exact Ext.rfl | assumption | (refine Ext.al ?_ _) | (refine Ext.dw ?_) | (refine Ext.set ?_ (by first | omega | (simp only [World.size_alloc, size_setRow, dw_size]; omega)) _) | (refine Ext.tr ?_ (by assumption))))⟩
  · rw [b5] at hQ
    simp (maxSteps := 1000000) (disch := first | assumption | omega | (simp only [World.size_alloc, size_setRow, dw_size]; done) | (simp only [World.size_alloc, size_setRow, dw_size] <;> omega) | (simp only [List.length_set, Array.length_toList, List.length_cons, List.length_nil, List.length_append, bts_size] <;> omega) | (simp only [List.all_cons, List.all_nil, Value.oneCell', Bool.and_self, Bool.and_true]; done)) [-Option.bind_some, hp_alloc_lt, hp_alloc_eq, hp_set_ne, wrap_small, ups_ap_cons, ups_ap_nil, upd_same, upd_other, env0_ap0, env0_aps, xt_a, xt_b, xt_c, nk_ptr, -splice_eq, -stR_cells, stR_box, stR_boxA, stR_row, stR_row0, stR_row1, stR_rowA, stR_rowA0, splice_rowv, splice_rowv0, splice_rowv1, splice_z, splice_n, splice_s, nth_rowv, nth_rowv0, nth_rowv1, rowv_len, b5, E1.blk]
    exact hQ _ ⟨by simp, by (repeat (first | exact Ext.rfl | assumption | (refine Ext.al ?_ _) | (refine Ext.dw ?_) | (refine Ext.set ?_ (by first | omega | (simp only [World.size_alloc, size_setRow, dw_size]; omega)) _) | (refine Ext.tr ?_ (by assumption))))⟩
theorem impl_formed_1_c (d : Done) (w : World) : Ret (EV P 36 #[.agg (doneC d).toArray] w) fun r => r.1 = .bool (!opOk d) ∧ Ext w r.2 := by
  refine Ret.post fun Q hQ => ?_
  refine Ret.enter plain mixed (impl_formed_1_fn _ _) (by kernel_rfl) (n := 1) (by kernel_rfl) rfl ?_
  simp (maxSteps := 1000000) (disch := first | assumption | omega | (simp only [World.size_alloc, size_setRow, dw_size]; done) | (simp only [World.size_alloc, size_setRow, dw_size] <;> omega) | (simp only [List.length_set, Array.length_toList, List.length_cons, List.length_nil, List.length_append, bts_size] <;> omega) | (simp only [List.all_cons, List.all_nil, Value.oneCell', Bool.and_self, Bool.and_true]; done)) [-Option.bind_some, hp_alloc_lt, hp_alloc_eq, hp_set_ne, wrap_small, ups_ap_cons, ups_ap_nil, upd_same, upd_other, env0_ap0, env0_aps, xt_a, xt_b, xt_c, nk_ptr, -splice_eq, -stR_cells, stR_box, stR_boxA, stR_row, stR_row0, stR_row1, stR_rowA, stR_rowA0, splice_rowv, splice_rowv0, splice_rowv1, splice_z, splice_n, splice_s, nth_rowv, nth_rowv0, nth_rowv1, rowv_len]
  refine Ret.bind (impl_within_c _ _ _ _) ?_
  rintro _ rfl
  unfold opOk at hQ
  cases b1 : (decide (0 ≤ d.sess) && decide (d.sess ≤ 3))
  · rw [b1] at hQ
    simp (maxSteps := 1000000) (disch := first | assumption | omega | (simp only [World.size_alloc, size_setRow, dw_size]; done) | (simp only [World.size_alloc, size_setRow, dw_size] <;> omega) | (simp only [List.length_set, Array.length_toList, List.length_cons, List.length_nil, List.length_append, bts_size] <;> omega) | (simp only [List.all_cons, List.all_nil, Value.oneCell', Bool.and_self, Bool.and_true]; done)) [-Option.bind_some, hp_alloc_lt, hp_alloc_eq, hp_set_ne, wrap_small, ups_ap_cons, ups_ap_nil, upd_same, upd_other, env0_ap0, env0_aps, xt_a, xt_b, xt_c, nk_ptr, -splice_eq, -stR_cells, stR_box, stR_boxA, stR_row, stR_row0, stR_row1, stR_rowA, stR_rowA0, splice_rowv, splice_rowv0, splice_rowv1, splice_z, splice_n, splice_s, nth_rowv, nth_rowv0, nth_rowv1, rowv_len]
    exact hQ _ ⟨by simp, by (repeat (first | exact Ext.rfl | assumption | (refine Ext.al ?_ _) | (refine Ext.dw ?_) | (refine Ext.set ?_ (by first | omega | (simp only [World.size_alloc, size_setRow, dw_size]; omega)) _) | (refine Ext.tr ?_ (by assumption))))⟩
  simp (maxSteps := 1000000) (disch := first | assumption | omega | (simp only [World.size_alloc, size_setRow, dw_size]; done) | (simp only [World.size_alloc, size_setRow, dw_size] <;> omega) | (simp only [List.length_set, Array.length_toList, List.length_cons, List.length_nil, List.length_append, bts_size] <;> omega) | (simp only [List.all_cons, List.all_nil, Value.oneCell', Bool.and_self, Bool.and_true]; done)) [-Option.bind_some, hp_alloc_lt, hp_alloc_eq, hp_set_ne, wrap_small, ups_ap_cons, ups_ap_nil, upd_same, upd_other, env0_ap0, env0_aps, xt_a, xt_b, xt_c, nk_ptr, -splice_eq, -stR_cells, stR_box, stR_boxA, stR_row, stR_row0, stR_row1, stR_rowA, stR_rowA0, splice_rowv, splice_rowv0, splice_rowv1, splice_z, splice_n, splice_s, nth_rowv, nth_rowv0, nth_rowv1, rowv_len]
  refine Ret.bind (impl_within_c _ _ _ _) ?_
  rintro _ rfl
  cases b2 : (decide (1 ≤ d.kind) && decide (d.kind ≤ 3))
  · rw [b2] at hQ
    simp (maxSteps := 1000000) (disch := first | assumption | omega | (simp only [World.size_alloc, size_setRow, dw_size]; done) | (simp only [World.size_alloc, size_setRow, dw_size] <;> omega) | (simp only [List.length_set, Array.length_toList, List.length_cons, List.length_nil, List.length_append, bts_size] <;> omega) | (simp only [List.all_cons, List.all_nil, Value.oneCell', Bool.and_self, Bool.and_true]; done)) [-Option.bind_some, hp_alloc_lt, hp_alloc_eq, hp_set_ne, wrap_small, ups_ap_cons, ups_ap_nil, upd_same, upd_other, env0_ap0, env0_aps, xt_a, xt_b, xt_c, nk_ptr, -splice_eq, -stR_cells, stR_box, stR_boxA, stR_row, stR_row0, stR_row1, stR_rowA, stR_rowA0, splice_rowv, splice_rowv0, splice_rowv1, splice_z, splice_n, splice_s, nth_rowv, nth_rowv0, nth_rowv1, rowv_len]
    exact hQ _ ⟨by simp, by (repeat (first | exact Ext.rfl | assumption | (refine Ext.al ?_ _) | (refine Ext.dw ?_) | (refine Ext.set ?_ (by first | omega | (simp only [World.size_alloc, size_setRow, dw_size]; omega)) _) | (refine Ext.tr ?_ (by assumption))))⟩
  simp (maxSteps := 1000000) (disch := first | assumption | omega | (simp only [World.size_alloc, size_setRow, dw_size]; done) | (simp only [World.size_alloc, size_setRow, dw_size] <;> omega) | (simp only [List.length_set, Array.length_toList, List.length_cons, List.length_nil, List.length_append, bts_size] <;> omega) | (simp only [List.all_cons, List.all_nil, Value.oneCell', Bool.and_self, Bool.and_true]; done)) [-Option.bind_some, hp_alloc_lt, hp_alloc_eq, hp_set_ne, wrap_small, ups_ap_cons, ups_ap_nil, upd_same, upd_other, env0_ap0, env0_aps, xt_a, xt_b, xt_c, nk_ptr, -splice_eq, -stR_cells, stR_box, stR_boxA, stR_row, stR_row0, stR_row1, stR_rowA, stR_rowA0, splice_rowv, splice_rowv0, splice_rowv1, splice_z, splice_n, splice_s, nth_rowv, nth_rowv0, nth_rowv1, rowv_len]
  refine Ret.bind (impl_keyOk_c _ _) ?_
  rintro _ rfl
  cases b3 : keyOk d.key
  · rw [show (decide (0 ≤ d.key) && decide (d.key ≤ 3)) = false from b3] at hQ
    simp (maxSteps := 1000000) (disch := first | assumption | omega | (simp only [World.size_alloc, size_setRow, dw_size]; done) | (simp only [World.size_alloc, size_setRow, dw_size] <;> omega) | (simp only [List.length_set, Array.length_toList, List.length_cons, List.length_nil, List.length_append, bts_size] <;> omega) | (simp only [List.all_cons, List.all_nil, Value.oneCell', Bool.and_self, Bool.and_true]; done)) [-Option.bind_some, hp_alloc_lt, hp_alloc_eq, hp_set_ne, wrap_small, ups_ap_cons, ups_ap_nil, upd_same, upd_other, env0_ap0, env0_aps, xt_a, xt_b, xt_c, nk_ptr, -splice_eq, -stR_cells, stR_box, stR_boxA, stR_row, stR_row0, stR_row1, stR_rowA, stR_rowA0, splice_rowv, splice_rowv0, splice_rowv1, splice_z, splice_n, splice_s, nth_rowv, nth_rowv0, nth_rowv1, rowv_len]
    exact hQ _ ⟨by simp, by (repeat (first | exact Ext.rfl | assumption | (refine Ext.al ?_ _) | (refine Ext.dw ?_) | (refine Ext.set ?_ (by first | omega | (simp only [World.size_alloc, size_setRow, dw_size]; omega)) _) | (refine Ext.tr ?_ (by assumption))))⟩
  simp (maxSteps := 1000000) (disch := first | assumption | omega | (simp only [World.size_alloc, size_setRow, dw_size]; done) | (simp only [World.size_alloc, size_setRow, dw_size] <;> omega) | (simp only [List.length_set, Array.length_toList, List.length_cons, List.length_nil, List.length_append, bts_size] <;> omega) | (simp only [List.all_cons, List.all_nil, Value.oneCell', Bool.and_self, Bool.and_true]; done)) [-Option.bind_some, hp_alloc_lt, hp_alloc_eq, hp_set_ne, wrap_small, ups_ap_cons, ups_ap_nil, upd_same, upd_other, env0_ap0, env0_aps, xt_a, xt_b, xt_c, nk_ptr, -splice_eq, -stR_cells, stR_box, stR_boxA, stR_row, stR_row0, stR_row1, stR_rowA, stR_rowA0, splice_rowv, splice_rowv0, splice_rowv1, splice_z, splice_n, splice_s, nth_rowv, nth_rowv0, nth_rowv1, rowv_len]
  refine Ret.bind (impl_TagOk_c d.tag _) ?_
  rintro ⟨_, w1⟩ ⟨rfl, E1⟩
  try dsimp only at E1
  have zE1 := E1.size
  try simp only [World.size_alloc, size_setRow, dw_size] at zE1
  cases b4 : tagOk d.tag
  · rw [b4] at hQ
    simp (maxSteps := 1000000) (disch := first | assumption | omega | (simp only [World.size_alloc, size_setRow, dw_size]; done) | (simp only [World.size_alloc, size_setRow, dw_size] <;> omega) | (simp only [List.length_set, Array.length_toList, List.length_cons, List.length_nil, List.length_append, bts_size] <;> omega) | (simp only [List.all_cons, List.all_nil, Value.oneCell', Bool.and_self, Bool.and_true]; done)) [-Option.bind_some, hp_alloc_lt, hp_alloc_eq, hp_set_ne, wrap_small, ups_ap_cons, ups_ap_nil, upd_same, upd_other, env0_ap0, env0_aps, xt_a, xt_b, xt_c, nk_ptr, -splice_eq, -stR_cells, stR_box, stR_boxA, stR_row, stR_row0, stR_row1, stR_rowA, stR_rowA0, splice_rowv, splice_rowv0, splice_rowv1, splice_z, splice_n, splice_s, nth_rowv, nth_rowv0, nth_rowv1, rowv_len, E1.blk]
    exact hQ _ ⟨by simp, by (repeat (first | exact Ext.rfl | assumption | (refine Ext.al ?_ _) | (refine Ext.dw ?_) | (refine Ext.set ?_ (by first | omega | (simp only [World.size_alloc, size_setRow, dw_size]; omega)) _) | (refine Ext.tr ?_ (by assumption))))⟩
  rw [b1, b2, b4, show (decide (0 ≤ d.key) && decide (d.key ≤ 3)) = true from b3] at hQ
  have hz : ((d.tag.t == 0) && (d.tag.p == 0)) = !decide (0 < d.tag.t) := by
    rw [Bool.eq_iff_iff]
    simp only [tagOk, Bool.or_eq_true, Bool.and_eq_true, beq_iff_eq, decide_eq_true_eq] at b4
    simp only [Bool.and_eq_true, beq_iff_eq, Bool.not_eq_true', decide_eq_false_iff_not]
    omega
  cases b6 : decide (0 < d.tag.t)
  · rw [b6] at hQ hz
    cases b5 : (d.kind == 2)
    · rw [b5] at hQ
      have b5' : (d.kind != 2) = true := by rw [bne, b5]; rfl
      simp (maxSteps := 1000000) (disch := first | assumption | omega | (simp only [World.size_alloc, size_setRow, dw_size]; done) | (simp only [World.size_alloc, size_setRow, dw_size] <;> omega) | (simp only [List.length_set, Array.length_toList, List.length_cons, List.length_nil, List.length_append, bts_size] <;> omega) | (simp only [List.all_cons, List.all_nil, Value.oneCell', Bool.and_self, Bool.and_true]; done)) [-Option.bind_some, hp_alloc_lt, hp_alloc_eq, hp_set_ne, wrap_small, ups_ap_cons, ups_ap_nil, upd_same, upd_other, env0_ap0, env0_aps, xt_a, xt_b, xt_c, nk_ptr, -splice_eq, -stR_cells, stR_box, stR_boxA, stR_row, stR_row0, stR_row1, stR_rowA, stR_rowA0, splice_rowv, splice_rowv0, splice_rowv1, splice_z, splice_n, splice_s, nth_rowv, nth_rowv0, nth_rowv1, rowv_len, b5', hz, E1.blk]
      exact hQ _ ⟨by simp, by (repeat (first | exact Ext.rfl | assumption | (refine Ext.al ?_ _) | (refine Ext.dw ?_) | (refine Ext.set ?_ (by first | omega | (simp only [World.size_alloc, size_setRow, dw_size]; omega)) _) | (refine Ext.tr ?_ (by assumption))))⟩
    · rw [b5] at hQ
      have b5' : (d.kind != 2) = false := by rw [bne, b5]; rfl
      simp (maxSteps := 1000000) (disch := first | assumption | omega | (simp only [World.size_alloc, size_setRow, dw_size]; done) | (simp only [World.size_alloc, size_setRow, dw_size] <;> omega) | (simp only [List.length_set, Array.length_toList, List.length_cons, List.length_nil, List.length_append, bts_size] <;> omega) | (simp only [List.all_cons, List.all_nil, Value.oneCell', Bool.and_self, Bool.and_true]; done)) [-Option.bind_some, hp_alloc_lt, hp_alloc_eq, hp_set_ne, wrap_small, ups_ap_cons, ups_ap_nil, upd_same, upd_other, env0_ap0, env0_aps, xt_a, xt_b, xt_c, nk_ptr, -splice_eq, -stR_cells, stR_box, stR_boxA, stR_row, stR_row0, stR_row1, stR_rowA, stR_rowA0, splice_rowv, splice_rowv0, splice_rowv1, splice_z, splice_n, splice_s, nth_rowv, nth_rowv0, nth_rowv1, rowv_len, b5', hz, E1.blk]
      exact hQ _ ⟨by simp, by (repeat (first | exact Ext.rfl | assumption | (refine Ext.al ?_ _) | (refine Ext.dw ?_) | (refine Ext.set ?_ (by first | omega | (simp only [World.size_alloc, size_setRow, dw_size]; omega)) _) | (refine Ext.tr ?_ (by assumption))))⟩
  · rw [b6] at hQ hz
    simp (maxSteps := 1000000) (disch := first | assumption | omega | (simp only [World.size_alloc, size_setRow, dw_size]; done) | (simp only [World.size_alloc, size_setRow, dw_size] <;> omega) | (simp only [List.length_set, Array.length_toList, List.length_cons, List.length_nil, List.length_append, bts_size] <;> omega) | (simp only [List.all_cons, List.all_nil, Value.oneCell', Bool.and_self, Bool.and_true]; done)) [-Option.bind_some, hp_alloc_lt, hp_alloc_eq, hp_set_ne, wrap_small, ups_ap_cons, ups_ap_nil, upd_same, upd_other, env0_ap0, env0_aps, xt_a, xt_b, xt_c, nk_ptr, -splice_eq, -stR_cells, stR_box, stR_boxA, stR_row, stR_row0, stR_row1, stR_rowA, stR_rowA0, splice_rowv, splice_rowv0, splice_rowv1, splice_z, splice_n, splice_s, nth_rowv, nth_rowv0, nth_rowv1, rowv_len, hz, E1.blk]
    exact hQ _ ⟨by simp, by (repeat (first | exact Ext.rfl | assumption | (refine Ext.al ?_ _) | (refine Ext.dw ?_) | (refine Ext.set ?_ (by first | omega | (simp only [World.size_alloc, size_setRow, dw_size]; omega)) _) | (refine Ext.tr ?_ (by assumption))))⟩
end Go.Proofs.YtkhbpmhagpljiaaDoor.X
set_option linter.unusedVariables false
set_option linter.unusedSimpArgs false
set_option maxRecDepth 100000
set_option maxHeartbeats 1000000
namespace Go.Proofs.YtkhbpmhagpljiaaDoor.X
open Go Go.Ev Go.RowKit
theorem spec_l6Form_n {a : Option Addr} {c : Nat} {S : Nat → Prop} {xs : List Done} {w0 : World} :
    ∀ (d k : Nat) (e : Env) (w : World), k + d = xs.length → e 0 = .slice a xs.length c → e 3 = i64 k → D tDones S w0 [.slice a xs.length c] xs → Ext w0 w →
    Ret (spec_l6Form_l1 e w) fun r => r.1 = .bool ((xs.drop k).all opOk && decide (xs.length ≤ 80)) ∧ Ext w0 r.2 := by
  intro d
  induction d with
  | zero =>
    intro k e w hd e0 e3 ha E0
    have zE0 := E0.size
    try simp only [World.size_alloc, size_setRow, dw_size] at zE0
    rw [spec_l6Form_l1_eq]
    obtain rfl : k = xs.length := by omega
    rw [List.drop_of_length_le (by omega), List.all_nil, Bool.true_and]
    have hq : decide ((xs.length : Int) ≤ 80) = decide (xs.length ≤ 80) := by rw [Bool.eq_iff_iff]; simp only [decide_eq_true_eq]; omega
    refine Ret.post fun Q hQ => ?_
    simp (maxSteps := 1000000) (disch := first | assumption | omega | (simp only [World.size_alloc, size_setRow, dw_size]; done) | (simp only [World.size_alloc, size_setRow, dw_size] <;> omega) | (simp only [List.length_set, Array.length_toList, List.length_cons, List.length_nil, List.length_append, bts_size] <;> omega) | (simp only [List.all_cons, List.all_nil, Value.oneCell', Bool.and_self, Bool.and_true]; done)) [-Option.bind_some, hp_alloc_lt, hp_alloc_eq, hp_set_ne, wrap_small, ups_ap_cons, ups_ap_nil, upd_same, upd_other, env0_ap0, env0_aps, xt_a, xt_b, xt_c, nk_ptr, -splice_eq, -stR_cells, stR_box, stR_boxA, stR_row, stR_row0, stR_row1, stR_rowA, stR_rowA0, splice_rowv, splice_rowv0, splice_rowv1, splice_z, splice_n, splice_s, nth_rowv, nth_rowv0, nth_rowv1, rowv_len, e0, e3, hq, e0, e3, E0.blk]
    exact hQ _ ⟨by simp, by (repeat (first | exact Ext.rfl | assumption | (refine Ext.al ?_ _) | (refine Ext.dw ?_) | (refine Ext.set ?_ (by first | omega | (simp only [World.size_alloc, size_setRow, dw_size]; omega)) _) | (refine Ext.tr ?_ (by assumption))))⟩
  | succ d ih =>
    intro k e w hd e0 e3 ha E0
    have zE0 := E0.size
    try simp only [World.size_alloc, size_setRow, dw_size] at zE0
    rw [spec_l6Form_l1_eq]
    have hlt : k < xs.length := by omega
    obtain ⟨x, hx, hdx⟩ := drop_at hlt
    have hn := ha.n
    obtain ⟨b1, o1, cs1, rfl, A1, D1, _, l1⟩ := (ha.ext E0).at (by decide) hx
    obtain rfl := D.done.1 D1
    have p0 := A1 0 _ rfl
    have p1 := A1 1 _ rfl
    have p2 := A1 2 _ rfl
    have p3 := A1 3 _ rfl
    have p4 := A1 4 _ rfl
    simp only [LVer_n, LTag_n, LNode_n, Nat.add_zero] at p0 p1 p2 p3 p4
    simp only [LDone_n] at p0 p1 p2 p3 p4
    rw [hdx, List.all_cons]
    refine Ret.post fun Q hQ => ?_
    simp (maxSteps := 1000000) (disch := first | assumption | omega | (simp only [World.size_alloc, size_setRow, dw_size]; done) | (simp only [World.size_alloc, size_setRow, dw_size] <;> omega) | (simp only [List.length_set, Array.length_toList, List.length_cons, List.length_nil, List.length_append, bts_size] <;> omega) | (simp only [List.all_cons, List.all_nil, Value.oneCell', Bool.and_self, Bool.and_true]; done)) [-Option.bind_some, hp_alloc_lt, hp_alloc_eq, hp_set_ne, wrap_small, ups_ap_cons, ups_ap_nil, upd_same, upd_other, env0_ap0, env0_aps, xt_a, xt_b, xt_c, nk_ptr, -splice_eq, -stR_cells, stR_box, stR_boxA, stR_row, stR_row0, stR_row1, stR_rowA, stR_rowA0, splice_rowv, splice_rowv0, splice_rowv1, splice_z, splice_n, splice_s, nth_rowv, nth_rowv0, nth_rowv1, rowv_len, e0, e3, hlt, ia_25, e0, e3, E0.blk, hlt, p0, p1, p2, p3, p4]
    refine Ret.bind (spec_l5OpOk_c x _) ?_
    rintro ⟨_, w1⟩ ⟨rfl, E1⟩
    try dsimp only at E1
    have zE1 := E1.size
    try simp only [World.size_alloc, size_setRow, dw_size] at zE1
    cases ho : opOk x
    · rw [ho] at hQ
      simp (maxSteps := 1000000) (disch := first | assumption | omega | (simp only [World.size_alloc, size_setRow, dw_size]; done) | (simp only [World.size_alloc, size_setRow, dw_size] <;> omega) | (simp only [List.length_set, Array.length_toList, List.length_cons, List.length_nil, List.length_append, bts_size] <;> omega) | (simp only [List.all_cons, List.all_nil, Value.oneCell', Bool.and_self, Bool.and_true]; done)) [-Option.bind_some, hp_alloc_lt, hp_alloc_eq, hp_set_ne, wrap_small, ups_ap_cons, ups_ap_nil, upd_same, upd_other, env0_ap0, env0_aps, xt_a, xt_b, xt_c, nk_ptr, -splice_eq, -stR_cells, stR_box, stR_boxA, stR_row, stR_row0, stR_row1, stR_rowA, stR_rowA0, splice_rowv, splice_rowv0, splice_rowv1, splice_z, splice_n, splice_s, nth_rowv, nth_rowv0, nth_rowv1, rowv_len, e0, e3, e0, e3, E0.blk, hlt, p0, p1, p2, p3, p4, E1.blk]
      exact hQ _ ⟨by simp, by (repeat (first | exact Ext.rfl | assumption | (refine Ext.al ?_ _) | (refine Ext.dw ?_) | (refine Ext.set ?_ (by first | omega | (simp only [World.size_alloc, size_setRow, dw_size]; omega)) _) | (refine Ext.tr ?_ (by assumption))))⟩
    · rw [ho] at hQ
      simp (maxSteps := 1000000) (disch := first | assumption | omega | (simp only [World.size_alloc, size_setRow, dw_size]; done) | (simp only [World.size_alloc, size_setRow, dw_size] <;> omega) | (simp only [List.length_set, Array.length_toList, List.length_cons, List.length_nil, List.length_append, bts_size] <;> omega) | (simp only [List.all_cons, List.all_nil, Value.oneCell', Bool.and_self, Bool.and_true]; done)) [-Option.bind_some, hp_alloc_lt, hp_alloc_eq, hp_set_ne, wrap_small, ups_ap_cons, ups_ap_nil, upd_same, upd_other, env0_ap0, env0_aps, xt_a, xt_b, xt_c, nk_ptr, -splice_eq, -stR_cells, stR_box, stR_boxA, stR_row, stR_row0, stR_row1, stR_rowA, stR_rowA0, splice_rowv, splice_rowv0, splice_rowv1, splice_z, splice_n, splice_s, nth_rowv, nth_rowv0, nth_rowv1, rowv_len, e0, e3, e0, e3, E0.blk, hlt, p0, p1, p2, p3, p4, E1.blk]
      exact Ret.mono (ih (k + 1) _ _ (by omega) (by first | omega | assumption | rfl | exact congrArg i64 (by omega) | (simp; done) | (simp; omega)) (by first | omega | assumption | rfl | exact congrArg i64 (by omega) | (simp; done) | (simp; omega)) ha (by (repeat (first | exact Ext.rfl | assumption | (refine Ext.al ?_ _) | (refine Ext.dw ?_) | (refine Ext.set ?_ (by first | omega | (simp only [World.size_alloc, size_setRow, dw_size]; omega)) _) | (refine Ext.tr ?_ (by assumption)))))) (fun r h => hQ r ⟨by rw [h.1]; simp, h.2⟩)
theorem spec_l6Form_m {a : Option Addr} {n c : Nat} {S : Nat → Prop} {xs : List Done} {w : World} (ha : D tDones S w [.slice a n c] xs) :
    Ret (EV P 14 #[.slice a n c] w) fun r => r.1 = .bool (formP xs) ∧ Ext w r.2 := by
  obtain ⟨rfl, hm, _⟩ := ha.n
  refine Ret.post fun Q hQ => ?_
  refine Ret.enter plain mixed (spec_l6Form_fn _ _) (by kernel_rfl) (n := 1) (by kernel_rfl) rfl ?_
  simp (maxSteps := 1000000) (disch := first | assumption | omega | (simp only [World.size_alloc, size_setRow, dw_size]; done) | (simp only [World.size_alloc, size_setRow, dw_size] <;> omega) | (simp only [List.length_set, Array.length_toList, List.length_cons, List.length_nil, List.length_append, bts_size] <;> omega) | (simp only [List.all_cons, List.all_nil, Value.oneCell', Bool.and_self, Bool.and_true]; done)) [-Option.bind_some, hp_alloc_lt, hp_alloc_eq, hp_set_ne, wrap_small, ups_ap_cons, ups_ap_nil, upd_same, upd_other, env0_ap0, env0_aps, xt_a, xt_b, xt_c, nk_ptr, -splice_eq, -stR_cells, stR_box, stR_boxA, stR_row, stR_row0, stR_row1, stR_rowA, stR_rowA0, splice_rowv, splice_rowv0, splice_rowv1, splice_z, splice_n, splice_s, nth_rowv, nth_rowv0, nth_rowv1, rowv_len]
  exact Ret.mono (spec_l6Form_n xs.length 0 _ w (by omega) rfl rfl ha Ext.rfl) hQ
theorem slices_IndexFunc_Done_n {a : Option Addr} {c : Nat} {S : Nat → Prop} {f : Value} {xs : List Done} {p : Done → Bool} {w0 : World} (hf : ∀ x ∈ xs, ∀ w, Ext w0 w → Ret (clo P f #[.agg (doneC x).toArray] w) fun r => r.1 = .bool (p x) ∧ Ext w r.2) :
    ∀ (d k : Nat) (e : Env) (w : World), k + d = xs.length → e 0 = .slice a xs.length c → e 1 = f → e 7 = i64 xs.length → e 8 = i64 k → D tDones S w0 [.slice a xs.length c] xs → Ext w0 w →
    Ret (slices_IndexFunc_Done_l1 e w) fun r => ∃ i : Int, r.1 = i64 i ∧ decide (0 ≤ i) = (xs.drop k).any p ∧ Ext w0 r.2 := by
  intro d
  induction d with
  | zero =>
    intro k e w hd e0 e1 e7 e8 ha E0
    have zE0 := E0.size
    try simp only [World.size_alloc, size_setRow, dw_size] at zE0
    rw [slices_IndexFunc_Done_l1_eq]
    obtain rfl : k = xs.length := by omega
    rw [List.drop_eq_nil_of_le (by omega)]
    refine Ret.post fun Q hQ => ?_
    simp (maxSteps := 1000000) (disch := first | assumption | omega | (simp only [World.size_alloc, size_setRow, dw_size]; done) | (simp only [World.size_alloc, size_setRow, dw_size] <;> omega) | (simp only [List.length_set, Array.length_toList, List.length_cons, List.length_nil, List.length_append, bts_size] <;> omega) | (simp only [List.all_cons, List.all_nil, Value.oneCell', Bool.and_self, Bool.and_true]; done)) [-Option.bind_some, hp_alloc_lt, hp_alloc_eq, hp_set_ne, wrap_small, ups_ap_cons, ups_ap_nil, upd_same, upd_other, env0_ap0, env0_aps, xt_a, xt_b, xt_c, nk_ptr, -splice_eq, -stR_cells, stR_box, stR_boxA, stR_row, stR_row0, stR_row1, stR_rowA, stR_rowA0, splice_rowv, splice_rowv0, splice_rowv1, splice_z, splice_n, splice_s, nth_rowv, nth_rowv0, nth_rowv1, rowv_len, e0, e1, e7, e8, e0, e1, e7, e8, E0.blk]
    exact hQ _ ⟨_, rfl, by simp, E0⟩
  | succ d ih =>
    intro k e w hd e0 e1 e7 e8 ha E0
    have zE0 := E0.size
    try simp only [World.size_alloc, size_setRow, dw_size] at zE0
    rw [slices_IndexFunc_Done_l1_eq]
    have hlt : k < xs.length := by omega
    obtain ⟨x, hx, hdx⟩ := drop_at hlt
    have hn := ha.n
    obtain ⟨b1, o1, cs1, rfl, A1, D1, _, l1⟩ := (ha.ext E0).at (by decide) hx
    obtain rfl := D.done.1 D1
    have p0 := A1 0 _ rfl
    have p1 := A1 1 _ rfl
    have p2 := A1 2 _ rfl
    have p3 := A1 3 _ rfl
    have p4 := A1 4 _ rfl
    simp only [LVer_n, LTag_n, LNode_n, Nat.add_zero] at p0 p1 p2 p3 p4
    simp only [LDone_n] at p0 p1 p2 p3 p4
    rw [hdx, List.any_cons]
    refine Ret.post fun Q hQ => ?_
    simp (maxSteps := 1000000) (disch := first | assumption | omega | (simp only [World.size_alloc, size_setRow, dw_size]; done) | (simp only [World.size_alloc, size_setRow, dw_size] <;> omega) | (simp only [List.length_set, Array.length_toList, List.length_cons, List.length_nil, List.length_append, bts_size] <;> omega) | (simp only [List.all_cons, List.all_nil, Value.oneCell', Bool.and_self, Bool.and_true]; done)) [-Option.bind_some, hp_alloc_lt, hp_alloc_eq, hp_set_ne, wrap_small, ups_ap_cons, ups_ap_nil, upd_same, upd_other, env0_ap0, env0_aps, xt_a, xt_b, xt_c, nk_ptr, -splice_eq, -stR_cells, stR_box, stR_boxA, stR_row, stR_row0, stR_row1, stR_rowA, stR_rowA0, splice_rowv, splice_rowv0, splice_rowv1, splice_z, splice_n, splice_s, nth_rowv, nth_rowv0, nth_rowv1, rowv_len, e0, e1, e7, e8, hlt, ia_25, e0, e1, e7, e8, E0.blk, hlt, p0, p1, p2, p3, p4]
    refine Ret.bind (hf x (List.mem_of_getElem? hx) _ E0) ?_
    rintro ⟨_, w1⟩ ⟨rfl, E1⟩
    try dsimp only at E1
    have zE1 := E1.size
    try simp only [World.size_alloc, size_setRow, dw_size] at zE1
    cases ho : p x
    · rw [ho] at hQ
      simp (maxSteps := 1000000) (disch := first | assumption | omega | (simp only [World.size_alloc, size_setRow, dw_size]; done) | (simp only [World.size_alloc, size_setRow, dw_size] <;> omega) | (simp only [List.length_set, Array.length_toList, List.length_cons, List.length_nil, List.length_append, bts_size] <;> omega) | (simp only [List.all_cons, List.all_nil, Value.oneCell', Bool.and_self, Bool.and_true]; done)) [-Option.bind_some, hp_alloc_lt, hp_alloc_eq, hp_set_ne, wrap_small, ups_ap_cons, ups_ap_nil, upd_same, upd_other, env0_ap0, env0_aps, xt_a, xt_b, xt_c, nk_ptr, -splice_eq, -stR_cells, stR_box, stR_boxA, stR_row, stR_row0, stR_row1, stR_rowA, stR_rowA0, splice_rowv, splice_rowv0, splice_rowv1, splice_z, splice_n, splice_s, nth_rowv, nth_rowv0, nth_rowv1, rowv_len, e0, e1, e7, e8, e0, e1, e7, e8, E0.blk, hlt, p0, p1, p2, p3, p4, E1.blk]
      exact Ret.mono (ih (k + 1) _ _ (by omega) (by first | omega | assumption | rfl | exact congrArg i64 (by omega) | (simp; done) | (simp; omega)) (by first | omega | assumption | rfl | exact congrArg i64 (by omega) | (simp; done) | (simp; omega)) (by first | omega | assumption | rfl | exact congrArg i64 (by omega) | (simp; done) | (simp; omega)) (by first | omega | assumption | rfl | exact congrArg i64 (by omega) | (simp; done) | (simp; omega)) ha (by (repeat (first | exact Ext.rfl | assumption | (refine Ext.al ?_ _) | (refine Ext.dw ?_) | (refine Ext.set ?_ (by first | omega | (simp only [World.size_alloc, size_setRow, dw_size]; omega)) _) | (refine Ext.tr ?_ (by assumption)))))) (fun r h => hQ r (by simpa using h))
    · rw [ho] at hQ
      simp (maxSteps := 1000000) (disch := first | assumption | omega | (simp only [World.size_alloc, size_setRow, dw_size]; done) | (simp only [World.size_alloc, size_setRow, dw_size] <;> omega) | (simp only [List.length_set, Array.length_toList, List.length_cons, List.length_nil, List.length_append, bts_size] <;> omega) | (simp only [List.all_cons, List.all_nil, Value.oneCell', Bool.and_self, Bool.and_true]; done)) [-Option.bind_some, hp_alloc_lt, hp_alloc_eq, hp_set_ne, wrap_small, ups_ap_cons, ups_ap_nil, upd_same, upd_other, env0_ap0, env0_aps, xt_a, xt_b, xt_c, nk_ptr, -splice_eq, -stR_cells, stR_box, stR_boxA, stR_row, stR_row0, stR_row1, stR_rowA, stR_rowA0, splice_rowv, splice_rowv0, splice_rowv1, splice_z, splice_n, splice_s, nth_rowv, nth_rowv0, nth_rowv1, rowv_len, e0, e1, e7, e8, E0.blk, hlt, p0, p1, p2, p3, p4, E1.blk]
      exact hQ _ ⟨_, rfl, by simp, by (repeat (first | exact Ext.rfl | assumption | (refine Ext.al ?_ _) | (refine Ext.dw ?_) | (refine Ext.set ?_ (by first | omega | (simp only [World.size_alloc, size_setRow, dw_size]; omega)) _) | (refine Ext.tr ?_ (by assumption))))⟩
theorem slices_ContainsFunc_Done_m {a : Option Addr} {n c : Nat} {S : Nat → Prop} {f : Value} {xs : List Done} {p : Done → Bool} {w : World} (ha : D tDones S w [.slice a n c] xs) (hf : ∀ x ∈ xs, ∀ w', Ext w w' → Ret (clo P f #[.agg (doneC x).toArray] w') fun r => r.1 = .bool (p x) ∧ Ext w' r.2) :
    Ret (EV P 35 #[.slice a n c, f] w) fun r => r.1 = .bool (xs.any p) ∧ Ext w r.2 := by
  obtain ⟨rfl, hm, _⟩ := ha.n
  have hi : Ret (EV P 50 #[.slice a xs.length c, f] w) fun r => ∃ i : Int, r.1 = i64 i ∧ decide (0 ≤ i) = xs.any p ∧ Ext w r.2 := by
    refine Ret.enter plain mixed (slices_IndexFunc_Done_fn _ _ _) (by kernel_rfl) (n := 2) (by kernel_rfl) rfl ?_
    simp (maxSteps := 1000000) (disch := first | assumption | omega | (simp only [World.size_alloc, size_setRow, dw_size]; done) | (simp only [World.size_alloc, size_setRow, dw_size] <;> omega) | (simp only [List.length_set, Array.length_toList, List.length_cons, List.length_nil, List.length_append, bts_size] <;> omega) | (simp only [List.all_cons, List.all_nil, Value.oneCell', Bool.and_self, Bool.and_true]; done)) [-Option.bind_some, hp_alloc_lt, hp_alloc_eq, hp_set_ne, wrap_small, ups_ap_cons, ups_ap_nil, upd_same, upd_other, env0_ap0, env0_aps, xt_a, xt_b, xt_c, nk_ptr]
    exact slices_IndexFunc_Done_n hf xs.length 0 _ w (by omega) rfl rfl rfl rfl ha Ext.rfl
  refine Ret.enter plain mixed (slices_ContainsFunc_Done_fn _ _ _) (by kernel_rfl) (n := 2) (by kernel_rfl) rfl ?_
  simp (maxSteps := 1000000) (disch := first | assumption | omega | (simp only [World.size_alloc, size_setRow, dw_size]; done) | (simp only [World.size_alloc, size_setRow, dw_size] <;> omega) | (simp only [List.length_set, Array.length_toList, List.length_cons, List.length_nil, List.length_append, bts_size] <;> omega) | (simp only [List.all_cons, List.all_nil, Value.oneCell', Bool.and_self, Bool.and_true]; done)) [-Option.bind_some, hp_alloc_lt, hp_alloc_eq, hp_set_ne, wrap_small, ups_ap_cons, ups_ap_nil, upd_same, upd_other, env0_ap0, env0_aps, xt_a, xt_b, xt_c, nk_ptr]
  refine Ret.bind hi ?_
  rintro ⟨_, w1⟩ ⟨i, rfl, h2, hE⟩
  simp (maxSteps := 1000000) (disch := first | assumption | omega | (simp only [World.size_alloc, size_setRow, dw_size]; done) | (simp only [World.size_alloc, size_setRow, dw_size] <;> omega) | (simp only [List.length_set, Array.length_toList, List.length_cons, List.length_nil, List.length_append, bts_size] <;> omega) | (simp only [List.all_cons, List.all_nil, Value.oneCell', Bool.and_self, Bool.and_true]; done)) [-Option.bind_some, hp_alloc_lt, hp_alloc_eq, hp_set_ne, wrap_small, ups_ap_cons, ups_ap_nil, upd_same, upd_other, env0_ap0, env0_aps, xt_a, xt_b, xt_c, nk_ptr, h2]
  exact hE
theorem impl_formed_m {a : Option Addr} {n c : Nat} {S : Nat → Prop} {xs : List Done} {w : World} (ha : D tDones S w [.slice a n c] xs) :
    Ret (EV P 17 #[.slice a n c] w) fun r => r.1 = .bool (formP xs) ∧ Ext w r.2 := by
  obtain ⟨rfl, hm, _⟩ := ha.n
  have hq : decide ((xs.length : Int) ≤ 80) = decide (xs.length ≤ 80) := by rw [Bool.eq_iff_iff]; simp only [decide_eq_true_eq]; omega
  refine Ret.post fun Q hQ => ?_
  refine Ret.enter plain mixed (impl_formed_fn _ _) (by kernel_rfl) (n := 1) (by kernel_rfl) rfl ?_
  cases h : decide (xs.length ≤ 80)
  · simp (maxSteps := 1000000) (disch := first | assumption | omega | (simp only [World.size_alloc, size_setRow, dw_size]; done) | (simp only [World.size_alloc, size_setRow, dw_size] <;> omega) | (simp only [List.length_set, Array.length_toList, List.length_cons, List.length_nil, List.length_append, bts_size] <;> omega) | (simp only [List.all_cons, List.all_nil, Value.oneCell', Bool.and_self, Bool.and_true]; done)) [-Option.bind_some, hp_alloc_lt, hp_alloc_eq, hp_set_ne, wrap_small, ups_ap_cons, ups_ap_nil, upd_same, upd_other, env0_ap0, env0_aps, xt_a, xt_b, xt_c, nk_ptr, -splice_eq, -stR_cells, stR_box, stR_boxA, stR_row, stR_row0, stR_row1, stR_rowA, stR_rowA0, splice_rowv, splice_rowv0, splice_rowv1, splice_z, splice_n, splice_s, nth_rowv, nth_rowv0, nth_rowv1, rowv_len, hq, h]
    exact hQ _ ⟨by simp [formP, h], by (repeat (first | exact Ext.rfl | assumption | (refine Ext.al ?_ _) | (refine Ext.dw ?_) | (refine Ext.set ?_ (by first | omega | (simp only [World.size_alloc, size_setRow, dw_size]; omega)) _) | (refine Ext.tr ?_ (by assumption))))⟩
  · simp (maxSteps := 1000000) (disch := first | assumption | omega | (simp only [World.size_alloc, size_setRow, dw_size]; done) | (simp only [World.size_alloc, size_setRow, dw_size] <;> omega) | (simp only [List.length_set, Array.length_toList, List.length_cons, List.length_nil, List.length_append, bts_size] <;> omega) | (simp only [List.all_cons, List.all_nil, Value.oneCell', Bool.and_self, Bool.and_true]; done)) [-Option.bind_some, hp_alloc_lt, hp_alloc_eq, hp_set_ne, wrap_small, ups_ap_cons, ups_ap_nil, upd_same, upd_other, env0_ap0, env0_aps, xt_a, xt_b, xt_c, nk_ptr, -splice_eq, -stR_cells, stR_box, stR_boxA, stR_row, stR_row0, stR_row1, stR_rowA, stR_rowA0, splice_rowv, splice_rowv0, splice_rowv1, splice_z, splice_n, splice_s, nth_rowv, nth_rowv0, nth_rowv1, rowv_len, hq, h]
    refine Ret.bind (slices_ContainsFunc_Done_m (p := fun x => !opOk x) (ha.ext (by (repeat (first | exact Ext.rfl | assumption | (refine Ext.al ?_ _) | (refine Ext.dw ?_) | (refine Ext.set ?_ (by first | omega | (simp only [World.size_alloc, size_setRow, dw_size]; omega)) _) | (refine Ext.tr ?_ (by assumption)))))) (fun x _ w' E' => by have := clo_eq (P := P) (g := 36) (by kernel_rfl) [] [] [.agg (doneC x).toArray] w'; exact (by simpa using this : clo P (.func (.func 36) #[] #[]) #[.agg (doneC x).toArray] w' = _) ▸ impl_formed_1_c x w')) ?_
    rintro ⟨_, w1⟩ ⟨rfl, E1⟩
    try dsimp only at E1
    have zE1 := E1.size
    try simp only [World.size_alloc, size_setRow, dw_size] at zE1
    simp (maxSteps := 1000000) (disch := first | assumption | omega | (simp only [World.size_alloc, size_setRow, dw_size]; done) | (simp only [World.size_alloc, size_setRow, dw_size] <;> omega) | (simp only [List.length_set, Array.length_toList, List.length_cons, List.length_nil, List.length_append, bts_size] <;> omega) | (simp only [List.all_cons, List.all_nil, Value.oneCell', Bool.and_self, Bool.and_true]; done)) [-Option.bind_some, hp_alloc_lt, hp_alloc_eq, hp_set_ne, wrap_small, ups_ap_cons, ups_ap_nil, upd_same, upd_other, env0_ap0, env0_aps, xt_a, xt_b, xt_c, nk_ptr, -splice_eq, -stR_cells, stR_box, stR_boxA, stR_row, stR_row0, stR_row1, stR_rowA, stR_rowA0, splice_rowv, splice_rowv0, splice_rowv1, splice_z, splice_n, splice_s, nth_rowv, nth_rowv0, nth_rowv1, rowv_len, E1.blk]
    refine hQ _ ⟨?_, by (repeat (first | exact Ext.rfl | assumption | (refine Ext.al ?_ _) | (refine Ext.dw ?_) | (refine Ext.set ?_ (by first | omega | (simp only [World.size_alloc, size_setRow, dw_size]; omega)) _) | (refine Ext.tr ?_ (by assumption))))⟩
    rw [formP, h, Bool.and_true]
    congr 1
    rw [List.all_eq_not_any_not]
end Go.Proofs.YtkhbpmhagpljiaaDoor.X
