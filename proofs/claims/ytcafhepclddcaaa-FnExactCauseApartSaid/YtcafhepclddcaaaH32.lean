/- A part of the proof: an evaluator of the model, its laws, and contracts of functions; no condition. -/
import Derived.Test.YtcafhepclddcaaaEvHk
import Derived.Test.YtcafhepclddcaaaH12
import Derived.Test.YtcafhepclddcaaaEvV
set_option linter.unusedVariables false
set_option linter.unusedSimpArgs false
set_option maxRecDepth 100000
set_option maxHeartbeats 1000000
namespace Go.Proofs.Ytcafhepclddcaaa.X
open Go Go.Ev Go.RowKit
theorem b_len_sl {a : Option Addr} {n c : Nat} {w : World} : b_len P #[30] 3 #[.slice a n c] w = some (i64 n, w) := len_slice (P := P) el_30 a n c w
theorem fv_past (x y z : Value) (w : World) : fv P 83 (.agg #[x, y, z]) 2 w = some (.agg #[z], w) := fv_agg (P := P) (s := 83) (f := 2) (n := 1) (off := 2) (by kernel_rfl) [x, y, z] w
theorem fv_tags (z : Value) (w : World) : fv P 32 (.agg #[z]) 0 w = some (z, w) := fv_one (P := P) (s := 32) (f := 0) (n := 1) (off := 0) (by kernel_rfl) [z] rfl w
abbrev tagB : TagM P 90 42 4 (.bool false) := ⟨Try.underlying90, ⟨_, _, Try.underlying42, by kernel_rfl, by kernel_rfl, ⟨by simp, by simp, rfl, rfl⟩⟩, by kernel_rfl, by kernel_rfl⟩
/-- The walk's heap: the book, the set, the function itself. -/
def Fo (S : Nat → Prop) (g m mo gb go gf : Nat) (cur : List Value) (b : Book) (w : World) (o : List Tag) : Prop :=
  Bk w S g m cur b ∧ hp w gb = some (.cells #[pt g 0] 70 (0, 0)) ∧ hp w go = some (.cells #[.map (some mo)] 90 (0, 0)) ∧ hp w gf = some (.cells #[.func (.func 102) #[] #[pt gb 0, pt go 0, pt gf 0]] 119 (0, 0)) ∧ hp w mo = some (outO o) ∧ (mo ≠ gb ∧ mo ≠ go ∧ mo ≠ gf ∧ mo ≠ g ∧ mo ≠ m) ∧ ¬ S mo
section
variable {S : Nat → Prop} {g m mo gb go gf : Nat} {cur : List Value} {b : Book}
theorem Fo.ext {w w' : World} {o : List Tag} (h : Fo S g m mo gb go gf cur b w o) (k : Ext w w') : Fo S g m mo gb go gf cur b w' o := by
  obtain ⟨h1, h2, h3, h4, h5, h6, h7⟩ := h
  exact ⟨h1.keep k, (k.blk (hp_lt h2)).trans h2, (k.blk (hp_lt h3)).trans h3, (k.blk (hp_lt h4)).trans h4, (k.blk (hp_lt h5)).trans h5, h6, h7⟩
theorem Fo.mod {w w' : World} {o o' : List Tag} (h : Fo S g m mo gb go gf cur b w o) (k : Mod (fun x => x = mo) w w') (hm : hp w' mo = some (outO o')) : Fo S g m mo gb go gf cur b w' o' := by
  obtain ⟨⟨k1, k2, k3, k4, k5, k6, k7, k8, k9, k10⟩, h2, h3, h4, h5, ⟨n1, n2, n3, n4, n5⟩, h7⟩ := h
  have hs := k.size
  have kk : ∀ x, S x → x < w.heap.size → hp w' x = hp w x := fun x hx hl => k.blk x hl fun e => h7 (e ▸ hx)
  exact ⟨⟨k1.keep (k.blk g k6 (Ne.symm n4)) kk (fun _ hx _ => hx), k2, k3, k4.keep (k.blk m k7 (Ne.symm n5)) kk (fun _ hx _ => hx), k5, by omega, by omega, k8, k9, fun x hx => by have := k10 x hx; omega⟩,
    (k.blk gb (hp_lt h2) (Ne.symm n1)).trans h2, (k.blk go (hp_lt h3) (Ne.symm n2)).trans h3, (k.blk gf (hp_lt h4) (Ne.symm n3)).trans h4, hm, ⟨n1, n2, n3, n4, n5⟩, h7⟩
/-- What a walk from a tag does. -/
def FoC (S : Nat → Prop) (g m mo gb go gf : Nat) (cur : List Value) (b : Book) (n : Nat) : Prop :=
  ∀ (t : Tag) (w : World) (o : List Tag), Fo S g m mo gb go gf cur b w o → o.Nodup → (∀ x ∈ o, isW b.wr x = true) → b.wr.length ≤ o.length + n →
    Ret (EV P 102 #[.agg #[i64 t.t, i64 t.p], pt gb 0, pt go 0, pt gf 0] w) fun r => ∃ o', hp r.2 mo = some (outO o') ∧ Grown b.wr t o o' ∧ Mod (fun x => x = mo) w r.2
theorem follow_n {n : Nat} {t : Tag} {w0 : World} {o0 : List Tag} {a : Option Addr} {c : Nat} (IH : 1 ≤ n → FoC S g m mo gb go gf cur b (n - 1)) (hl : (pastW b.wr t).length ≤ 1000) (hD : D tTags S w0 [.slice a (pastW b.wr t).length c] (pastW b.wr t)) (hSm : ¬ S mo) :
    ∀ (d k : Nat) (e : Env) (w : World) (o : List Tag), k + d = (pastW b.wr t).length → e 1 = pt gb 0 → e 2 = pt go 0 → e 3 = pt gf 0 → e 16 = .slice a (pastW b.wr t).length c → e 17 = i64 (pastW b.wr t).length → e 18 = i64 k → Fo S g m mo gb go gf cur b w o → Going b.wr t o0 k o → b.wr.length ≤ o.length + n → Mod (fun x => x = mo) w0 w →
    Ret (impl_book_before_1_l1 e w) fun r => ∃ o', hp r.2 mo = some (outO o') ∧ Grown b.wr t o0 o' ∧ Mod (fun x => x = mo) w0 r.2 := by
  intro d
  induction d with
  | zero =>
    intro k e w o hd e1 e2 e3 e16 e17 e18 hF hG hn M0
    have zM0 := M0.size
    try simp only [World.size_alloc, size_setRow, dw_size] at zM0
    rw [impl_book_before_1_l1_eq]
    obtain rfl : k = (pastW b.wr t).length := by omega
    refine Ret.post fun Q hQ => ?_
    simp (maxSteps := 1000000) (disch := first | assumption | omega | (simp only [World.size_alloc, size_setRow, dw_size]; done) | (simp only [World.size_alloc, size_setRow, dw_size] <;> omega) | (simp only [List.length_set, Array.length_toList, List.length_cons, List.length_nil, List.length_append, bts_size] <;> omega) | (simp only [List.all_cons, List.all_nil, Value.oneCell', Bool.and_self, Bool.and_true]; done)) [-Option.bind_some, hp_alloc_lt, hp_alloc_eq, hp_set_ne, wrap_small, ups_ap_cons, ups_ap_nil, upd_same, upd_other, env0_ap0, env0_aps, xt_a, xt_b, xt_c, -splice_eq, -stR_cells, stR_box, stR_boxA, stR_row, stR_row0, stR_row1, stR_rowA, stR_rowA0, splice_rowv, splice_rowv0, splice_rowv1, splice_z, splice_n, splice_s, nth_rowv, nth_rowv0, nth_rowv1, rowv_len, e16, e17, e18, e1, e2, e3, e16, e17, e18, M0.blk]
    exact hQ _ ⟨o, hF.2.2.2.2.1, hG.end (Nat.le_refl _), M0⟩
  | succ d ih =>
    intro k e w o hd e1 e2 e3 e16 e17 e18 hF hG hn M0
    have zM0 := M0.size
    try simp only [World.size_alloc, size_setRow, dw_size] at zM0
    rw [impl_book_before_1_l1_eq]
    have hlt : k < (pastW b.wr t).length := by omega
    have hk1000 : k < 1000 := by omega
    obtain ⟨u, hu, _⟩ := drop_at hlt
    have hF' := hF
    obtain ⟨⟨⟨X1, hc4, hvs⟩, hc5, hc, ⟨l, Xm, hrel⟩, hgm, hgl, hml, hSg, hSm', hSl⟩, Xb, Xo, Xf, Xq, ⟨n1, n2, n3, n4, n5⟩, _⟩ := hF
    have yb := hp_lt Xb
    have yo := hp_lt Xo
    have yf := hp_lt Xf
    have yq := hp_lt Xq
    have q4 : nth cur 4 = some (.map (some m)) := by rw [← nth_eq]; exact hc
    obtain ⟨b1, o1, cs1, rfl, A1, D1, _, l1⟩ := (hD.mod M0 (fun x _ hx => fun e => hSm (e ▸ hx))).at (by decide) hu
    obtain rfl := D.tag.1 D1
    have p0 := A1 0 _ rfl
    have p1 := A1 1 _ rfl
    simp only [LVer_n, LTag_n, LNode_n, Nat.add_zero] at p0 p1
    have Xq' : hp w mo = some (mapO (o.map fun u => (u, .bool true))) := Xq
    have hmf := mfind_out o u
    -- what comes behind
    have next : ∀ (e' : Env) (w' : World) (o2 : List Tag), e' 1 = pt gb 0 → e' 2 = pt go 0 → e' 3 = pt gf 0 → e' 16 = .slice (some ⟨b1, o1, none⟩) (pastW b.wr t).length c → e' 17 = i64 (pastW b.wr t).length → e' 18 = i64 k → Fo S g m mo gb go gf cur b w' o2 → Going b.wr t o0 (k + 1) o2 → b.wr.length ≤ o2.length + n → Mod (fun x => x = mo) w0 w' →
        Ret (impl_book_before_1_j1 e' w') fun r => ∃ o', hp r.2 mo = some (outO o') ∧ Grown b.wr t o0 o' ∧ Mod (fun x => x = mo) w0 r.2 := by
      intro e' w' o2 e1 e2 e3 e16 e17 e18 hF hG hn M0
      rw [impl_book_before_1_j1_eq]
      simp (maxSteps := 1000000) (disch := first | assumption | omega | (simp only [World.size_alloc, size_setRow, dw_size]; done) | (simp only [World.size_alloc, size_setRow, dw_size] <;> omega) | (simp only [List.length_set, Array.length_toList, List.length_cons, List.length_nil, List.length_append, bts_size] <;> omega) | (simp only [List.all_cons, List.all_nil, Value.oneCell', Bool.and_self, Bool.and_true]; done)) [-Option.bind_some, hp_alloc_lt, hp_alloc_eq, hp_set_ne, wrap_small, ups_ap_cons, ups_ap_nil, upd_same, upd_other, env0_ap0, env0_aps, xt_a, xt_b, xt_c, -splice_eq, -stR_cells, stR_box, stR_boxA, stR_row, stR_row0, stR_row1, stR_rowA, stR_rowA0, splice_rowv, splice_rowv0, splice_rowv1, splice_z, splice_n, splice_s, nth_rowv, nth_rowv0, nth_rowv1, rowv_len, e1, e2, e3, e16, e17, e18, e1, e2, e3, e16, e17, e18, M0.blk, hlt, X1, p0, p1, e1, e2, e3, e16, e17, e18]
      exact ih (k + 1) _ w' o2 (by omega) (by exact e1) (by exact e2) (by exact e3) (by exact e16) (by exact e17) (by exact congrArg i64 (by omega)) hF hG hn M0
    rcases mfind_rel hrel u with ⟨m1, m2⟩ | ⟨s, kk, past, a2, c2, m1, m2, D2⟩
    · have hw : isW b.wr u = false := by unfold isW; rw [m2]; rfl
      simp (maxSteps := 1000000) (disch := first | assumption | omega | (simp only [World.size_alloc, size_setRow, dw_size]; done) | (simp only [World.size_alloc, size_setRow, dw_size] <;> omega) | (simp only [List.length_set, Array.length_toList, List.length_cons, List.length_nil, List.length_append, bts_size] <;> omega) | (simp only [List.all_cons, List.all_nil, Value.oneCell', Bool.and_self, Bool.and_true]; done)) [-Option.bind_some, hp_alloc_lt, hp_alloc_eq, hp_set_ne, wrap_small, ups_ap_cons, ups_ap_nil, upd_same, upd_other, env0_ap0, env0_aps, xt_a, xt_b, xt_c, -splice_eq, -stR_cells, stR_box, stR_boxA, stR_row, stR_row0, stR_row1, stR_rowA, stR_rowA0, splice_rowv, splice_rowv0, splice_rowv1, splice_z, splice_n, splice_s, nth_rowv, nth_rowv0, nth_rowv1, rowv_len, e1, e2, e3, e16, e17, e18, hlt, hk1000, ia_30, X1, Xm, Xb, Xo, Xf, nk_ptr, q4, lk_lkR tagM, lkR_map, m1, e1, e2, e3, e16, e17, e18, M0.blk, hlt, X1, p0, p1]
      exact next _ _ o (by exact e1) (by exact e2) (by exact e3) (by exact e16) (by exact e17) (by exact e18) (hF'.ext (by (repeat (first | exact Ext.rfl | assumption | (refine Ext.al ?_ _) | (refine Ext.dw ?_) | (refine Ext.set ?_ (by first | omega | (simp only [World.size_alloc, size_setRow, dw_size]; omega)) _) | (refine Ext.tr ?_ (by assumption)))))) (hG.skip hu (fun h => by rw [hw] at h; cases h)) hn (by (repeat (first | exact Mod.rfl | assumption | (refine Mod.al ?_ _) | (refine Mod.dw' ?_) | (refine Mod.set' ?_ (by first | (left; omega) | (left; simp only [World.size_alloc, size_setRow, dw_size]; omega) | (right; assumption) | (right; simp; done)) _) | (refine Mod.ex ?_ (by assumption)))))
    · have hw : isW b.wr u = true := by unfold isW; rw [m2]; rfl
      by_cases hin : u ∈ o
      · rw [if_pos hin] at hmf
        simp (maxSteps := 1000000) (disch := first | assumption | omega | (simp only [World.size_alloc, size_setRow, dw_size]; done) | (simp only [World.size_alloc, size_setRow, dw_size] <;> omega) | (simp only [List.length_set, Array.length_toList, List.length_cons, List.length_nil, List.length_append, bts_size] <;> omega) | (simp only [List.all_cons, List.all_nil, Value.oneCell', Bool.and_self, Bool.and_true]; done)) [-Option.bind_some, hp_alloc_lt, hp_alloc_eq, hp_set_ne, wrap_small, ups_ap_cons, ups_ap_nil, upd_same, upd_other, env0_ap0, env0_aps, xt_a, xt_b, xt_c, -splice_eq, -stR_cells, stR_box, stR_boxA, stR_row, stR_row0, stR_row1, stR_rowA, stR_rowA0, splice_rowv, splice_rowv0, splice_rowv1, splice_z, splice_n, splice_s, nth_rowv, nth_rowv0, nth_rowv1, rowv_len, e1, e2, e3, e16, e17, e18, hlt, hk1000, ia_30, X1, Xm, Xb, Xo, Xf, nk_ptr, q4, lk_lkR tagM, lkR_map, m1, Xq', lk_lkR1 tagB, lkR1_map, hmf, e1, e2, e3, e16, e17, e18, M0.blk, hlt, X1, p0, p1]
        exact next _ _ o (by exact e1) (by exact e2) (by exact e3) (by exact e16) (by exact e17) (by exact e18) (hF'.ext (by (repeat (first | exact Ext.rfl | assumption | (refine Ext.al ?_ _) | (refine Ext.dw ?_) | (refine Ext.set ?_ (by first | omega | (simp only [World.size_alloc, size_setRow, dw_size]; omega)) _) | (refine Ext.tr ?_ (by assumption)))))) (hG.skip hu (fun _ => hin)) hn (by (repeat (first | exact Mod.rfl | assumption | (refine Mod.al ?_ _) | (refine Mod.dw' ?_) | (refine Mod.set' ?_ (by first | (left; omega) | (left; simp only [World.size_alloc, size_setRow, dw_size]; omega) | (right; assumption) | (right; simp; done)) _) | (refine Mod.ex ?_ (by assumption)))))
      · rw [if_neg hin] at hmf
        have hroom := hG.room hin hw
        have nf := Ne.symm n3
        have no := Ne.symm n2
        have hclo : ∀ w', clo P (.func (.func 102) #[] #[pt gb 0, pt go 0, pt gf 0]) #[.agg #[i64 u.t, i64 u.p]] w' = EV P 102 #[.agg #[i64 u.t, i64 u.p], pt gb 0, pt go 0, pt gf 0] w' := fun w' => clo_eq (P := P) (g := 102) (by kernel_rfl) [] [pt gb 0, pt go 0, pt gf 0] [.agg #[i64 u.t, i64 u.p]] w'
        simp (maxSteps := 1000000) (disch := first | assumption | omega | (simp only [World.size_alloc, size_setRow, dw_size]; done) | (simp only [World.size_alloc, size_setRow, dw_size] <;> omega) | (simp only [List.length_set, Array.length_toList, List.length_cons, List.length_nil, List.length_append, bts_size] <;> omega) | (simp only [List.all_cons, List.all_nil, Value.oneCell', Bool.and_self, Bool.and_true]; done)) [-Option.bind_some, hp_alloc_lt, hp_alloc_eq, hp_set_ne, wrap_small, ups_ap_cons, ups_ap_nil, upd_same, upd_other, env0_ap0, env0_aps, xt_a, xt_b, xt_c, -splice_eq, -stR_cells, stR_box, stR_boxA, stR_row, stR_row0, stR_row1, stR_rowA, stR_rowA0, splice_rowv, splice_rowv0, splice_rowv1, splice_z, splice_n, splice_s, nth_rowv, nth_rowv0, nth_rowv1, rowv_len, e1, e2, e3, e16, e17, e18, hlt, hk1000, ia_30, X1, Xm, Xb, Xo, Xf, nk_ptr, q4, lk_lkR tagM, lkR_map, m1, Xq', lk_lkR1 tagB, lkR1_map, hmf, mu_muR tagB, muR_map, size_setM, hp_setM_ne, nf, no, hclo, e1, e2, e3, e16, e17, e18, M0.blk, hlt, X1, p0, p1]
        have E1 : Ext w (((dw ((w.alloc (.cells #[i64 0, i64 0] 42 (0, 0))).setRow w.heap.size #[i64 u.t, i64 u.p])).alloc (.cells #[i64 0, i64 0, .slice none 0 0] 83 (0, 0))).setRow (w.heap.size + 1) #[i64 s, i64 kk, .slice a2 past.length c2]) := by (repeat (first | exact Ext.rfl | assumption | (refine Ext.al ?_ _) | (refine Ext.dw ?_) | (refine Ext.set ?_ (by first | omega | (simp only [World.size_alloc, size_setRow, dw_size]; omega)) _) | (refine Ext.tr ?_ (by assumption))))
        have zE1 := E1.size
        try simp only [World.size_alloc, size_setRow, dw_size] at zE1
        generalize hwe : (((dw ((w.alloc (.cells #[i64 0, i64 0] 42 (0, 0))).setRow w.heap.size #[i64 u.t, i64 u.p])).alloc (.cells #[i64 0, i64 0, .slice none 0 0] 83 (0, 0))).setRow (w.heap.size + 1) #[i64 s, i64 kk, .slice a2 past.length c2]) = we at *
        have M1 : Mod (fun x => x = mo) w (setM we mo (mapO (o.map (fun u => (u, Value.bool true)) ++ [(u, .bool true)]))) := (Mod.of E1 _).tr (Mod.setM we mo _)
        have zM1 := M1.size
        try simp only [World.size_alloc, size_setRow, dw_size] at zM1
        have hq : hp (setM we mo (mapO (o.map (fun u => (u, Value.bool true)) ++ [(u, .bool true)]))) mo = some (outO (o ++ [u])) := by
          rw [hp_setM_eq (by have := E1.size; omega)]
          simp [outO]
        refine Ret.bind (IH (by omega) u _ (o ++ [u]) (hF'.mod M1 hq) ?_ ?_ (by simp; omega)) ?_
        · rw [List.nodup_append]
          refine ⟨hG.nodup, by simp, fun x hx y hy e => ?_⟩
          simp only [List.mem_singleton] at hy
          subst hy e
          exact hin hx
        · intro x hx
          rcases List.mem_append.1 hx with hx | hx
          · exact hG.isw x hx
          · simp only [List.mem_singleton] at hx
            subst hx
            exact hw
        · rintro ⟨_, w2⟩ ⟨o2, h1, h2, h3⟩
          dsimp only at h1 h3
          have hlen := nodup_le (o ++ [u]) o2 (by
            rw [List.nodup_append]
            refine ⟨hG.nodup, by simp, fun x hx y hy e => ?_⟩
            simp only [List.mem_singleton] at hy
            subst hy e
            exact hin hx) h2.sub
          simp only [List.length_append, List.length_singleton] at hlen
          exact next _ _ o2 (by exact e1) (by exact e2) (by exact e3) (by exact e16) (by exact e17) (by exact e18) (hF'.mod (M1.tr h3) h1) (hG.add hu hin hw h2) (by omega) (M0.tr (M1.tr h3))
theorem follow_c (hok : b.Ok) {n : Nat} (IH : 1 ≤ n → FoC S g m mo gb go gf cur b (n - 1)) : FoC S g m mo gb go gf cur b n := by
  intro t w o hF ho hw hn
  have hF' := hF
  obtain ⟨⟨⟨X1, hc4, hvs⟩, hc5, hc, ⟨l, Xm, hrel⟩, hgm, hgl, hml, hSg, hSm', hSl⟩, Xb, Xo, Xf, Xq, ⟨n1, n2, n3, n4, n5⟩, hSmo⟩ := hF
  have yb := hp_lt Xb
  have q4 : nth cur 4 = some (.map (some m)) := by rw [← nth_eq]; exact hc
  have E1 : Ext w (dw (w.alloc (.cells #[i64 t.t, i64 t.p] 42 (0, 0)))) := by (repeat (first | exact Ext.rfl | assumption | (refine Ext.al ?_ _) | (refine Ext.dw ?_) | (refine Ext.set ?_ (by first | omega | (simp only [World.size_alloc, size_setRow, dw_size]; omega)) _) | (refine Ext.tr ?_ (by assumption))))
  have zE1 := E1.size
  try simp only [World.size_alloc, size_setRow, dw_size] at zE1
  rcases mfind_rel hrel t with ⟨m1, m2⟩ | ⟨s, kk, past, a2, c2, m1, m2, D2⟩
  · have hp : pastW b.wr t = [] := by unfold pastW; rw [m2]
    refine Ret.post fun Q hQ => ?_
    refine Ret.enter plain mixed (impl_book_before_1_fn _ _ _ _ _) (by kernel_rfl) (n := 4) (by kernel_rfl) rfl ?_
    simp (maxSteps := 1000000) (disch := first | assumption | omega | (simp only [World.size_alloc, size_setRow, dw_size]; done) | (simp only [World.size_alloc, size_setRow, dw_size] <;> omega) | (simp only [List.length_set, Array.length_toList, List.length_cons, List.length_nil, List.length_append, bts_size] <;> omega) | (simp only [List.all_cons, List.all_nil, Value.oneCell', Bool.and_self, Bool.and_true]; done)) [-Option.bind_some, hp_alloc_lt, hp_alloc_eq, hp_set_ne, wrap_small, ups_ap_cons, ups_ap_nil, upd_same, upd_other, env0_ap0, env0_aps, xt_a, xt_b, xt_c, -splice_eq, -stR_cells, stR_box, stR_boxA, stR_row, stR_row0, stR_row1, stR_rowA, stR_rowA0, splice_rowv, splice_rowv0, splice_rowv1, splice_z, splice_n, splice_s, nth_rowv, nth_rowv0, nth_rowv1, rowv_len, X1, Xm, Xb, Xo, Xf, nk_ptr, q4, lk_lkR1 tagM, lkR1_map, m1, b_len_sl, fv_past, fv_tags, X1, E1.blk]
    refine Ret.mono (follow_n (a := none) (c := 0) IH (by rw [hp]; simp) (by rw [hp]; exact D.nil _ _) hSmo 0 0 _ _ o (by rw [hp]; rfl) (by exact rfl) (by exact rfl) (by exact rfl) (by rw [hp]; exact rfl) (by rw [hp]; exact rfl) (by exact rfl) (hF'.ext E1) (Going.start ho hw) hn Mod.rfl) ?_
    rintro r ⟨o', h1, h2, h3⟩
    exact hQ _ ⟨o', h1, h2, (Mod.of E1 _).tr h3⟩
  · have hp : pastW b.wr t = past := by unfold pastW; rw [m2]
    have hpl : past.length = 4 := hok.2.2 _ (wfind_mem m2)
    refine Ret.post fun Q hQ => ?_
    refine Ret.enter plain mixed (impl_book_before_1_fn _ _ _ _ _) (by kernel_rfl) (n := 4) (by kernel_rfl) rfl ?_
    simp (maxSteps := 1000000) (disch := first | assumption | omega | (simp only [World.size_alloc, size_setRow, dw_size]; done) | (simp only [World.size_alloc, size_setRow, dw_size] <;> omega) | (simp only [List.length_set, Array.length_toList, List.length_cons, List.length_nil, List.length_append, bts_size] <;> omega) | (simp only [List.all_cons, List.all_nil, Value.oneCell', Bool.and_self, Bool.and_true]; done)) [-Option.bind_some, hp_alloc_lt, hp_alloc_eq, hp_set_ne, wrap_small, ups_ap_cons, ups_ap_nil, upd_same, upd_other, env0_ap0, env0_aps, xt_a, xt_b, xt_c, -splice_eq, -stR_cells, stR_box, stR_boxA, stR_row, stR_row0, stR_row1, stR_rowA, stR_rowA0, splice_rowv, splice_rowv0, splice_rowv1, splice_z, splice_n, splice_s, nth_rowv, nth_rowv0, nth_rowv1, rowv_len, X1, Xm, Xb, Xo, Xf, nk_ptr, q4, lk_lkR1 tagM, lkR1_map, m1, b_len_sl, fv_past, fv_tags, X1, E1.blk]
    refine Ret.mono (follow_n (a := a2) (c := c2) IH (by rw [hp]; omega) (by rw [hp]; exact D2.ext E1) hSmo past.length 0 _ _ o (by rw [hp]; omega) (by exact rfl) (by exact rfl) (by exact rfl) (by rw [hp]; exact rfl) (by rw [hp]; exact rfl) (by exact rfl) (hF'.ext E1) (Going.start ho hw) hn Mod.rfl) ?_
    rintro r ⟨o', h1, h2, h3⟩
    exact hQ _ ⟨o', h1, h2, (Mod.of E1 _).tr h3⟩
theorem follow_m (hok : b.Ok) : ∀ n, FoC S g m mo gb go gf cur b n := by
  intro n
  induction n with
  | zero => exact follow_c hok (fun h => absurd h (by omega))
  | succ n ih => exact follow_c hok (fun _ => ih)
end
theorem impl_book_before_m {S : Nat → Prop} {g m : Nat} {cur : List Value} {b : Book} {t : Tag} {w : World} (hb : Bk w S g m cur b) (hok : b.Ok) :
    Ret (EV P 66 #[pt g 0, .agg #[i64 t.t, i64 t.p]] w) fun r => ∃ mo o, r.1 = .map (some mo) ∧ hp r.2 mo = some (outO o) ∧ (∀ x, x ∈ o ↔ isW b.wr x = true ∧ Ev.Reach b.wr t x) ∧ Ext w r.2 := by
  have hb' := hb
  obtain ⟨hV, hc5, hc, hmp, hgm, hgl, hml, hSg, hSm, hSl⟩ := hb
  have hclo : ∀ w', clo P (.func (.func 102) #[] #[pt w.heap.size 0, pt (w.heap.size + 1 + 1 + 1) 0, pt (w.heap.size + 1 + 1 + 1 + 1) 0]) #[.agg #[i64 t.t, i64 t.p]] w' = EV P 102 #[.agg #[i64 t.t, i64 t.p], pt w.heap.size 0, pt (w.heap.size + 1 + 1 + 1) 0, pt (w.heap.size + 1 + 1 + 1 + 1) 0] w' := fun w' => clo_eq (P := P) (g := 102) (by kernel_rfl) [] [pt w.heap.size 0, pt (w.heap.size + 1 + 1 + 1) 0, pt (w.heap.size + 1 + 1 + 1 + 1) 0] [.agg #[i64 t.t, i64 t.p]] w'
  refine Ret.post fun Q hQ => ?_
  refine Ret.enter plain mixed (impl_book_before_fn _ _ _) (by kernel_rfl) (n := 2) (by kernel_rfl) rfl ?_
  simp (maxSteps := 1000000) (disch := first | assumption | omega | (simp only [World.size_alloc, size_setRow, dw_size]; done) | (simp only [World.size_alloc, size_setRow, dw_size] <;> omega) | (simp only [List.length_set, Array.length_toList, List.length_cons, List.length_nil, List.length_append, bts_size] <;> omega) | (simp only [List.all_cons, List.all_nil, Value.oneCell', Bool.and_self, Bool.and_true]; done)) [-Option.bind_some, hp_alloc_lt, hp_alloc_eq, hp_set_ne, wrap_small, ups_ap_cons, ups_ap_nil, upd_same, upd_other, env0_ap0, env0_aps, xt_a, xt_b, xt_c, -splice_eq, -stR_cells, stR_box, stR_boxA, stR_row, stR_row0, stR_row1, stR_rowA, stR_rowA0, splice_rowv, splice_rowv0, splice_rowv1, splice_z, splice_n, splice_s, nth_rowv, nth_rowv0, nth_rowv1, rowv_len, mm_map, hclo]
  refine Ret.bind (follow_m (S := S) (g := g) (m := m) (mo := w.heap.size + 1 + 1) (gb := w.heap.size) (go := w.heap.size + 1 + 1 + 1) (gf := w.heap.size + 1 + 1 + 1 + 1) (cur := cur) hok b.wr.length t _ [] ⟨hb'.keep (by (repeat (first | exact Ext.rfl | assumption | (refine Ext.al ?_ _) | (refine Ext.dw ?_) | (refine Ext.set ?_ (by first | omega | (simp only [World.size_alloc, size_setRow, dw_size]; omega)) _) | (refine Ext.tr ?_ (by assumption))))), (by first | assumption | rfl | (simp (maxSteps := 1000000) (disch := first | assumption | omega | (simp only [World.size_alloc, size_setRow, dw_size]; done) | (simp only [World.size_alloc, size_setRow, dw_size] <;> omega) | (simp only [List.length_set, Array.length_toList, List.length_cons, List.length_nil, List.length_append, bts_size] <;> omega) | (simp only [List.all_cons, List.all_nil, Value.oneCell', Bool.and_self, Bool.and_true]; done)) [-Option.bind_some, hp_alloc_lt, hp_alloc_eq, hp_set_ne, wrap_small, ups_ap_cons, ups_ap_nil, upd_same, upd_other, env0_ap0, env0_aps, xt_a, xt_b, xt_c, -splice_eq, -stR_cells, stR_box, stR_boxA, stR_row, stR_row0, stR_row1, stR_rowA, stR_rowA0, splice_rowv, splice_rowv0, splice_rowv1, splice_z, splice_n, splice_s, nth_rowv, nth_rowv0, nth_rowv1, rowv_len]; done)), (by first | assumption | rfl | (simp (maxSteps := 1000000) (disch := first | assumption | omega | (simp only [World.size_alloc, size_setRow, dw_size]; done) | (simp only [World.size_alloc, size_setRow, dw_size] <;> omega) | (simp only [List.length_set, Array.length_toList, List.length_cons, List.length_nil, List.length_append, bts_size] <;> omega) | (simp only [List.all_cons, List.all_nil, Value.oneCell', Bool.and_self, Bool.and_true]; done)) [-Option.bind_some, hp_alloc_lt, hp_alloc_eq, hp_set_ne, wrap_small, ups_ap_cons, ups_ap_nil, upd_same, upd_other, env0_ap0, env0_aps, xt_a, xt_b, xt_c, -splice_eq, -stR_cells, stR_box, stR_boxA, stR_row, stR_row0, stR_row1, stR_rowA, stR_rowA0, splice_rowv, splice_rowv0, splice_rowv1, splice_z, splice_n, splice_s, nth_rowv, nth_rowv0, nth_rowv1, rowv_len]; done)), (by first | assumption | rfl | (simp (maxSteps := 1000000) (disch := first | assumption | omega | (simp only [World.size_alloc, size_setRow, dw_size]; done) | (simp only [World.size_alloc, size_setRow, dw_size] <;> omega) | (simp only [List.length_set, Array.length_toList, List.length_cons, List.length_nil, List.length_append, bts_size] <;> omega) | (simp only [List.all_cons, List.all_nil, Value.oneCell', Bool.and_self, Bool.and_true]; done)) [-Option.bind_some, hp_alloc_lt, hp_alloc_eq, hp_set_ne, wrap_small, ups_ap_cons, ups_ap_nil, upd_same, upd_other, env0_ap0, env0_aps, xt_a, xt_b, xt_c, -splice_eq, -stR_cells, stR_box, stR_boxA, stR_row, stR_row0, stR_row1, stR_rowA, stR_rowA0, splice_rowv, splice_rowv0, splice_rowv1, splice_z, splice_n, splice_s, nth_rowv, nth_rowv0, nth_rowv1, rowv_len]; done)), ?_, ⟨by omega, by omega, by omega, by omega, by omega⟩, fun h => by have := hSl _ h; omega⟩ (by simp) (by simp) (by simp)) ?_
  · show _ = some (mapO [])
    exact (by first | assumption | rfl | (simp (maxSteps := 1000000) (disch := first | assumption | omega | (simp only [World.size_alloc, size_setRow, dw_size]; done) | (simp only [World.size_alloc, size_setRow, dw_size] <;> omega) | (simp only [List.length_set, Array.length_toList, List.length_cons, List.length_nil, List.length_append, bts_size] <;> omega) | (simp only [List.all_cons, List.all_nil, Value.oneCell', Bool.and_self, Bool.and_true]; done)) [-Option.bind_some, hp_alloc_lt, hp_alloc_eq, hp_set_ne, wrap_small, ups_ap_cons, ups_ap_nil, upd_same, upd_other, env0_ap0, env0_aps, xt_a, xt_b, xt_c, -splice_eq, -stR_cells, stR_box, stR_boxA, stR_row, stR_row0, stR_row1, stR_rowA, stR_rowA0, splice_rowv, splice_rowv0, splice_rowv1, splice_z, splice_n, splice_s, nth_rowv, nth_rowv0, nth_rowv1, rowv_len]; done))
  · rintro ⟨_, w2⟩ ⟨o, h1, h2, h3⟩
    dsimp only at h1 h3
    have F2 : Ext w w2 := Mod.after (a := w) (by (repeat (first | exact Ext.rfl | assumption | (refine Ext.al ?_ _) | (refine Ext.dw ?_) | (refine Ext.set ?_ (by first | omega | (simp only [World.size_alloc, size_setRow, dw_size]; omega)) _) | (refine Ext.tr ?_ (by assumption))))) h3 (by intro x hx h; omega)
    have X2 : hp w2 (w.heap.size + 1 + 1 + 1) = some (.cells #[.map (some (w.heap.size + 1 + 1))] 90 (0, 0)) := (h3.blk _ (by simp only [World.size_alloc, size_setRow]; omega) (by omega)).trans (by first | assumption | rfl | (simp (maxSteps := 1000000) (disch := first | assumption | omega | (simp only [World.size_alloc, size_setRow, dw_size]; done) | (simp only [World.size_alloc, size_setRow, dw_size] <;> omega) | (simp only [List.length_set, Array.length_toList, List.length_cons, List.length_nil, List.length_append, bts_size] <;> omega) | (simp only [List.all_cons, List.all_nil, Value.oneCell', Bool.and_self, Bool.and_true]; done)) [-Option.bind_some, hp_alloc_lt, hp_alloc_eq, hp_set_ne, wrap_small, ups_ap_cons, ups_ap_nil, upd_same, upd_other, env0_ap0, env0_aps, xt_a, xt_b, xt_c, -splice_eq, -stR_cells, stR_box, stR_boxA, stR_row, stR_row0, stR_row1, stR_rowA, stR_rowA0, splice_rowv, splice_rowv0, splice_rowv1, splice_z, splice_n, splice_s, nth_rowv, nth_rowv0, nth_rowv1, rowv_len]; done))
    simp (maxSteps := 1000000) (disch := first | assumption | omega | (simp only [World.size_alloc, size_setRow, dw_size]; done) | (simp only [World.size_alloc, size_setRow, dw_size] <;> omega) | (simp only [List.length_set, Array.length_toList, List.length_cons, List.length_nil, List.length_append, bts_size] <;> omega) | (simp only [List.all_cons, List.all_nil, Value.oneCell', Bool.and_self, Bool.and_true]; done)) [-Option.bind_some, hp_alloc_lt, hp_alloc_eq, hp_set_ne, wrap_small, ups_ap_cons, ups_ap_nil, upd_same, upd_other, env0_ap0, env0_aps, xt_a, xt_b, xt_c, -splice_eq, -stR_cells, stR_box, stR_boxA, stR_row, stR_row0, stR_row1, stR_rowA, stR_rowA0, splice_rowv, splice_rowv0, splice_rowv1, splice_z, splice_n, splice_s, nth_rowv, nth_rowv0, nth_rowv1, rowv_len, X2, X2]
    exact hQ _ ⟨w.heap.size + 1 + 1, o, rfl, h1, fun x => h2.mem, F2⟩
end Go.Proofs.Ytcafhepclddcaaa.X
set_option linter.unusedVariables false
set_option linter.unusedSimpArgs false
set_option maxRecDepth 100000
set_option maxHeartbeats 1000000
namespace Go.Proofs.Ytcafhepclddcaaa.X
open Go Go.Ev Go.RowKit
def wtags : List Done → List Tag
  | [] => []
  | d :: l => if d.kind == 1 then d.tag :: wtags l else wtags l
theorem lit_tag {t : Tag} {g : Nat} {e : TypeId} {w : World} (h : hp w g = some (.cells #[i64 t.t, i64 t.p] e (0, 0))) : D tTags (fun b => b = g) w [.slice (some ⟨g, 0, none⟩) 1 1] [t] := by
  refine D.ofSl (css := [tagC t]) ⟨_, _, rfl, by simp, .inr ⟨g, 0, rfl, fun j v hj => ?_⟩⟩ ⟨D.tag.2 rfl, trivial⟩ (fun b hb => ?_) (by simp)
  · rw [h]
    simpa [cellO] using hj
  · simp only [blkOf, Option.toList_some, List.mem_singleton] at hb
    subst hb
    exact ⟨rfl, hp_lt h⟩
theorem spec_l8Tags_n {a : Option Addr} {c : Nat} {S : Nat → Prop} {xs : List Done} {w0 : World} (ha : D tDones S w0 [.slice a xs.length c] xs) (hl : xs.length ≤ 3518437208883) {T : List Tag} :
    ∀ (d k : Nat) (e : Env) (w : World) (acc : List Tag) (a3 : Option Addr) (c3 : Nat), k + d = xs.length → e 0 = .slice a xs.length c → e 3 = .slice a3 acc.length c3 → e 4 = i64 k → acc.length ≤ k → acc ++ wtags (xs.drop k) = T → O tTags (In w0.heap.size w.heap.size) w [.slice a3 acc.length c3] acc → Ext w0 w →
    Ret (spec_l8Tags_l1 e w) fun r => ∃ a2 c2, r.1 = .slice a2 T.length c2 ∧ O tTags (In w0.heap.size r.2.heap.size) r.2 [.slice a2 T.length c2] T ∧ Ext w0 r.2 := by
  intro d
  induction d with
  | zero =>
    intro k e w acc a3 c3 hd e0 e3 e4 hak hT ho E0
    have zE0 := E0.size
    try simp only [World.size_alloc, size_setRow, dw_size] at zE0
    rw [spec_l8Tags_l1_eq]
    obtain rfl : k = xs.length := by omega
    rw [List.drop_eq_nil_of_le (by omega), wtags, List.append_nil] at hT
    subst hT
    refine Ret.post fun Q hQ => ?_
    simp (maxSteps := 1000000) (disch := first | assumption | omega | (simp only [World.size_alloc, size_setRow, dw_size]; done) | (simp only [World.size_alloc, size_setRow, dw_size] <;> omega) | (simp only [List.length_set, Array.length_toList, List.length_cons, List.length_nil, List.length_append, bts_size] <;> omega) | (simp only [List.all_cons, List.all_nil, Value.oneCell', Bool.and_self, Bool.and_true]; done)) [-Option.bind_some, hp_alloc_lt, hp_alloc_eq, hp_set_ne, wrap_small, ups_ap_cons, ups_ap_nil, upd_same, upd_other, env0_ap0, env0_aps, xt_a, xt_b, xt_c, -splice_eq, -stR_cells, stR_box, stR_boxA, stR_row, stR_row0, stR_row1, stR_rowA, stR_rowA0, splice_rowv, splice_rowv0, splice_rowv1, splice_z, splice_n, splice_s, nth_rowv, nth_rowv0, nth_rowv1, rowv_len, e0, e3, e4, e0, e3, e4, E0.blk]
    exact hQ _ ⟨a3, c3, rfl, ho, E0⟩
  | succ d ih =>
    intro k e w acc a3 c3 hd e0 e3 e4 hak hT ho E0
    have zE0 := E0.size
    try simp only [World.size_alloc, size_setRow, dw_size] at zE0
    rw [spec_l8Tags_l1_eq]
    have hlt : k < xs.length := by omega
    obtain ⟨x, hx, hdx⟩ := drop_at hlt
    obtain ⟨b1, o1, cs1, rfl, A1, D1, _, l1⟩ := (ha.ext E0).at (by decide) hx
    obtain rfl := D.done.1 D1
    have p0 := A1 0 _ rfl
    have p1 := A1 1 _ rfl
    have p2 := A1 2 _ rfl
    have p3 := A1 3 _ rfl
    have p4 := A1 4 _ rfl
    simp only [LVer_n, LTag_n, LNode_n, Nat.add_zero] at p0 p1 p2 p3 p4
    simp only [LDone_n] at p0 p1 p2 p3 p4
    rw [hdx, wtags] at hT
    have next : ∀ (e' : Env) (w' : World) (acc : List Tag) (a3 : Option Addr) (c3 : Nat), e' 0 = .slice (some ⟨b1, o1, none⟩) xs.length c → e' 3 = .slice a3 acc.length c3 → e' 4 = i64 k → acc.length ≤ k + 1 → acc ++ wtags (xs.drop (k + 1)) = T → O tTags (In w0.heap.size w'.heap.size) w' [.slice a3 acc.length c3] acc → Ext w0 w' →
        Ret (spec_l8Tags_j1 e' w') fun r => ∃ a2 c2, r.1 = .slice a2 T.length c2 ∧ O tTags (In w0.heap.size r.2.heap.size) r.2 [.slice a2 T.length c2] T ∧ Ext w0 r.2 := by
      intro e' w' acc a3 c3 e0 e3 e4 h1 h2 h3 h4
      rw [spec_l8Tags_j1_eq]
      simp (maxSteps := 1000000) (disch := first | assumption | omega | (simp only [World.size_alloc, size_setRow, dw_size]; done) | (simp only [World.size_alloc, size_setRow, dw_size] <;> omega) | (simp only [List.length_set, Array.length_toList, List.length_cons, List.length_nil, List.length_append, bts_size] <;> omega) | (simp only [List.all_cons, List.all_nil, Value.oneCell', Bool.and_self, Bool.and_true]; done)) [-Option.bind_some, hp_alloc_lt, hp_alloc_eq, hp_set_ne, wrap_small, ups_ap_cons, ups_ap_nil, upd_same, upd_other, env0_ap0, env0_aps, xt_a, xt_b, xt_c, -splice_eq, -stR_cells, stR_box, stR_boxA, stR_row, stR_row0, stR_row1, stR_rowA, stR_rowA0, splice_rowv, splice_rowv0, splice_rowv1, splice_z, splice_n, splice_s, nth_rowv, nth_rowv0, nth_rowv1, rowv_len, e0, e3, e4, e0, e3, e4, E0.blk, hlt, p0, p1, p2, p3, p4, e0, e3, e4]
      exact ih (k + 1) _ w' acc a3 c3 (by omega) (by exact e0) (by exact e3) (by exact congrArg i64 (by omega)) h1 h2 h3 h4
    cases h1 : (x.kind == 1)
    · rw [h1, if_neg (by decide)] at hT
      simp (maxSteps := 1000000) (disch := first | assumption | omega | (simp only [World.size_alloc, size_setRow, dw_size]; done) | (simp only [World.size_alloc, size_setRow, dw_size] <;> omega) | (simp only [List.length_set, Array.length_toList, List.length_cons, List.length_nil, List.length_append, bts_size] <;> omega) | (simp only [List.all_cons, List.all_nil, Value.oneCell', Bool.and_self, Bool.and_true]; done)) [-Option.bind_some, hp_alloc_lt, hp_alloc_eq, hp_set_ne, wrap_small, ups_ap_cons, ups_ap_nil, upd_same, upd_other, env0_ap0, env0_aps, xt_a, xt_b, xt_c, -splice_eq, -stR_cells, stR_box, stR_boxA, stR_row, stR_row0, stR_row1, stR_rowA, stR_rowA0, splice_rowv, splice_rowv0, splice_rowv1, splice_z, splice_n, splice_s, nth_rowv, nth_rowv0, nth_rowv1, rowv_len, e0, e3, e4, hlt, ia_25, h1, e0, e3, e4, E0.blk, hlt, p0, p1, p2, p3, p4]
      exact next _ _ acc a3 c3 (by exact e0) (by exact e3) (by exact e4) (by omega) hT ho E0
    · rw [h1, if_pos rfl] at hT
      simp (maxSteps := 1000000) (disch := first | assumption | omega | (simp only [World.size_alloc, size_setRow, dw_size]; done) | (simp only [World.size_alloc, size_setRow, dw_size] <;> omega) | (simp only [List.length_set, Array.length_toList, List.length_cons, List.length_nil, List.length_append, bts_size] <;> omega) | (simp only [List.all_cons, List.all_nil, Value.oneCell', Bool.and_self, Bool.and_true]; done)) [-Option.bind_some, hp_alloc_lt, hp_alloc_eq, hp_set_ne, wrap_small, ups_ap_cons, ups_ap_nil, upd_same, upd_other, env0_ap0, env0_aps, xt_a, xt_b, xt_c, -splice_eq, -stR_cells, stR_box, stR_boxA, stR_row, stR_row0, stR_row1, stR_rowA, stR_rowA0, splice_rowv, splice_rowv0, splice_rowv1, splice_z, splice_n, splice_s, nth_rowv, nth_rowv0, nth_rowv1, rowv_len, e0, e3, e4, hlt, ia_25, h1, e0, e3, e4, E0.blk, hlt, p0, p1, p2, p3, p4]
      refine Ret.bind (O.appD (L := LTag) (mx := 8796093021952) flat_tag el_30 zz_42 rfl (by decide) (ho.ext (Ext.alloc w (.cells #[i64 x.tag.t, i64 x.tag.p] 42 (0, 0)))) (lit_tag (t := x.tag) (g := w.heap.size) (e := 42) (by first | assumption | rfl | (simp (maxSteps := 1000000) (disch := first | assumption | omega | (simp only [World.size_alloc, size_setRow, dw_size]; done) | (simp only [World.size_alloc, size_setRow, dw_size] <;> omega) | (simp only [List.length_set, Array.length_toList, List.length_cons, List.length_nil, List.length_append, bts_size] <;> omega) | (simp only [List.all_cons, List.all_nil, Value.oneCell', Bool.and_self, Bool.and_true]; done)) [-Option.bind_some, hp_alloc_lt, hp_alloc_eq, hp_set_ne, wrap_small, ups_ap_cons, ups_ap_nil, upd_same, upd_other, env0_ap0, env0_aps, xt_a, xt_b, xt_c, -splice_eq, -stR_cells, stR_box, stR_boxA, stR_row, stR_row0, stR_row1, stR_rowA, stR_rowA0, splice_rowv, splice_rowv0, splice_rowv1, splice_z, splice_n, splice_s, nth_rowv, nth_rowv0, nth_rowv1, rowv_len, e0, e3, e4, E0.blk, hlt, p0, p1, p2, p3, p4]; done))) (by simp; omega) (by decide) (by decide)) ?_
      rintro ⟨_, w1⟩ ⟨a1, c1, rfl, o1', M1⟩
      have zM1 := M1.size
      try simp only [World.size_alloc, size_setRow, dw_size] at zM1
      try dsimp only at o1' M1
      have zM1 := M1.size
      simp only [World.size_alloc] at zM1 o1'
      have zE0' := E0.size
      have F1 : Ext w0 w1 := Mod.after (E0.al (.cells #[i64 x.tag.t, i64 x.tag.p] 42 (0, 0))) M1 (by intro y hy h; simp only [In] at h; omega)
      simp (maxSteps := 1000000) (disch := first | assumption | omega | (simp only [World.size_alloc, size_setRow, dw_size]; done) | (simp only [World.size_alloc, size_setRow, dw_size] <;> omega) | (simp only [List.length_set, Array.length_toList, List.length_cons, List.length_nil, List.length_append, bts_size] <;> omega) | (simp only [List.all_cons, List.all_nil, Value.oneCell', Bool.and_self, Bool.and_true]; done)) [-Option.bind_some, hp_alloc_lt, hp_alloc_eq, hp_set_ne, wrap_small, ups_ap_cons, ups_ap_nil, upd_same, upd_other, env0_ap0, env0_aps, xt_a, xt_b, xt_c, -splice_eq, -stR_cells, stR_box, stR_boxA, stR_row, stR_row0, stR_row1, stR_rowA, stR_rowA0, splice_rowv, splice_rowv0, splice_rowv1, splice_z, splice_n, splice_s, nth_rowv, nth_rowv0, nth_rowv1, rowv_len, e0, e3, e4, E0.blk, hlt, p0, p1, p2, p3, p4, M1.blk]
      exact next _ _ (acc ++ [x.tag]) a1 c1 (by exact e0) (by simp; rfl) (by exact e4) (by simp; omega) (by rw [← hT]; simp) (by
        have := o1'.wide (S' := In w0.heap.size w1.heap.size) (fun b hb hl => by simp only [In] at *; rcases hb with hb | hb <;> omega)
        simpa using this) F1
theorem spec_l8Tags_m {a : Option Addr} {n c : Nat} {Sx : Nat → Prop} {xs : List Done} {w : World} (ha : D tDones Sx w [.slice a n c] xs) :
    Ret (EV P 59 #[.slice a n c] w) fun r => ∃ a2 c2, r.1 = .slice a2 (wtags xs).length c2 ∧ O tTags (In w.heap.size r.2.heap.size) r.2 [.slice a2 (wtags xs).length c2] (wtags xs) ∧ Ext w r.2 := by
  obtain ⟨rfl, hm, _⟩ := ha.n
  refine Ret.enter plain mixed (spec_l8Tags_fn _ _) (by kernel_rfl) (n := 1) (by kernel_rfl) rfl ?_
  simp (maxSteps := 1000000) (disch := first | assumption | omega | (simp only [World.size_alloc, size_setRow, dw_size]; done) | (simp only [World.size_alloc, size_setRow, dw_size] <;> omega) | (simp only [List.length_set, Array.length_toList, List.length_cons, List.length_nil, List.length_append, bts_size] <;> omega) | (simp only [List.all_cons, List.all_nil, Value.oneCell', Bool.and_self, Bool.and_true]; done)) [-Option.bind_some, hp_alloc_lt, hp_alloc_eq, hp_set_ne, wrap_small, ups_ap_cons, ups_ap_nil, upd_same, upd_other, env0_ap0, env0_aps, xt_a, xt_b, xt_c, -splice_eq, -stR_cells, stR_box, stR_boxA, stR_row, stR_row0, stR_row1, stR_rowA, stR_rowA0, splice_rowv, splice_rowv0, splice_rowv1, splice_z, splice_n, splice_s, nth_rowv, nth_rowv0, nth_rowv1, rowv_len]
  exact spec_l8Tags_n ha hm xs.length 0 _ _ [] (some ⟨w.heap.size, 0, none⟩) 0 (by omega) (by exact rfl) (by exact rfl) (by exact rfl) (Nat.le_refl _) rfl ((O.empty (g := w.heap.size) (by first | assumption | rfl | (simp (maxSteps := 1000000) (disch := first | assumption | omega | (simp only [World.size_alloc, size_setRow, dw_size]; done) | (simp only [World.size_alloc, size_setRow, dw_size] <;> omega) | (simp only [List.length_set, Array.length_toList, List.length_cons, List.length_nil, List.length_append, bts_size] <;> omega) | (simp only [List.all_cons, List.all_nil, Value.oneCell', Bool.and_self, Bool.and_true]; done)) [-Option.bind_some, hp_alloc_lt, hp_alloc_eq, hp_set_ne, wrap_small, ups_ap_cons, ups_ap_nil, upd_same, upd_other, env0_ap0, env0_aps, xt_a, xt_b, xt_c, -splice_eq, -stR_cells, stR_box, stR_boxA, stR_row, stR_row0, stR_row1, stR_rowA, stR_rowA0, splice_rowv, splice_rowv0, splice_rowv1, splice_z, splice_n, splice_s, nth_rowv, nth_rowv0, nth_rowv1, rowv_len]; done))).wide (fun b hb hl => by have : b = w.heap.size := hb; simp only [In, World.size_alloc] at *; omega)) (by (repeat (first | exact Ext.rfl | assumption | (refine Ext.al ?_ _) | (refine Ext.dw ?_) | (refine Ext.set ?_ (by first | omega | (simp only [World.size_alloc, size_setRow, dw_size]; omega)) _) | (refine Ext.tr ?_ (by assumption)))))
theorem spec_l8In_n {a : Option Addr} {c g3 : Nat} {S : Nat → Prop} {xs : List Tag} {t : Tag} {w0 : World} (ha : D tTags S w0 [.slice a xs.length c] xs) (X3 : hp w0 g3 = some (.cells #[i64 t.t, i64 t.p] 42 (0, 0))) :
    ∀ (d k : Nat) (e : Env) (w : World), k + d = xs.length → e 0 = .slice a xs.length c → e 3 = pt g3 0 → e 5 = i64 k → Ext w0 w →
    Ret (spec_l8In_l1 e w) fun r => r.1 = .bool (decide (t ∈ xs.drop k)) ∧ Ext w0 r.2 := by
  have hm := ha.n
  have y3 := hp_lt X3
  intro d
  induction d with
  | zero =>
    intro k e w hd e0 e3 e5 E0
    have zE0 := E0.size
    try simp only [World.size_alloc, size_setRow, dw_size] at zE0
    rw [spec_l8In_l1_eq]
    obtain rfl : k = xs.length := by omega
    rw [List.drop_eq_nil_of_le (by omega)]
    refine Ret.post fun Q hQ => ?_
    simp (maxSteps := 1000000) (disch := first | assumption | omega | (simp only [World.size_alloc, size_setRow, dw_size]; done) | (simp only [World.size_alloc, size_setRow, dw_size] <;> omega) | (simp only [List.length_set, Array.length_toList, List.length_cons, List.length_nil, List.length_append, bts_size] <;> omega) | (simp only [List.all_cons, List.all_nil, Value.oneCell', Bool.and_self, Bool.and_true]; done)) [-Option.bind_some, hp_alloc_lt, hp_alloc_eq, hp_set_ne, wrap_small, ups_ap_cons, ups_ap_nil, upd_same, upd_other, env0_ap0, env0_aps, xt_a, xt_b, xt_c, -splice_eq, -stR_cells, stR_box, stR_boxA, stR_row, stR_row0, stR_row1, stR_rowA, stR_rowA0, splice_rowv, splice_rowv0, splice_rowv1, splice_z, splice_n, splice_s, nth_rowv, nth_rowv0, nth_rowv1, rowv_len, e0, e3, e5, e0, e3, e5, E0.blk]
    exact hQ _ ⟨by simp, by (repeat (first | exact Ext.rfl | assumption | (refine Ext.al ?_ _) | (refine Ext.dw ?_) | (refine Ext.set ?_ (by first | omega | (simp only [World.size_alloc, size_setRow, dw_size]; omega)) _) | (refine Ext.tr ?_ (by assumption))))⟩
  | succ d ih =>
    intro k e w hd e0 e3 e5 E0
    have zE0 := E0.size
    try simp only [World.size_alloc, size_setRow, dw_size] at zE0
    rw [spec_l8In_l1_eq]
    have X3' := (E0.blk y3).trans X3
    have hlt : k < xs.length := by omega
    obtain ⟨x, hx, hdx⟩ := drop_at hlt
    obtain ⟨b1, o1, cs1, rfl, A1, D1, _, l1⟩ := (ha.ext E0).at (by decide) hx
    obtain rfl := D.tag.1 D1
    have p0 := A1 0 _ rfl
    have p1 := A1 1 _ rfl
    simp only [LVer_n, LTag_n, LNode_n, Nat.add_zero] at p0 p1
    rw [hdx]
    refine Ret.post fun Q hQ => ?_
    cases h1 : ((x.t == t.t) && (x.p == t.p))
    · have hne : ¬ t = x := fun e => by subst e; simp at h1
      simp (maxSteps := 1000000) (disch := first | assumption | omega | (simp only [World.size_alloc, size_setRow, dw_size]; done) | (simp only [World.size_alloc, size_setRow, dw_size] <;> omega) | (simp only [List.length_set, Array.length_toList, List.length_cons, List.length_nil, List.length_append, bts_size] <;> omega) | (simp only [List.all_cons, List.all_nil, Value.oneCell', Bool.and_self, Bool.and_true]; done)) [-Option.bind_some, hp_alloc_lt, hp_alloc_eq, hp_set_ne, wrap_small, ups_ap_cons, ups_ap_nil, upd_same, upd_other, env0_ap0, env0_aps, xt_a, xt_b, xt_c, -splice_eq, -stR_cells, stR_box, stR_boxA, stR_row, stR_row0, stR_row1, stR_rowA, stR_rowA0, splice_rowv, splice_rowv0, splice_rowv1, splice_z, splice_n, splice_s, nth_rowv, nth_rowv0, nth_rowv1, rowv_len, e0, e3, e5, hlt, ia_30, X3', h1, e0, e3, e5, E0.blk, hlt, p0, p1]
      exact Ret.mono (ih (k + 1) _ _ (by omega) (by exact e0) (by exact e3) (by exact congrArg i64 (by omega)) (by (repeat (first | exact Ext.rfl | assumption | (refine Ext.al ?_ _) | (refine Ext.dw ?_) | (refine Ext.set ?_ (by first | omega | (simp only [World.size_alloc, size_setRow, dw_size]; omega)) _) | (refine Ext.tr ?_ (by assumption)))))) (fun r h => hQ r ⟨by rw [h.1]; simp [hne], h.2⟩)
    · have he : t = x := by
        simp only [Bool.and_eq_true, beq_iff_eq] at h1
        exact tag_ext h1.1.symm h1.2.symm
      simp (maxSteps := 1000000) (disch := first | assumption | omega | (simp only [World.size_alloc, size_setRow, dw_size]; done) | (simp only [World.size_alloc, size_setRow, dw_size] <;> omega) | (simp only [List.length_set, Array.length_toList, List.length_cons, List.length_nil, List.length_append, bts_size] <;> omega) | (simp only [List.all_cons, List.all_nil, Value.oneCell', Bool.and_self, Bool.and_true]; done)) [-Option.bind_some, hp_alloc_lt, hp_alloc_eq, hp_set_ne, wrap_small, ups_ap_cons, ups_ap_nil, upd_same, upd_other, env0_ap0, env0_aps, xt_a, xt_b, xt_c, -splice_eq, -stR_cells, stR_box, stR_boxA, stR_row, stR_row0, stR_row1, stR_rowA, stR_rowA0, splice_rowv, splice_rowv0, splice_rowv1, splice_z, splice_n, splice_s, nth_rowv, nth_rowv0, nth_rowv1, rowv_len, e0, e3, e5, hlt, ia_30, X3', h1, e0, e3, e5, E0.blk, hlt, p0, p1]
      exact hQ _ ⟨by simp [he], by (repeat (first | exact Ext.rfl | assumption | (refine Ext.al ?_ _) | (refine Ext.dw ?_) | (refine Ext.set ?_ (by first | omega | (simp only [World.size_alloc, size_setRow, dw_size]; omega)) _) | (refine Ext.tr ?_ (by assumption))))⟩
theorem spec_l8In_m {a : Option Addr} {n c : Nat} {S : Nat → Prop} {xs : List Tag} {t : Tag} {w : World} (ha : D tTags S w [.slice a n c] xs) :
    Ret (EV P 64 #[.slice a n c, .agg #[i64 t.t, i64 t.p]] w) fun r => r.1 = .bool (decide (t ∈ xs)) ∧ Ext w r.2 := by
  obtain ⟨rfl, hm, _⟩ := ha.n
  refine Ret.post fun Q hQ => ?_
  refine Ret.enter plain mixed (spec_l8In_fn _ _ _) (by kernel_rfl) (n := 2) (by kernel_rfl) rfl ?_
  simp (maxSteps := 1000000) (disch := first | assumption | omega | (simp only [World.size_alloc, size_setRow, dw_size]; done) | (simp only [World.size_alloc, size_setRow, dw_size] <;> omega) | (simp only [List.length_set, Array.length_toList, List.length_cons, List.length_nil, List.length_append, bts_size] <;> omega) | (simp only [List.all_cons, List.all_nil, Value.oneCell', Bool.and_self, Bool.and_true]; done)) [-Option.bind_some, hp_alloc_lt, hp_alloc_eq, hp_set_ne, wrap_small, ups_ap_cons, ups_ap_nil, upd_same, upd_other, env0_ap0, env0_aps, xt_a, xt_b, xt_c, -splice_eq, -stR_cells, stR_box, stR_boxA, stR_row, stR_row0, stR_row1, stR_rowA, stR_rowA0, splice_rowv, splice_rowv0, splice_rowv1, splice_z, splice_n, splice_s, nth_rowv, nth_rowv0, nth_rowv1, rowv_len]
  have E0 : Ext w (w.alloc (.cells #[i64 t.t, i64 t.p] 42 (0, 0))) := by (repeat (first | exact Ext.rfl | assumption | (refine Ext.al ?_ _) | (refine Ext.dw ?_) | (refine Ext.set ?_ (by first | omega | (simp only [World.size_alloc, size_setRow, dw_size]; omega)) _) | (refine Ext.tr ?_ (by assumption))))
  have zE0 := E0.size
  try simp only [World.size_alloc, size_setRow, dw_size] at zE0
  exact Ret.mono (spec_l8In_n (g3 := w.heap.size) (ha.ext E0) (by first | assumption | rfl | (simp (maxSteps := 1000000) (disch := first | assumption | omega | (simp only [World.size_alloc, size_setRow, dw_size]; done) | (simp only [World.size_alloc, size_setRow, dw_size] <;> omega) | (simp only [List.length_set, Array.length_toList, List.length_cons, List.length_nil, List.length_append, bts_size] <;> omega) | (simp only [List.all_cons, List.all_nil, Value.oneCell', Bool.and_self, Bool.and_true]; done)) [-Option.bind_some, hp_alloc_lt, hp_alloc_eq, hp_set_ne, wrap_small, ups_ap_cons, ups_ap_nil, upd_same, upd_other, env0_ap0, env0_aps, xt_a, xt_b, xt_c, -splice_eq, -stR_cells, stR_box, stR_boxA, stR_row, stR_row0, stR_row1, stR_rowA, stR_rowA0, splice_rowv, splice_rowv0, splice_rowv1, splice_z, splice_n, splice_s, nth_rowv, nth_rowv0, nth_rowv1, rowv_len, E0.blk]; done)) xs.length 0 _ _ (by omega) rfl rfl rfl Ext.rfl) (fun r h => hQ r ⟨h.1, E0.tr h.2⟩)
end Go.Proofs.Ytcafhepclddcaaa.X
