/- A part of the proof: an evaluator of the model, its laws, and contracts of functions; no condition. -/
import Derived.Test.YtjagkbamkohnoaaGreatS37
set_option linter.unusedVariables false
set_option linter.unusedSimpArgs false
set_option maxRecDepth 100000
set_option maxHeartbeats 1000000
namespace Go.Proofs.YtjagkbamkohnoaaGreat.X
open Go Go.Ev Go.RowKit
set_option maxHeartbeats 6000000
theorem under_of : ∀ (p q : List Tag), (∀ (i : Nat) (a b : Tag), p[i]? = some a → q[i]? = some b → tagLess b a = false) → under p q = true
  | [], _, _ => by simp [under]
  | _ :: _, [], _ => by simp [under]
  | a :: p, b :: q, h => by
    simp only [under, Bool.and_eq_true, Bool.not_eq_true']
    exact ⟨h 0 a b rfl rfl, under_of p q fun i x y hx hy => h (i + 1) x y (by simpa using hx) (by simpa using hy)⟩
theorem under_refl (p : List Tag) : under p p = true := under_of p p fun i a b ha hb => by
  rw [ha] at hb
  obtain rfl := Option.some.inj hb
  exact less_self a
theorem under_set {st : List Ver} {v u : Ver} (hu : st[v.key.toNat]? = some u) (hl : tagLess u.tag v.tag = true) : under (tagsOf st) (tagsOf (st.set v.key.toNat v)) = true := by
  refine under_of _ _ fun i a b ha hb => ?_
  simp only [tagsOf, List.getElem?_map] at ha hb
  by_cases hi : i = v.key.toNat
  · subst hi
    have hlt := (List.getElem?_eq_some_iff.1 hu).1
    rw [hu] at ha
    rw [List.getElem?_set_self hlt] at hb
    simp only [Option.map_some, Option.some.injEq] at ha hb
    subst ha hb
    exact less_asym hl
  · rw [List.getElem?_set_ne (by omega)] at hb
    rw [ha] at hb
    obtain rfl := Option.some.inj hb
    exact less_self a
/-- All that the law asks of passing on. -/
theorem pass_law {ns : List CNode} {k : Nat} {x y h0 : CNode} {v : Ver} {l : List Ver} (h : chainOk ns = true) (hx : ns[k]? = some x) (hy : ns[k + 1]? = some y) (hw : x.wait = v :: l) (h6 : y.wait.length < 6) (hh : ns[0]? = some h0) :
    ∃ x' y' h', (passAt ns k)[k]? = some x' ∧ x'.wait = l ∧ (passAt ns k)[k + 1]? = some y' ∧ y'.store = storeAddP y.store v ∧ (passAt ns k)[0]? = some h' ∧ h'.store = h0.store ∧ (passAt ns k).length = ns.length ∧
      pastOk (chainStableP ns) = true ∧ pastOk (chainStableP (passAt ns k)) = true ∧ under (chainStableP ns) (chainStableP (passAt ns k)) = true := by
  have hp := chainOk_pass h hx hy hw h6
  obtain ⟨u, hu, hl, hv, e⟩ := pass_eq h hx hy hw
  have hkl : k + 1 < ns.length := (List.getElem?_eq_some_iff.1 hy).1
  have hyo := nodeOk_iff.1 ((chainOk_iff.1 h).2.1 y (List.mem_of_getElem? hy))
  have hlen : (passAt ns k).length = ns.length := by rw [e, List.length_set, List.length_set]
  have hsa : storeAddP y.store v = y.store.set v.key.toNat v := by
    have : storeAddP y.store v = storeAdd y.store v := by simp [storeAddP, hyo.1, hv]
    rw [this, storeAdd_t hu hl]
  obtain ⟨z, hz, _⟩ := Yk (l := ns) (k := ns.length - 1) (by omega)
  have hls : chainStableP ns = tagsOf z.store := by rw [chainStableP, h, if_pos rfl, lastStore, hz]
  have hzo := nodeOk_iff.1 ((chainOk_iff.1 h).2.1 z (List.mem_of_getElem? hz))
  have hs2 : ∃ s2, chainStableP (passAt ns k) = tagsOf s2 ∧ storeOk s2 = true ∧ under (tagsOf z.store) (tagsOf s2) = true := by
    by_cases hlast : ns.length - 1 = k + 1
    · have hzy : z = y := by rw [hlast, hy] at hz; exact (Option.some.inj hz).symm
      subst hzy
      refine ⟨z.store.set v.key.toNat v, ?_, set_ok hzo.1 hv hu hl, under_set hu hl⟩
      rw [chainStableP, hp, if_pos rfl, lastStore, hlen, hlast, e, List.getElem?_set_self (by rw [List.length_set]; omega)]
      rfl
    · obtain ⟨z', hz', hzs⟩ : ∃ z', (passAt ns k)[ns.length - 1]? = some z' ∧ z'.store = z.store := by
        rw [e, List.getElem?_set_ne (by omega), List.getElem?_set_ne (by omega)]
        exact ⟨z, hz, rfl⟩
      refine ⟨z.store, ?_, hzo.1, under_refl _⟩
      rw [chainStableP, hp, if_pos rfl, lastStore, hlen, hz', ← hzs]
  obtain ⟨s2, g1, g2, g3⟩ := hs2
  have hh' : ∃ h', (passAt ns k)[0]? = some h' ∧ h'.store = h0.store := by
    rw [e, List.getElem?_set_ne (by omega)]
    by_cases hk0 : k = 0
    · subst hk0
      rw [List.getElem?_set_self (by omega)]
      refine ⟨_, rfl, ?_⟩
      rw [hx] at hh
      obtain rfl := Option.some.inj hh
      rfl
    · rw [List.getElem?_set_ne (by omega)]
      exact ⟨h0, hh, rfl⟩
  obtain ⟨h', hh1, hh2⟩ := hh'
  refine ⟨⟨x.store, l⟩, addNode y v (decide (ns.length ≤ k + 2)), h', ?_, rfl, ?_, ?_, hh1, hh2, hlen, ?_, ?_, ?_⟩
  · rw [e, List.getElem?_set_ne (by omega), List.getElem?_set_self (by omega)]
  · rw [e, List.getElem?_set_self (by rw [List.length_set]; omega)]
  · rw [hsa]; rfl
  · rw [hls]; exact tags_ok hzo.1
  · rw [g1]; exact tags_ok g2
  · rw [hls, g1]; exact g3
theorem laws_FnChainPass_c {s : Value} {ns : List Int} {w : World} (hs : rBytes w s ns) : Ret (EV P 3 #[s] w) fun r => r.1 = .bool true ∧ Ext w r.2 := by
  have hs' := hs
  obtain ⟨a, c, rfl, q2, q3, q4, q5⟩ := hs
  refine Ret.post fun Q hQ => ?_
  refine Ret.enter plain Yo (laws_FnChainPass_fn _ _) (by kernel_rfl) (n := 1) (by kernel_rfl) rfl ?_
  by_cases hl : 1048576 < ns.length
  · simp (maxSteps := 1000000) (disch := first | assumption | omega | (simp only [World.size_alloc, size_setRow, Za] <;> omega) | (simp only [List.length_set, Array.length_toList, List.length_cons, List.length_nil, List.length_append, Zn] <;> omega) | (simp only [List.all_cons, List.all_nil, Value.oneCell', Bool.and_self, Bool.and_true]; done)) [-Option.bind_some, Zb, Zc, Zd, Zh, Ze, Zi, Zt, Zk, Zr, Zs, Yg, Yf, Yh, -Zl, -Zm, Ye, Ya, Yd, Zx, Zz, Zw, Zq, Zj, Zf, Zg, Zy, Yb, Yc, Zv, Zp, Zo, Zu, show (1048576 : Int) < ns.length by omega]
    exact hQ _ ⟨rfl, by (repeat (first | exact Ext.rfl | assumption | (refine Ext.al ?_ _) | (refine Ext.dw ?_) | (refine Ext.set ?_ (by first | omega | (simp only [World.size_alloc, size_setRow, Za]; omega)) _) | (refine Ext.tr ?_ (by assumption))))⟩
  simp (maxSteps := 1000000) (disch := first | assumption | omega | (simp only [World.size_alloc, size_setRow, Za] <;> omega) | (simp only [List.length_set, Array.length_toList, List.length_cons, List.length_nil, List.length_append, Zn] <;> omega) | (simp only [List.all_cons, List.all_nil, Value.oneCell', Bool.and_self, Bool.and_true]; done)) [-Option.bind_some, Zb, Zc, Zd, Zh, Ze, Zi, Zt, Zk, Zr, Zs, Yg, Yf, Yh, -Zl, -Zm, Ye, Ya, Yd, Zx, Zz, Zw, Zq, Zj, Zf, Zg, Zy, Yb, Yc, Zv, Zp, Zo, Zu, show ¬ (1048576 : Int) < ns.length by omega]
  refine Ret.bind (spec_DrawChainPass_m hs' (by omega)) ?_
  rintro ⟨_, w1⟩ ⟨xs, i, a1, c1, rfl, ha, E1⟩
  have zE1 := E1.size
  try simp only [World.size_alloc, size_setRow, Za] at zE1
  try dsimp only at ha E1
  have zE1 := E1.size
  simp (maxSteps := 1000000) (disch := first | assumption | omega | (simp only [World.size_alloc, size_setRow, Za] <;> omega) | (simp only [List.length_set, Array.length_toList, List.length_cons, List.length_nil, List.length_append, Zn] <;> omega) | (simp only [List.all_cons, List.all_nil, Value.oneCell', Bool.and_self, Bool.and_true]; done)) [-Option.bind_some, Zb, Zc, Zd, Zh, Ze, Zi, Zt, Zk, Zr, Zs, Yg, Yf, Yh, -Zl, -Zm, Ye, Ya, Yd, Zx, Zz, Zw, Zq, Zj, Zf, Zg, Zy, Yb, Yc, Zv, Zp, Zo, Zu, E1.blk]
  refine Ret.bind (impl_ChainPass_n (i := i) (ha.ext (by (repeat (first | exact Ext.rfl | assumption | (refine Ext.al ?_ _) | (refine Ext.dw ?_) | (refine Ext.set ?_ (by first | omega | (simp only [World.size_alloc, size_setRow, Za]; omega)) _) | (refine Ext.tr ?_ (by assumption))))))) ?_
  rintro ⟨_, w2⟩ ⟨a2, c2, rfl, o2, E2⟩
  try dsimp only at a2 c2 o2 E2
  have zE2 := E2.size
  try simp only [World.size_alloc, size_setRow, Za] at zE2
  simp (maxSteps := 1000000) (disch := first | assumption | omega | (simp only [World.size_alloc, size_setRow, Za] <;> omega) | (simp only [List.length_set, Array.length_toList, List.length_cons, List.length_nil, List.length_append, Zn] <;> omega) | (simp only [List.all_cons, List.all_nil, Value.oneCell', Bool.and_self, Bool.and_true]; done)) [-Option.bind_some, Zb, Zc, Zd, Zh, Ze, Zi, Zt, Zk, Zr, Zs, Yg, Yf, Yh, -Zl, -Zm, Ye, Ya, Yd, Zx, Zz, Zw, Zq, Zj, Zf, Zg, Zy, Yb, Yc, Zv, Zp, Zo, Zu, E1.blk, E2.blk]
  refine Ret.bind (spec_ChainPass_n (i := i) (ha.ext (by (repeat (first | exact Ext.rfl | assumption | (refine Ext.al ?_ _) | (refine Ext.dw ?_) | (refine Ext.set ?_ (by first | omega | (simp only [World.size_alloc, size_setRow, Za]; omega)) _) | (refine Ext.tr ?_ (by assumption))))))) ?_
  rintro ⟨_, w3⟩ ⟨a3, c3, rfl, o3, E3⟩
  try dsimp only at a3 c3 o3 E3
  have zE3 := E3.size
  try simp only [World.size_alloc, size_setRow, Za] at zE3
  simp (maxSteps := 1000000) (disch := first | assumption | omega | (simp only [World.size_alloc, size_setRow, Za] <;> omega) | (simp only [List.length_set, Array.length_toList, List.length_cons, List.length_nil, List.length_append, Zn] <;> omega) | (simp only [List.all_cons, List.all_nil, Value.oneCell', Bool.and_self, Bool.and_true]; done)) [-Option.bind_some, Zb, Zc, Zd, Zh, Ze, Zi, Zt, Zk, Zr, Zs, Yg, Yf, Yh, -Zl, -Zm, Ye, Ya, Yd, Zx, Zz, Zw, Zq, Zj, Zf, Zg, Zy, Yb, Yc, Zv, Zp, Zo, Zu, bne_self_eq_false, E1.blk, E2.blk, E3.blk]
  refine Ret.bind (laws_cfChain_m (o2.keep (by intro b hS hb; (try dsimp only at hS); (try simp only [In, World.size_alloc, size_setRow, Za] at hS hb); first | rfl | (simp (disch := first | assumption | omega | (simp only [World.size_alloc, size_setRow, Za]; omega) | (simp only [World.size_alloc, size_setRow, Za, In]; omega)) only [E1.blk, E2.blk, E3.blk, Zb, Zd, Ym]; done))).d (o3.keep (by intro b hS hb; (try dsimp only at hS); (try simp only [In, World.size_alloc, size_setRow, Za] at hS hb); first | rfl | (simp (disch := first | assumption | omega | (simp only [World.size_alloc, size_setRow, Za]; omega) | (simp only [World.size_alloc, size_setRow, Za, In]; omega)) only [E1.blk, E2.blk, E3.blk, Zb, Zd, Ym]; done))).d) ?_
  rintro ⟨_, w4⟩ ⟨rfl, E4⟩
  try dsimp only at E4
  have zE4 := E4.size
  try simp only [World.size_alloc, size_setRow, Za] at zE4
  simp (maxSteps := 1000000) (disch := first | assumption | omega | (simp only [World.size_alloc, size_setRow, Za] <;> omega) | (simp only [List.length_set, Array.length_toList, List.length_cons, List.length_nil, List.length_append, Zn] <;> omega) | (simp only [List.all_cons, List.all_nil, Value.oneCell', Bool.and_self, Bool.and_true]; done)) [-Option.bind_some, Zb, Zc, Zd, Zh, Ze, Zi, Zt, Zk, Zr, Zs, Yg, Yf, Yh, -Zl, -Zm, Ye, Ya, Yd, Zx, Zz, Zw, Zq, Zj, Zf, Zg, Zy, Yb, Yc, Zv, Zp, Zo, Zu, E1.blk, E2.blk, E3.blk, E4.blk]
  refine Ret.bind (impl_ChainOk_m (ha.ext (by (repeat (first | exact Ext.rfl | assumption | (refine Ext.al ?_ _) | (refine Ext.dw ?_) | (refine Ext.set ?_ (by first | omega | (simp only [World.size_alloc, size_setRow, Za]; omega)) _) | (refine Ext.tr ?_ (by assumption))))))) ?_
  rintro ⟨_, w5⟩ ⟨rfl, E5⟩
  try dsimp only at E5
  have zE5 := E5.size
  try simp only [World.size_alloc, size_setRow, Za] at zE5
  cases hx : chainOk xs
  · simp (maxSteps := 1000000) (disch := first | assumption | omega | (simp only [World.size_alloc, size_setRow, Za] <;> omega) | (simp only [List.length_set, Array.length_toList, List.length_cons, List.length_nil, List.length_append, Zn] <;> omega) | (simp only [List.all_cons, List.all_nil, Value.oneCell', Bool.and_self, Bool.and_true]; done)) [-Option.bind_some, Zb, Zc, Zd, Zh, Ze, Zi, Zt, Zk, Zr, Zs, Yg, Yf, Yh, -Zl, -Zm, Ye, Ya, Yd, Zx, Zz, Zw, Zq, Zj, Zf, Zg, Zy, Yb, Yc, Zv, Zp, Zo, Zu, hx, beq_self_eq_true, E1.blk, E2.blk, E3.blk, E4.blk, E5.blk]
    refine Ret.bind (laws_cfChain_m (o2.keep (by intro b hS hb; (try dsimp only at hS); (try simp only [In, World.size_alloc, size_setRow, Za] at hS hb); first | rfl | (simp (disch := first | assumption | omega | (simp only [World.size_alloc, size_setRow, Za]; omega) | (simp only [World.size_alloc, size_setRow, Za, In]; omega)) only [E1.blk, E2.blk, E3.blk, E4.blk, E5.blk, Zb, Zd, Ym]; done))).d (o3.keep (by intro b hS hb; (try dsimp only at hS); (try simp only [In, World.size_alloc, size_setRow, Za] at hS hb); first | rfl | (simp (disch := first | assumption | omega | (simp only [World.size_alloc, size_setRow, Za]; omega) | (simp only [World.size_alloc, size_setRow, Za, In]; omega)) only [E1.blk, E2.blk, E3.blk, E4.blk, E5.blk, Zb, Zd, Ym]; done))).d) ?_
    rintro ⟨_, w8⟩ ⟨rfl, E8⟩
    try dsimp only at E8
    have zE8 := E8.size
    try simp only [World.size_alloc, size_setRow, Za] at zE8
    simp (maxSteps := 1000000) (disch := first | assumption | omega | (simp only [World.size_alloc, size_setRow, Za] <;> omega) | (simp only [List.length_set, Array.length_toList, List.length_cons, List.length_nil, List.length_append, Zn] <;> omega) | (simp only [List.all_cons, List.all_nil, Value.oneCell', Bool.and_self, Bool.and_true]; done)) [-Option.bind_some, Zb, Zc, Zd, Zh, Ze, Zi, Zt, Zk, Zr, Zs, Yg, Yf, Yh, -Zl, -Zm, Ye, Ya, Yd, Zx, Zz, Zw, Zq, Zj, Zf, Zg, Zy, Yb, Yc, Zv, Zp, Zo, Zu, E1.blk, E2.blk, E3.blk, E4.blk, E5.blk, E8.blk]
    exact hQ _ ⟨rfl, by (repeat (first | exact Ext.rfl | assumption | (refine Ext.al ?_ _) | (refine Ext.dw ?_) | (refine Ext.set ?_ (by first | omega | (simp only [World.size_alloc, size_setRow, Za]; omega)) _) | (refine Ext.tr ?_ (by assumption))))⟩
  obtain ⟨h0, hh0, hno, hl0, hl4⟩ := chainOk_head hx
  have eb : chainPassB xs i = canPass xs i := by simp [chainPassB, hx]
  cases hc : canPass xs i
  · have ep : chainPassP xs i = xs := by simp [chainPassP, hx, passP, hc]
    rw [hc] at eb
    rw [ep] at o2
    simp (maxSteps := 1000000) (disch := first | assumption | omega | (simp only [World.size_alloc, size_setRow, Za] <;> omega) | (simp only [List.length_set, Array.length_toList, List.length_cons, List.length_nil, List.length_append, Zn] <;> omega) | (simp only [List.all_cons, List.all_nil, Value.oneCell', Bool.and_self, Bool.and_true]; done)) [-Option.bind_some, Zb, Zc, Zd, Zh, Ze, Zi, Zt, Zk, Zr, Zs, Yg, Yf, Yh, -Zl, -Zm, Ye, Ya, Yd, Zx, Zz, Zw, Zq, Zj, Zf, Zg, Zy, Yb, Yc, Zv, Zp, Zo, Zu, hx, eb, ep, E1.blk, E2.blk, E3.blk, E4.blk, E5.blk]
    refine Ret.bind (laws_cfChain_m (o2.keep (by intro b hS hb; (try dsimp only at hS); (try simp only [In, World.size_alloc, size_setRow, Za] at hS hb); first | rfl | (simp (disch := first | assumption | omega | (simp only [World.size_alloc, size_setRow, Za]; omega) | (simp only [World.size_alloc, size_setRow, Za, In]; omega)) only [E1.blk, E2.blk, E3.blk, E4.blk, E5.blk, Zb, Zd, Ym]; done))).d (ha.ext (by (repeat (first | exact Ext.rfl | assumption | (refine Ext.al ?_ _) | (refine Ext.dw ?_) | (refine Ext.set ?_ (by first | omega | (simp only [World.size_alloc, size_setRow, Za]; omega)) _) | (refine Ext.tr ?_ (by assumption))))))) ?_
    rintro ⟨_, w8⟩ ⟨rfl, E8⟩
    try dsimp only at E8
    have zE8 := E8.size
    try simp only [World.size_alloc, size_setRow, Za] at zE8
    simp (maxSteps := 1000000) (disch := first | assumption | omega | (simp only [World.size_alloc, size_setRow, Za] <;> omega) | (simp only [List.length_set, Array.length_toList, List.length_cons, List.length_nil, List.length_append, Zn] <;> omega) | (simp only [List.all_cons, List.all_nil, Value.oneCell', Bool.and_self, Bool.and_true]; done)) [-Option.bind_some, Zb, Zc, Zd, Zh, Ze, Zi, Zt, Zk, Zr, Zs, Yg, Yf, Yh, -Zl, -Zm, Ye, Ya, Yd, Zx, Zz, Zw, Zq, Zj, Zf, Zg, Zy, Yb, Yc, Zv, Zp, Zo, Zu, E1.blk, E2.blk, E3.blk, E4.blk, E5.blk, E8.blk]
    exact hQ _ ⟨rfl, by (repeat (first | exact Ext.rfl | assumption | (refine Ext.al ?_ _) | (refine Ext.dw ?_) | (refine Ext.set ?_ (by first | omega | (simp only [World.size_alloc, size_setRow, Za]; omega)) _) | (refine Ext.tr ?_ (by assumption))))⟩
  obtain ⟨k, x, y, v, l, rfl, hk, hxk, hyk, hxw, hy6⟩ := canPass_parts hc
  have ep : chainPassP xs k = passAt xs k := by simp [chainPassP, hx, passP, hc]
  rw [hc] at eb
  have hp := chainOk_pass hx hxk hyk hxw hy6
  obtain ⟨x', y', h', g1, g2, g3, g4, g5, g6, g7, g8, g9, g10⟩ := pass_law hx hxk hyk hxw hy6 hh0
  rw [ep, g7] at o2
  have hkl : k < xs.length := by omega
  have hxw0 : x.wait[0]? = some v := by rw [hxw]; rfl
  have hlw : x.wait.length = l.length + 1 := by rw [hxw]; rfl
  have hd2 := o2.d.lt
  have hl6 : l.length ≤ 6 := by have := (nodeOk_iff.1 ((chainOk_iff.1 hx).2.1 x (List.mem_of_getElem? hxk))).2.1; omega
  obtain ⟨b1, o1, cs1, rfl, A1, D1, _, l1⟩ := ha.lt.at (by decide) hxk
  obtain ⟨z1, z2, z3, z4, rfl, d1, d2⟩ := D.node.1 D1
  have ka0 := A1 0 _ rfl
  have ka1 := A1 1 _ rfl
  simp only [LVer_n, LTag_n, Yn, Nat.add_zero] at ka0 ka1
  obtain ⟨b2, o5, cs2, hb2, A2, D2, _, l2⟩ := ha.lt.at (by decide) hyk
  obtain ⟨z5, z6, z7, z8, rfl, d3, d4⟩ := D.node.1 D2
  have kb0 := A2 0 _ rfl
  have kb1 := A2 1 _ rfl
  simp only [LVer_n, LTag_n, Yn, Nat.add_zero] at kb0 kb1
  simp only [Option.some.injEq, Addr.mk.injEq, and_true] at hb2
  obtain ⟨rfl, rfl⟩ := hb2
  obtain ⟨b3, o6, cs3, hb3, A3, D3, _, l3⟩ := ha.lt.at (by decide) hh0
  obtain ⟨z9, y1, y2, y3, rfl, d5, d6⟩ := D.node.1 D3
  have kc0 := A3 0 _ rfl
  have kc1 := A3 1 _ rfl
  simp only [LVer_n, LTag_n, Yn, Nat.add_zero] at kc0 kc1
  simp only [Option.some.injEq, Addr.mk.injEq, and_true] at hb3
  obtain ⟨rfl, rfl⟩ := hb3
  obtain ⟨b4, o7, cs4, rfl, A4, D4, _, l4⟩ := hd2.at (by decide) g1
  obtain ⟨t1, t2, t3, t4, rfl, d7, d8⟩ := D.node.1 D4
  have pa0 := A4 0 _ rfl
  have pa1 := A4 1 _ rfl
  simp only [LVer_n, LTag_n, Yn, Nat.add_zero] at pa0 pa1
  obtain ⟨b5, o8, cs5, hb5, A5, D5, _, l5⟩ := hd2.at (by decide) g3
  obtain ⟨t5, t6, t7, t8, rfl, d9, d10⟩ := D.node.1 D5
  have pb0 := A5 0 _ rfl
  have pb1 := A5 1 _ rfl
  simp only [LVer_n, LTag_n, Yn, Nat.add_zero] at pb0 pb1
  simp only [Option.some.injEq, Addr.mk.injEq, and_true] at hb5
  obtain ⟨rfl, rfl⟩ := hb5
  obtain ⟨b6, o9, cs6, hb6, A6, D6, _, l6⟩ := hd2.at (by decide) g5
  obtain ⟨t9, u1, u2, u3, rfl, d11, d12⟩ := D.node.1 D6
  have pc0 := A6 0 _ rfl
  have pc1 := A6 1 _ rfl
  simp only [LVer_n, LTag_n, Yn, Nat.add_zero] at pc0 pc1
  simp only [Option.some.injEq, Addr.mk.injEq, and_true] at hb6
  obtain ⟨rfl, rfl⟩ := hb6
  obtain ⟨b7, o10, cs7, rfl, A7, D7, _, l7⟩ := d2.at (by decide) hxw0
  obtain ⟨u4, u5, rfl, _, _⟩ := D.ver.1 D7
  have va0 := A7 0 _ rfl
  have va1 := A7 1 _ rfl
  have va2 := A7 2 _ rfl
  have va3 := A7 3 _ rfl
  have va4 := A7 4 _ rfl
  have va5 := A7 5 _ rfl
  simp only [LVer_n, LTag_n, Yn, Nat.add_zero] at va0 va1 va2 va3 va4 va5
  rw [g2] at d8 pa1
  rw [g4] at d9 pb0
  rw [g6] at d11 pc0
  have fa : ∀ {A B : Prop}, A → B → A := fun h _ => h
  simp (maxSteps := 1000000) (disch := first | assumption | omega | (simp only [World.size_alloc, size_setRow, Za] <;> omega) | (simp only [List.length_set, Array.length_toList, List.length_cons, List.length_nil, List.length_append, Zn] <;> omega) | (simp only [List.all_cons, List.all_nil, Value.oneCell', Bool.and_self, Bool.and_true]; done)) [-Option.bind_some, Zb, Zc, Zd, Zh, Ze, Zi, Zt, Zk, Zr, Zs, Yg, Yf, Yh, -Zl, -Zm, Ye, Ya, Yd, Zx, Zz, Zw, Zq, Zj, Zf, Zg, Zy, Yb, Yc, Zv, Zp, Zo, Zu, hx, eb, ep, g7, E1.blk, E2.blk, E3.blk, E4.blk, E5.blk, ka0, ka1, kb0, kb1, kc0, kc1, pa0, pa1, pb0, pb1, pc0, pc1, va0, va1, va2, va3, va4, va5]
  refine Ret.bind (impl_ChainOk_m (o2.keep (by intro b hS hb; (try dsimp only at hS); (try simp only [In, World.size_alloc, size_setRow, Za] at hS hb); first | rfl | (simp (disch := first | assumption | omega | (simp only [World.size_alloc, size_setRow, Za]; omega) | (simp only [World.size_alloc, size_setRow, Za, In]; omega)) only [E1.blk, E2.blk, E3.blk, E4.blk, E5.blk, Zb, Zd, Ym]; done))).d) ?_
  rintro ⟨_, w6⟩ ⟨rfl, E6⟩
  try dsimp only at E6
  have zE6 := E6.size
  try simp only [World.size_alloc, size_setRow, Za] at zE6
  simp (maxSteps := 1000000) (disch := first | assumption | omega | (simp only [World.size_alloc, size_setRow, Za] <;> omega) | (simp only [List.length_set, Array.length_toList, List.length_cons, List.length_nil, List.length_append, Zn] <;> omega) | (simp only [List.all_cons, List.all_nil, Value.oneCell', Bool.and_self, Bool.and_true]; done)) [-Option.bind_some, Zb, Zc, Zd, Zh, Ze, Zi, Zt, Zk, Zr, Zs, Yg, Yf, Yh, -Zl, -Zm, Ye, Ya, Yd, Zx, Zz, Zw, Zq, Zj, Zf, Zg, Zy, Yb, Yc, Zv, Zp, Zo, Zu, hp, ep, g7, ia_23, ia_32, hkl, hk, hl0, hlw, ka0, ka1, kb0, kc0, pa1, pb0, pc0, va0, va1, va2, va3, va4, va5, show (k : Int) + 1 < xs.length by omega, show (0 : Int) ≤ (k : Int) + 1 by omega, show ((k : Int) + 1).toNat = k + 1 by omega, beq_self_eq_true, E1.blk, E2.blk, E3.blk, E4.blk, E5.blk, ka0, ka1, kb0, kb1, kc0, kc1, pa0, pa1, pb0, pb1, pc0, pc1, va0, va1, va2, va3, va4, va5, E6.blk]
  refine Ret.bind (impl_StoreAdd_n (d3.ext (by (repeat (first | exact Ext.rfl | assumption | (refine Ext.al ?_ _) | (refine Ext.dw ?_) | (refine Ext.set ?_ (by first | omega | (simp only [World.size_alloc, size_setRow, Za]; omega)) _) | (refine Ext.tr ?_ (by assumption)))))) (D7.ext (by (repeat (first | exact Ext.rfl | assumption | (refine Ext.al ?_ _) | (refine Ext.dw ?_) | (refine Ext.set ?_ (by first | omega | (simp only [World.size_alloc, size_setRow, Za]; omega)) _) | (refine Ext.tr ?_ (by assumption))))))) ?_
  rintro ⟨_, w7⟩ ⟨a7, c7, rfl, o7', E7⟩
  try dsimp only at a7 c7 o7' E7
  have zE7 := E7.size
  try simp only [World.size_alloc, size_setRow, Za] at zE7
  simp (maxSteps := 1000000) (disch := first | assumption | omega | (simp only [World.size_alloc, size_setRow, Za] <;> omega) | (simp only [List.length_set, Array.length_toList, List.length_cons, List.length_nil, List.length_append, Zn] <;> omega) | (simp only [List.all_cons, List.all_nil, Value.oneCell', Bool.and_self, Bool.and_true]; done)) [-Option.bind_some, Zb, Zc, Zd, Zh, Ze, Zi, Zt, Zk, Zr, Zs, Yg, Yf, Yh, -Zl, -Zm, Ye, Ya, Yd, Zx, Zz, Zw, Zq, Zj, Zf, Zg, Zy, Yb, Yc, Zv, Zp, Zo, Zu, hp, ep, g7, ia_23, ia_32, hkl, hk, hl0, hlw, ka0, ka1, kb0, kc0, pa1, pb0, pc0, va0, va1, va2, va3, va4, va5, show (k : Int) + 1 < xs.length by omega, show (0 : Int) ≤ (k : Int) + 1 by omega, show ((k : Int) + 1).toNat = k + 1 by omega, beq_self_eq_true, E1.blk, E2.blk, E3.blk, E4.blk, E5.blk, ka0, ka1, kb0, kb1, kc0, kc1, pa0, pa1, pb0, pb1, pc0, pc1, va0, va1, va2, va3, va4, va5, E6.blk, E7.blk]
  refine Ret.bind (laws_cfStore_m (d9.ext (by (repeat (first | exact Ext.rfl | assumption | (refine Ext.al ?_ _) | (refine Ext.dw ?_) | (refine Ext.set ?_ (by first | omega | (simp only [World.size_alloc, size_setRow, Za]; omega)) _) | (refine Ext.tr ?_ (by assumption)))))) (o7'.keep (by intro b hS hb; (try dsimp only at hS); (try simp only [In, World.size_alloc, size_setRow, Za] at hS hb); first | rfl | (simp (disch := first | assumption | omega | (simp only [World.size_alloc, size_setRow, Za]; omega) | (simp only [World.size_alloc, size_setRow, Za, In]; omega)) only [E1.blk, E2.blk, E3.blk, E4.blk, E5.blk, E6.blk, E7.blk, Zb, Zd, Ym]; done))).d) ?_
  rintro ⟨_, w8⟩ ⟨rfl, E8⟩
  try dsimp only at E8
  have zE8 := E8.size
  try simp only [World.size_alloc, size_setRow, Za] at zE8
  simp (maxSteps := 1000000) (disch := first | assumption | omega | (simp only [World.size_alloc, size_setRow, Za] <;> omega) | (simp only [List.length_set, Array.length_toList, List.length_cons, List.length_nil, List.length_append, Zn] <;> omega) | (simp only [List.all_cons, List.all_nil, Value.oneCell', Bool.and_self, Bool.and_true]; done)) [-Option.bind_some, Zb, Zc, Zd, Zh, Ze, Zi, Zt, Zk, Zr, Zs, Yg, Yf, Yh, -Zl, -Zm, Ye, Ya, Yd, Zx, Zz, Zw, Zq, Zj, Zf, Zg, Zy, Yb, Yc, Zv, Zp, Zo, Zu, hp, ep, g7, ia_23, ia_32, hkl, hk, hl0, hlw, ka0, ka1, kb0, kc0, pa1, pb0, pc0, va0, va1, va2, va3, va4, va5, show (k : Int) + 1 < xs.length by omega, show (0 : Int) ≤ (k : Int) + 1 by omega, show ((k : Int) + 1).toNat = k + 1 by omega, beq_self_eq_true, E1.blk, E2.blk, E3.blk, E4.blk, E5.blk, ka0, ka1, kb0, kb1, kc0, kc1, pa0, pa1, pb0, pb1, pc0, pc1, va0, va1, va2, va3, va4, va5, E6.blk, E7.blk, E8.blk]
  refine Ret.bind (impl_ChainStable_n (ha.ext (by (repeat (first | exact Ext.rfl | assumption | (refine Ext.al ?_ _) | (refine Ext.dw ?_) | (refine Ext.set ?_ (by first | omega | (simp only [World.size_alloc, size_setRow, Za]; omega)) _) | (refine Ext.tr ?_ (by assumption))))))) ?_
  rintro ⟨_, w9⟩ ⟨a9, c9, rfl, o9', E9⟩
  try dsimp only at a9 c9 o9' E9
  have zE9 := E9.size
  try simp only [World.size_alloc, size_setRow, Za] at zE9
  simp (maxSteps := 1000000) (disch := first | assumption | omega | (simp only [World.size_alloc, size_setRow, Za] <;> omega) | (simp only [List.length_set, Array.length_toList, List.length_cons, List.length_nil, List.length_append, Zn] <;> omega) | (simp only [List.all_cons, List.all_nil, Value.oneCell', Bool.and_self, Bool.and_true]; done)) [-Option.bind_some, Zb, Zc, Zd, Zh, Ze, Zi, Zt, Zk, Zr, Zs, Yg, Yf, Yh, -Zl, -Zm, Ye, Ya, Yd, Zx, Zz, Zw, Zq, Zj, Zf, Zg, Zy, Yb, Yc, Zv, Zp, Zo, Zu, hp, ep, g7, ia_23, ia_32, hkl, hk, hl0, hlw, ka0, ka1, kb0, kc0, pa1, pb0, pc0, va0, va1, va2, va3, va4, va5, show (k : Int) + 1 < xs.length by omega, show (0 : Int) ≤ (k : Int) + 1 by omega, show ((k : Int) + 1).toNat = k + 1 by omega, beq_self_eq_true, E1.blk, E2.blk, E3.blk, E4.blk, E5.blk, ka0, ka1, kb0, kb1, kc0, kc1, pa0, pa1, pb0, pb1, pc0, pc1, va0, va1, va2, va3, va4, va5, E6.blk, E7.blk, E8.blk, E9.blk]
  refine Ret.bind (impl_ChainStable_n (o2.keep (by intro b hS hb; (try dsimp only at hS); (try simp only [In, World.size_alloc, size_setRow, Za] at hS hb); first | rfl | (simp (disch := first | assumption | omega | (simp only [World.size_alloc, size_setRow, Za]; omega) | (simp only [World.size_alloc, size_setRow, Za, In]; omega)) only [E1.blk, E2.blk, E3.blk, E4.blk, E5.blk, E6.blk, E7.blk, E8.blk, E9.blk, Zb, Zd, Ym]; done))).d) ?_
  rintro ⟨_, v1⟩ ⟨b9, e9, rfl, o10', E10⟩
  try dsimp only at b9 e9 o10' E10
  have zE10 := E10.size
  try simp only [World.size_alloc, size_setRow, Za] at zE10
  simp (maxSteps := 1000000) (disch := first | assumption | omega | (simp only [World.size_alloc, size_setRow, Za] <;> omega) | (simp only [List.length_set, Array.length_toList, List.length_cons, List.length_nil, List.length_append, Zn] <;> omega) | (simp only [List.all_cons, List.all_nil, Value.oneCell', Bool.and_self, Bool.and_true]; done)) [-Option.bind_some, Zb, Zc, Zd, Zh, Ze, Zi, Zt, Zk, Zr, Zs, Yg, Yf, Yh, -Zl, -Zm, Ye, Ya, Yd, Zx, Zz, Zw, Zq, Zj, Zf, Zg, Zy, Yb, Yc, Zv, Zp, Zo, Zu, hp, ep, g7, ia_23, ia_32, hkl, hk, hl0, hlw, ka0, ka1, kb0, kc0, pa1, pb0, pc0, va0, va1, va2, va3, va4, va5, show (k : Int) + 1 < xs.length by omega, show (0 : Int) ≤ (k : Int) + 1 by omega, show ((k : Int) + 1).toNat = k + 1 by omega, beq_self_eq_true, E1.blk, E2.blk, E3.blk, E4.blk, E5.blk, ka0, ka1, kb0, kb1, kc0, kc1, pa0, pa1, pb0, pb1, pc0, pc1, va0, va1, va2, va3, va4, va5, E6.blk, E7.blk, E8.blk, E9.blk, E10.blk]
  refine Ret.bind (impl_PastWithin_c (D.rTags (o9'.keep (by intro b hS hb; (try dsimp only at hS); (try simp only [In, World.size_alloc, size_setRow, Za] at hS hb); first | rfl | (simp (disch := first | assumption | omega | (simp only [World.size_alloc, size_setRow, Za]; omega) | (simp only [World.size_alloc, size_setRow, Za, In]; omega)) only [E1.blk, E2.blk, E3.blk, E4.blk, E5.blk, E6.blk, E7.blk, E8.blk, E9.blk, E10.blk, Zb, Zd, Ym]; done))).d) (D.rTags (o10'.keep (by intro b hS hb; (try dsimp only at hS); (try simp only [In, World.size_alloc, size_setRow, Za] at hS hb); first | rfl | (simp (disch := first | assumption | omega | (simp only [World.size_alloc, size_setRow, Za]; omega) | (simp only [World.size_alloc, size_setRow, Za, In]; omega)) only [E1.blk, E2.blk, E3.blk, E4.blk, E5.blk, E6.blk, E7.blk, E8.blk, E9.blk, E10.blk, Zb, Zd, Ym]; done))).d)) ?_
  rintro ⟨_, v2⟩ ⟨rfl, E11⟩
  try dsimp only at E11
  have zE11 := E11.size
  try simp only [World.size_alloc, size_setRow, Za] at zE11
  simp (maxSteps := 1000000) (disch := first | assumption | omega | (simp only [World.size_alloc, size_setRow, Za] <;> omega) | (simp only [List.length_set, Array.length_toList, List.length_cons, List.length_nil, List.length_append, Zn] <;> omega) | (simp only [List.all_cons, List.all_nil, Value.oneCell', Bool.and_self, Bool.and_true]; done)) [-Option.bind_some, Zb, Zc, Zd, Zh, Ze, Zi, Zt, Zk, Zr, Zs, Yg, Yf, Yh, -Zl, -Zm, Ye, Ya, Yd, Zx, Zz, Zw, Zq, Zj, Zf, Zg, Zy, Yb, Yc, Zv, Zp, Zo, Zu, g8, g9, g10, hp, ep, g7, ia_23, hl0, kc0, pc0, E1.blk, E2.blk, E3.blk, E4.blk, E5.blk, ka0, ka1, kb0, kb1, kc0, kc1, pa0, pa1, pb0, pb1, pc0, pc1, va0, va1, va2, va3, va4, va5, E6.blk, E7.blk, E8.blk, E9.blk, E10.blk, E11.blk]
  refine Ret.bind (laws_cfStore_m (d11.ext (by (repeat (first | exact Ext.rfl | assumption | (refine Ext.al ?_ _) | (refine Ext.dw ?_) | (refine Ext.set ?_ (by first | omega | (simp only [World.size_alloc, size_setRow, Za]; omega)) _) | (refine Ext.tr ?_ (by assumption)))))) (d5.ext (by (repeat (first | exact Ext.rfl | assumption | (refine Ext.al ?_ _) | (refine Ext.dw ?_) | (refine Ext.set ?_ (by first | omega | (simp only [World.size_alloc, size_setRow, Za]; omega)) _) | (refine Ext.tr ?_ (by assumption))))))) ?_
  rintro ⟨_, v3⟩ ⟨rfl, E12⟩
  try dsimp only at E12
  have zE12 := E12.size
  try simp only [World.size_alloc, size_setRow, Za] at zE12
  simp (maxSteps := 1000000) (disch := first | assumption | omega | (simp only [World.size_alloc, size_setRow, Za] <;> omega) | (simp only [List.length_set, Array.length_toList, List.length_cons, List.length_nil, List.length_append, Zn] <;> omega) | (simp only [List.all_cons, List.all_nil, Value.oneCell', Bool.and_self, Bool.and_true]; done)) [-Option.bind_some, Zb, Zc, Zd, Zh, Ze, Zi, Zt, Zk, Zr, Zs, Yg, Yf, Yh, -Zl, -Zm, Ye, Ya, Yd, Zx, Zz, Zw, Zq, Zj, Zf, Zg, Zy, Yb, Yc, Zv, Zp, Zo, Zu, E1.blk, E2.blk, E3.blk, E4.blk, E5.blk, ka0, ka1, kb0, kb1, kc0, kc1, pa0, pa1, pb0, pb1, pc0, pc1, va0, va1, va2, va3, va4, va5, E6.blk, E7.blk, E8.blk, E9.blk, E10.blk, E11.blk, E12.blk]
  exact hQ _ ⟨rfl, by (repeat (first | exact Ext.rfl | assumption | (refine Ext.al ?_ _) | (refine Ext.dw ?_) | (refine Ext.set ?_ (by first | omega | (simp only [World.size_alloc, size_setRow, Za]; omega)) _) | (refine Ext.tr ?_ (by assumption))))⟩
end Go.Proofs.YtjagkbamkohnoaaGreat.X
