/- A part of the proof: an evaluator of the model, its laws, and contracts of functions; no condition. -/
import Derived.Test.YtjagkbamkohnoaaS37
set_option linter.unusedVariables false
set_option linter.unusedSimpArgs false
set_option maxRecDepth 100000
set_option maxHeartbeats 1000000
namespace Go.Proofs.Ytjagkbamkohnoaa.X
open Go Go.Ev Go.RowKit
set_option maxHeartbeats 6000000
theorem laws_FnChainPut_n {ac ax av : Option Addr} {cc cx cv g3 g4 g5 : Nat} {S1 S2 S3 : Nat → Prop} {ns : List CNode} {v : Ver} {x : CNode} {w0 : World} (hok : chainOk ns = true) (hv : verOk v = true) (hx : ns[0]? = some x) (h6 : x.wait.length < 6)
    (ha : D Yp S1 w0 [.slice ac ns.length cc] ns) (hb : D Yp S2 w0 [.slice ax ns.length cx] (addAt ns 0 v)) (hvd : D tVer S3 w0 [i64 v.key, i64 v.tag.t, i64 v.tag.p, .slice av v.past.length cv, .string v.text, .bool v.gone] v) :
    ∀ (d k : Nat) (e : Env) (w : World), 1 ≤ k → k + d = ns.length → e 3 = pt g3 0 → e 4 = pt g4 0 → e 5 = pt g5 0 → e 9 = i64 k → hp w g3 = some (.cells #[.slice ac ns.length cc] 25 (0, 0)) → hp w g5 = some (.cells #[.slice ax ns.length cx] 25 (0, 0)) →
      hp w g4 = some (.cells #[i64 v.key, i64 v.tag.t, i64 v.tag.p, .slice av v.past.length cv, .string v.text, .bool v.gone] 32 (0, 0)) → Ext w0 w →
    Ret (laws_FnChainPut_l1 e w) fun r => r.1 = .bool true ∧ Ext w0 r.2 := by
  have hl4 := (chainOk_iff.1 hok).1
  have hla := addAt_length ns 0 v
  intro d
  induction d with
  | zero =>
    intro k e w hk1 hd e3 e4 e5 e9 X3 X5 X4 E0
    have zE0 := E0.size
    try simp only [World.size_alloc, size_setRow, Za] at zE0
    rw [laws_FnChainPut_l1_eq]
    obtain rfl : k = ns.length := by omega
    have y3 := Yq X3
    have y4 := Yq X4
    have y5 := Yq X5
    obtain ⟨y, hy, hys⟩ := put_head hok hv hx
    have hokx := chainOk_put hok hv hx h6
    obtain ⟨b1, o1, cs1, rfl, A1, D1, _, l1⟩ := (ha.ext E0).at (by decide) hx
    obtain ⟨a1, c1, a2, c2, rfl, h1, h2⟩ := D.node.1 D1
    have p0 := A1 0 _ rfl
    have p1 := A1 1 _ rfl
    simp only [LVer_n, LTag_n, Yn, Nat.add_zero] at p0 p1
    obtain ⟨b2, o2, cs2, rfl, A2, D2, _, l2⟩ := (hb.ext E0).at (by decide) hy
    obtain ⟨a3, c3, a4, c4, rfl, h3, h4⟩ := D.node.1 D2
    have q0 := A2 0 _ rfl
    have q1 := A2 1 _ rfl
    simp only [LVer_n, LTag_n, Yn, Nat.add_zero] at q0 q1
    rw [hys] at h3 q0
    have hl0 : 0 < ns.length := by omega
    refine Ret.post fun Q hQ => ?_
    simp (maxSteps := 1000000) (disch := first | assumption | omega | (simp only [World.size_alloc, size_setRow, Za] <;> omega) | (simp only [List.length_set, Array.length_toList, List.length_cons, List.length_nil, List.length_append, Zn] <;> omega) | (simp only [List.all_cons, List.all_nil, Value.oneCell', Bool.and_self, Bool.and_true]; done)) [-Option.bind_some, Zb, Zc, Zd, Zh, Ze, Zi, Zr, Zk, Zt, Zs, Yg, Yf, Yh, -Zl, -Zm, Ye, Yc, Yd, Ya, Zx, Zw, Zo, Zj, Zg, Zf, Zz, Zy, Yb, Zv, Zq, Zp, Zu, e3, e4, e5, e9, X3, X4, X5, e3, e4, e5, e9, X3, X5, X4, E0.blk, p0, p1, q0, q1]
    refine Ret.bind (impl_ChainOk_m (hb.ext (by (repeat (first | exact Ext.rfl | assumption | (refine Ext.al ?_ _) | (refine Ext.dw ?_) | (refine Ext.set ?_ (by first | omega | (simp only [World.size_alloc, size_setRow, Za]; omega)) _) | (refine Ext.tr ?_ (by assumption))))))) ?_
    rintro ⟨_, w1⟩ ⟨rfl, E1⟩
    try dsimp only at E1
    have zE1 := E1.size
    try simp only [World.size_alloc, size_setRow, Za] at zE1
    simp (maxSteps := 1000000) (disch := first | assumption | omega | (simp only [World.size_alloc, size_setRow, Za] <;> omega) | (simp only [List.length_set, Array.length_toList, List.length_cons, List.length_nil, List.length_append, Zn] <;> omega) | (simp only [List.all_cons, List.all_nil, Value.oneCell', Bool.and_self, Bool.and_true]; done)) [-Option.bind_some, Zb, Zc, Zd, Zh, Ze, Zi, Zr, Zk, Zt, Zs, Yg, Yf, Yh, -Zl, -Zm, Ye, Yc, Yd, Ya, Zx, Zw, Zo, Zj, Zg, Zf, Zz, Zy, Yb, Zv, Zq, Zp, Zu, hokx, e3, e4, e5, e9, X3, X4, X5, ia_23, hl0, e3, e4, e5, e9, X3, X5, X4, E0.blk, p0, p1, q0, q1, E1.blk]
    refine Ret.bind (impl_StoreAdd_n (h1.ext (by (repeat (first | exact Ext.rfl | assumption | (refine Ext.al ?_ _) | (refine Ext.dw ?_) | (refine Ext.set ?_ (by first | omega | (simp only [World.size_alloc, size_setRow, Za]; omega)) _) | (refine Ext.tr ?_ (by assumption)))))) (hvd.ext (by (repeat (first | exact Ext.rfl | assumption | (refine Ext.al ?_ _) | (refine Ext.dw ?_) | (refine Ext.set ?_ (by first | omega | (simp only [World.size_alloc, size_setRow, Za]; omega)) _) | (refine Ext.tr ?_ (by assumption))))))) ?_
    rintro ⟨_, w2⟩ ⟨a5, c5, rfl, o5, E2⟩
    try dsimp only at a5 c5 o5 E2
    have zE2 := E2.size
    try simp only [World.size_alloc, size_setRow, Za] at zE2
    simp (maxSteps := 1000000) (disch := first | assumption | omega | (simp only [World.size_alloc, size_setRow, Za] <;> omega) | (simp only [List.length_set, Array.length_toList, List.length_cons, List.length_nil, List.length_append, Zn] <;> omega) | (simp only [List.all_cons, List.all_nil, Value.oneCell', Bool.and_self, Bool.and_true]; done)) [-Option.bind_some, Zb, Zc, Zd, Zh, Ze, Zi, Zr, Zk, Zt, Zs, Yg, Yf, Yh, -Zl, -Zm, Ye, Yc, Yd, Ya, Zx, Zw, Zo, Zj, Zg, Zf, Zz, Zy, Yb, Zv, Zq, Zp, Zu, e3, e4, e5, e9, X3, X4, X5, ia_23, hl0, e3, e4, e5, e9, X3, X5, X4, E0.blk, p0, p1, q0, q1, E1.blk, E2.blk]
    refine Ret.bind (laws_cfStore_m (h3.ext (by (repeat (first | exact Ext.rfl | assumption | (refine Ext.al ?_ _) | (refine Ext.dw ?_) | (refine Ext.set ?_ (by first | omega | (simp only [World.size_alloc, size_setRow, Za]; omega)) _) | (refine Ext.tr ?_ (by assumption)))))) (o5.keep (by intro b hS hb; (try dsimp only at hS); (try simp only [In, World.size_alloc, size_setRow, Za] at hS hb); first | rfl | (simp (disch := first | assumption | omega | (simp only [World.size_alloc, size_setRow, Za]; omega) | (simp only [World.size_alloc, size_setRow, Za, In]; omega)) only [E0.blk, E1.blk, E2.blk, Zb, Zd, Yl]; done))).d) ?_
    rintro ⟨_, w3⟩ ⟨rfl, E3⟩
    try dsimp only at E3
    have zE3 := E3.size
    try simp only [World.size_alloc, size_setRow, Za] at zE3
    simp (maxSteps := 1000000) (disch := first | assumption | omega | (simp only [World.size_alloc, size_setRow, Za] <;> omega) | (simp only [List.length_set, Array.length_toList, List.length_cons, List.length_nil, List.length_append, Zn] <;> omega) | (simp only [List.all_cons, List.all_nil, Value.oneCell', Bool.and_self, Bool.and_true]; done)) [-Option.bind_some, Zb, Zc, Zd, Zh, Ze, Zi, Zr, Zk, Zt, Zs, Yg, Yf, Yh, -Zl, -Zm, Ye, Yc, Yd, Ya, Zx, Zw, Zo, Zj, Zg, Zf, Zz, Zy, Yb, Zv, Zq, Zp, Zu, e3, e4, e5, e9, X3, X5, X4, E0.blk, p0, p1, q0, q1, E1.blk, E2.blk, E3.blk]
    exact hQ _ ⟨rfl, by (repeat (first | exact Ext.rfl | assumption | (refine Ext.al ?_ _) | (refine Ext.dw ?_) | (refine Ext.set ?_ (by first | omega | (simp only [World.size_alloc, size_setRow, Za]; omega)) _) | (refine Ext.tr ?_ (by assumption))))⟩
  | succ d ih =>
    intro k e w hk1 hd e3 e4 e5 e9 X3 X5 X4 E0
    have zE0 := E0.size
    try simp only [World.size_alloc, size_setRow, Za] at zE0
    rw [laws_FnChainPut_l1_eq]
    have hlt : k < ns.length := by omega
    have y3 := Yq X3
    have y4 := Yq X4
    have y5 := Yq X5
    obtain ⟨z, hz, _⟩ := Ym hlt
    have hz2 : (addAt ns 0 v)[k]? = some z := by rw [put_tail (by omega)]; exact hz
    obtain ⟨b1, o1, cs1, rfl, A1, D1, _, l1⟩ := (ha.ext E0).at (by decide) hz
    obtain ⟨a1, c1, a2, c2, rfl, h1, h2⟩ := D.node.1 D1
    have p0 := A1 0 _ rfl
    have p1 := A1 1 _ rfl
    simp only [LVer_n, LTag_n, Yn, Nat.add_zero] at p0 p1
    obtain ⟨b2, o2, cs2, rfl, A2, D2, _, l2⟩ := (hb.ext E0).at (by decide) hz2
    obtain ⟨a3, c3, a4, c4, rfl, h3, h4⟩ := D.node.1 D2
    have q0 := A2 0 _ rfl
    have q1 := A2 1 _ rfl
    simp only [LVer_n, LTag_n, Yn, Nat.add_zero] at q0 q1
    refine Ret.post fun Q hQ => ?_
    simp (maxSteps := 1000000) (disch := first | assumption | omega | (simp only [World.size_alloc, size_setRow, Za] <;> omega) | (simp only [List.length_set, Array.length_toList, List.length_cons, List.length_nil, List.length_append, Zn] <;> omega) | (simp only [List.all_cons, List.all_nil, Value.oneCell', Bool.and_self, Bool.and_true]; done)) [-Option.bind_some, Zb, Zc, Zd, Zh, Ze, Zi, Zr, Zk, Zt, Zs, Yg, Yf, Yh, -Zl, -Zm, Ye, Yc, Yd, Ya, Zx, Zw, Zo, Zj, Zg, Zf, Zz, Zy, Yb, Zv, Zq, Zp, Zu, e3, e4, e5, e9, X3, X4, X5, ia_23, hlt, e3, e4, e5, e9, X3, X5, X4, E0.blk, hlt, p0, p1, q0, q1]
    refine Ret.bind (laws_cfStore_m (h3.ext (by (repeat (first | exact Ext.rfl | assumption | (refine Ext.al ?_ _) | (refine Ext.dw ?_) | (refine Ext.set ?_ (by first | omega | (simp only [World.size_alloc, size_setRow, Za]; omega)) _) | (refine Ext.tr ?_ (by assumption)))))) (h1.ext (by (repeat (first | exact Ext.rfl | assumption | (refine Ext.al ?_ _) | (refine Ext.dw ?_) | (refine Ext.set ?_ (by first | omega | (simp only [World.size_alloc, size_setRow, Za]; omega)) _) | (refine Ext.tr ?_ (by assumption))))))) ?_
    rintro ⟨_, w1⟩ ⟨rfl, E1⟩
    try dsimp only at E1
    have zE1 := E1.size
    try simp only [World.size_alloc, size_setRow, Za] at zE1
    simp (maxSteps := 1000000) (disch := first | assumption | omega | (simp only [World.size_alloc, size_setRow, Za] <;> omega) | (simp only [List.length_set, Array.length_toList, List.length_cons, List.length_nil, List.length_append, Zn] <;> omega) | (simp only [List.all_cons, List.all_nil, Value.oneCell', Bool.and_self, Bool.and_true]; done)) [-Option.bind_some, Zb, Zc, Zd, Zh, Ze, Zi, Zr, Zk, Zt, Zs, Yg, Yf, Yh, -Zl, -Zm, Ye, Yc, Yd, Ya, Zx, Zw, Zo, Zj, Zg, Zf, Zz, Zy, Yb, Zv, Zq, Zp, Zu, e3, e4, e5, e9, e3, e4, e5, e9, X3, X5, X4, E0.blk, hlt, p0, p1, q0, q1, E1.blk]
    exact Ret.mono (ih (k + 1) _ _ (by omega) (by omega) (by first | omega | assumption | rfl | exact congrArg i64 (by omega) | (simp; done) | (simp; omega)) (by first | omega | assumption | rfl | exact congrArg i64 (by omega) | (simp; done) | (simp; omega)) (by first | omega | assumption | rfl | exact congrArg i64 (by omega) | (simp; done) | (simp; omega)) (by first | omega | assumption | rfl | exact congrArg i64 (by omega) | (simp; done) | (simp; omega)) (by first | assumption | rfl | (simp (maxSteps := 1000000) (disch := first | assumption | omega | (simp only [World.size_alloc, size_setRow, Za] <;> omega) | (simp only [List.length_set, Array.length_toList, List.length_cons, List.length_nil, List.length_append, Zn] <;> omega) | (simp only [List.all_cons, List.all_nil, Value.oneCell', Bool.and_self, Bool.and_true]; done)) [-Option.bind_some, Zb, Zc, Zd, Zh, Ze, Zi, Zr, Zk, Zt, Zs, Yg, Yf, Yh, -Zl, -Zm, Ye, Yc, Yd, Ya, Zx, Zw, Zo, Zj, Zg, Zf, Zz, Zy, Yb, Zv, Zq, Zp, Zu, X3, e3, e4, e5, e9, X3, X5, X4, E0.blk, hlt, p0, p1, q0, q1, E1.blk]; done)) (by first | assumption | rfl | (simp (maxSteps := 1000000) (disch := first | assumption | omega | (simp only [World.size_alloc, size_setRow, Za] <;> omega) | (simp only [List.length_set, Array.length_toList, List.length_cons, List.length_nil, List.length_append, Zn] <;> omega) | (simp only [List.all_cons, List.all_nil, Value.oneCell', Bool.and_self, Bool.and_true]; done)) [-Option.bind_some, Zb, Zc, Zd, Zh, Ze, Zi, Zr, Zk, Zt, Zs, Yg, Yf, Yh, -Zl, -Zm, Ye, Yc, Yd, Ya, Zx, Zw, Zo, Zj, Zg, Zf, Zz, Zy, Yb, Zv, Zq, Zp, Zu, X5, e3, e4, e5, e9, X3, X5, X4, E0.blk, hlt, p0, p1, q0, q1, E1.blk]; done)) (by first | assumption | rfl | (simp (maxSteps := 1000000) (disch := first | assumption | omega | (simp only [World.size_alloc, size_setRow, Za] <;> omega) | (simp only [List.length_set, Array.length_toList, List.length_cons, List.length_nil, List.length_append, Zn] <;> omega) | (simp only [List.all_cons, List.all_nil, Value.oneCell', Bool.and_self, Bool.and_true]; done)) [-Option.bind_some, Zb, Zc, Zd, Zh, Ze, Zi, Zr, Zk, Zt, Zs, Yg, Yf, Yh, -Zl, -Zm, Ye, Yc, Yd, Ya, Zx, Zw, Zo, Zj, Zg, Zf, Zz, Zy, Yb, Zv, Zq, Zp, Zu, X4, e3, e4, e5, e9, X3, X5, X4, E0.blk, hlt, p0, p1, q0, q1, E1.blk]; done)) (by (repeat (first | exact Ext.rfl | assumption | (refine Ext.al ?_ _) | (refine Ext.dw ?_) | (refine Ext.set ?_ (by first | omega | (simp only [World.size_alloc, size_setRow, Za]; omega)) _) | (refine Ext.tr ?_ (by assumption)))))) hQ
theorem laws_FnChainPut_c {s : Value} {ns : List Int} {w : World} (hs : rBytes w s ns) : Ret (EV P 3 #[s] w) fun r => r.1 = .bool true ∧ Ext w r.2 := by
  have hs' := hs
  obtain ⟨a, c, rfl, q2, q3, q4, q5⟩ := hs
  refine Ret.post fun Q hQ => ?_
  refine Ret.enter plain Yo (laws_FnChainPut_fn _ _) (by kernel_rfl) (n := 1) (by kernel_rfl) rfl ?_
  by_cases hl : 1048576 < ns.length
  · simp (maxSteps := 1000000) (disch := first | assumption | omega | (simp only [World.size_alloc, size_setRow, Za] <;> omega) | (simp only [List.length_set, Array.length_toList, List.length_cons, List.length_nil, List.length_append, Zn] <;> omega) | (simp only [List.all_cons, List.all_nil, Value.oneCell', Bool.and_self, Bool.and_true]; done)) [-Option.bind_some, Zb, Zc, Zd, Zh, Ze, Zi, Zr, Zk, Zt, Zs, Yg, Yf, Yh, -Zl, -Zm, Ye, Yc, Yd, Ya, Zx, Zw, Zo, Zj, Zg, Zf, Zz, Zy, Yb, Zv, Zq, Zp, Zu, show (1048576 : Int) < ns.length by omega]
    exact hQ _ ⟨rfl, by (repeat (first | exact Ext.rfl | assumption | (refine Ext.al ?_ _) | (refine Ext.dw ?_) | (refine Ext.set ?_ (by first | omega | (simp only [World.size_alloc, size_setRow, Za]; omega)) _) | (refine Ext.tr ?_ (by assumption))))⟩
  simp (maxSteps := 1000000) (disch := first | assumption | omega | (simp only [World.size_alloc, size_setRow, Za] <;> omega) | (simp only [List.length_set, Array.length_toList, List.length_cons, List.length_nil, List.length_append, Zn] <;> omega) | (simp only [List.all_cons, List.all_nil, Value.oneCell', Bool.and_self, Bool.and_true]; done)) [-Option.bind_some, Zb, Zc, Zd, Zh, Ze, Zi, Zr, Zk, Zt, Zs, Yg, Yf, Yh, -Zl, -Zm, Ye, Yc, Yd, Ya, Zx, Zw, Zo, Zj, Zg, Zf, Zz, Zy, Yb, Zv, Zq, Zp, Zu, show ¬ (1048576 : Int) < ns.length by omega]
  refine Ret.bind (spec_DrawChainPut_m hs' (by omega)) ?_
  rintro ⟨_, w1⟩ ⟨xs, v, a1, c1, ds1, rfl, ha, hv, E1⟩
  have zE1 := E1.size
  try simp only [World.size_alloc, size_setRow, Za] at zE1
  try dsimp only at ha hv E1
  have zE1 := E1.size
  have zhv := D.ver.1 hv
  obtain ⟨av, cv, rfl, _, _⟩ := zhv
  simp (maxSteps := 1000000) (disch := first | assumption | omega | (simp only [World.size_alloc, size_setRow, Za] <;> omega) | (simp only [List.length_set, Array.length_toList, List.length_cons, List.length_nil, List.length_append, Zn] <;> omega) | (simp only [List.all_cons, List.all_nil, Value.oneCell', Bool.and_self, Bool.and_true]; done)) [-Option.bind_some, Zb, Zc, Zd, Zh, Ze, Zi, Zr, Zk, Zt, Zs, Yg, Yf, Yh, -Zl, -Zm, Ye, Yc, Yd, Ya, Zx, Zw, Zo, Zj, Zg, Zf, Zz, Zy, Yb, Zv, Zq, Zp, Zu, E1.blk]
  refine Ret.bind (impl_ChainPut_n (ha.ext (by (repeat (first | exact Ext.rfl | assumption | (refine Ext.al ?_ _) | (refine Ext.dw ?_) | (refine Ext.set ?_ (by first | omega | (simp only [World.size_alloc, size_setRow, Za]; omega)) _) | (refine Ext.tr ?_ (by assumption)))))) (hv.ext (by (repeat (first | exact Ext.rfl | assumption | (refine Ext.al ?_ _) | (refine Ext.dw ?_) | (refine Ext.set ?_ (by first | omega | (simp only [World.size_alloc, size_setRow, Za]; omega)) _) | (refine Ext.tr ?_ (by assumption))))))) ?_
  rintro ⟨_, w2⟩ ⟨a2, c2, rfl, o2, E2⟩
  try dsimp only at a2 c2 o2 E2
  have zE2 := E2.size
  try simp only [World.size_alloc, size_setRow, Za] at zE2
  simp (maxSteps := 1000000) (disch := first | assumption | omega | (simp only [World.size_alloc, size_setRow, Za] <;> omega) | (simp only [List.length_set, Array.length_toList, List.length_cons, List.length_nil, List.length_append, Zn] <;> omega) | (simp only [List.all_cons, List.all_nil, Value.oneCell', Bool.and_self, Bool.and_true]; done)) [-Option.bind_some, Zb, Zc, Zd, Zh, Ze, Zi, Zr, Zk, Zt, Zs, Yg, Yf, Yh, -Zl, -Zm, Ye, Yc, Yd, Ya, Zx, Zw, Zo, Zj, Zg, Zf, Zz, Zy, Yb, Zv, Zq, Zp, Zu, E1.blk, E2.blk]
  refine Ret.bind (spec_ChainPut_n (ha.ext (by (repeat (first | exact Ext.rfl | assumption | (refine Ext.al ?_ _) | (refine Ext.dw ?_) | (refine Ext.set ?_ (by first | omega | (simp only [World.size_alloc, size_setRow, Za]; omega)) _) | (refine Ext.tr ?_ (by assumption)))))) (hv.ext (by (repeat (first | exact Ext.rfl | assumption | (refine Ext.al ?_ _) | (refine Ext.dw ?_) | (refine Ext.set ?_ (by first | omega | (simp only [World.size_alloc, size_setRow, Za]; omega)) _) | (refine Ext.tr ?_ (by assumption))))))) ?_
  rintro ⟨_, w3⟩ ⟨a3, c3, rfl, o3, E3⟩
  try dsimp only at a3 c3 o3 E3
  have zE3 := E3.size
  try simp only [World.size_alloc, size_setRow, Za] at zE3
  simp (maxSteps := 1000000) (disch := first | assumption | omega | (simp only [World.size_alloc, size_setRow, Za] <;> omega) | (simp only [List.length_set, Array.length_toList, List.length_cons, List.length_nil, List.length_append, Zn] <;> omega) | (simp only [List.all_cons, List.all_nil, Value.oneCell', Bool.and_self, Bool.and_true]; done)) [-Option.bind_some, Zb, Zc, Zd, Zh, Ze, Zi, Zr, Zk, Zt, Zs, Yg, Yf, Yh, -Zl, -Zm, Ye, Yc, Yd, Ya, Zx, Zw, Zo, Zj, Zg, Zf, Zz, Zy, Yb, Zv, Zq, Zp, Zu, bne_self_eq_false, E1.blk, E2.blk, E3.blk]
  refine Ret.bind (laws_cfChain_m (o2.keep (by intro b hS hb; (try dsimp only at hS); (try simp only [In, World.size_alloc, size_setRow, Za] at hS hb); first | rfl | (simp (disch := first | assumption | omega | (simp only [World.size_alloc, size_setRow, Za]; omega) | (simp only [World.size_alloc, size_setRow, Za, In]; omega)) only [E1.blk, E2.blk, E3.blk, Zb, Zd, Yl]; done))).d (o3.keep (by intro b hS hb; (try dsimp only at hS); (try simp only [In, World.size_alloc, size_setRow, Za] at hS hb); first | rfl | (simp (disch := first | assumption | omega | (simp only [World.size_alloc, size_setRow, Za]; omega) | (simp only [World.size_alloc, size_setRow, Za, In]; omega)) only [E1.blk, E2.blk, E3.blk, Zb, Zd, Yl]; done))).d) ?_
  rintro ⟨_, w4⟩ ⟨rfl, E4⟩
  try dsimp only at E4
  have zE4 := E4.size
  try simp only [World.size_alloc, size_setRow, Za] at zE4
  simp (maxSteps := 1000000) (disch := first | assumption | omega | (simp only [World.size_alloc, size_setRow, Za] <;> omega) | (simp only [List.length_set, Array.length_toList, List.length_cons, List.length_nil, List.length_append, Zn] <;> omega) | (simp only [List.all_cons, List.all_nil, Value.oneCell', Bool.and_self, Bool.and_true]; done)) [-Option.bind_some, Zb, Zc, Zd, Zh, Ze, Zi, Zr, Zk, Zt, Zs, Yg, Yf, Yh, -Zl, -Zm, Ye, Yc, Yd, Ya, Zx, Zw, Zo, Zj, Zg, Zf, Zz, Zy, Yb, Zv, Zq, Zp, Zu, E1.blk, E2.blk, E3.blk, E4.blk]
  refine Ret.bind (impl_ChainOk_m (ha.ext (by (repeat (first | exact Ext.rfl | assumption | (refine Ext.al ?_ _) | (refine Ext.dw ?_) | (refine Ext.set ?_ (by first | omega | (simp only [World.size_alloc, size_setRow, Za]; omega)) _) | (refine Ext.tr ?_ (by assumption))))))) ?_
  rintro ⟨_, w5⟩ ⟨rfl, E5⟩
  try dsimp only at E5
  have zE5 := E5.size
  try simp only [World.size_alloc, size_setRow, Za] at zE5
  simp (maxSteps := 1000000) (disch := first | assumption | omega | (simp only [World.size_alloc, size_setRow, Za] <;> omega) | (simp only [List.length_set, Array.length_toList, List.length_cons, List.length_nil, List.length_append, Zn] <;> omega) | (simp only [List.all_cons, List.all_nil, Value.oneCell', Bool.and_self, Bool.and_true]; done)) [-Option.bind_some, Zb, Zc, Zd, Zh, Ze, Zi, Zr, Zk, Zt, Zs, Yg, Yf, Yh, -Zl, -Zm, Ye, Yc, Yd, Ya, Zx, Zw, Zo, Zj, Zg, Zf, Zz, Zy, Yb, Zv, Zq, Zp, Zu, E1.blk, E2.blk, E3.blk, E4.blk, E5.blk]
  refine Ret.bind (spec_ChainOk_m (ha.ext (by (repeat (first | exact Ext.rfl | assumption | (refine Ext.al ?_ _) | (refine Ext.dw ?_) | (refine Ext.set ?_ (by first | omega | (simp only [World.size_alloc, size_setRow, Za]; omega)) _) | (refine Ext.tr ?_ (by assumption))))))) ?_
  rintro ⟨_, w6⟩ ⟨rfl, E6⟩
  try dsimp only at E6
  have zE6 := E6.size
  try simp only [World.size_alloc, size_setRow, Za] at zE6
  cases hx : chainOk xs
  · simp (maxSteps := 1000000) (disch := first | assumption | omega | (simp only [World.size_alloc, size_setRow, Za] <;> omega) | (simp only [List.length_set, Array.length_toList, List.length_cons, List.length_nil, List.length_append, Zn] <;> omega) | (simp only [List.all_cons, List.all_nil, Value.oneCell', Bool.and_self, Bool.and_true]; done)) [-Option.bind_some, Zb, Zc, Zd, Zh, Ze, Zi, Zr, Zk, Zt, Zs, Yg, Yf, Yh, -Zl, -Zm, Ye, Yc, Yd, Ya, Zx, Zw, Zo, Zj, Zg, Zf, Zz, Zy, Yb, Zv, Zq, Zp, Zu, hx, bne_self_eq_false, E1.blk, E2.blk, E3.blk, E4.blk, E5.blk, E6.blk]
    refine Ret.bind (impl_ChainOk_m (ha.ext (by (repeat (first | exact Ext.rfl | assumption | (refine Ext.al ?_ _) | (refine Ext.dw ?_) | (refine Ext.set ?_ (by first | omega | (simp only [World.size_alloc, size_setRow, Za]; omega)) _) | (refine Ext.tr ?_ (by assumption))))))) ?_
    rintro ⟨_, w7⟩ ⟨rfl, E7⟩
    try dsimp only at E7
    have zE7 := E7.size
    try simp only [World.size_alloc, size_setRow, Za] at zE7
    simp (maxSteps := 1000000) (disch := first | assumption | omega | (simp only [World.size_alloc, size_setRow, Za] <;> omega) | (simp only [List.length_set, Array.length_toList, List.length_cons, List.length_nil, List.length_append, Zn] <;> omega) | (simp only [List.all_cons, List.all_nil, Value.oneCell', Bool.and_self, Bool.and_true]; done)) [-Option.bind_some, Zb, Zc, Zd, Zh, Ze, Zi, Zr, Zk, Zt, Zs, Yg, Yf, Yh, -Zl, -Zm, Ye, Yc, Yd, Ya, Zx, Zw, Zo, Zj, Zg, Zf, Zz, Zy, Yb, Zv, Zq, Zp, Zu, hx, beq_self_eq_true, E1.blk, E2.blk, E3.blk, E4.blk, E5.blk, E6.blk, E7.blk]
    refine Ret.bind (laws_cfChain_m (o2.keep (by intro b hS hb; (try dsimp only at hS); (try simp only [In, World.size_alloc, size_setRow, Za] at hS hb); first | rfl | (simp (disch := first | assumption | omega | (simp only [World.size_alloc, size_setRow, Za]; omega) | (simp only [World.size_alloc, size_setRow, Za, In]; omega)) only [E1.blk, E2.blk, E3.blk, E4.blk, E5.blk, E6.blk, E7.blk, Zb, Zd, Yl]; done))).d (o3.keep (by intro b hS hb; (try dsimp only at hS); (try simp only [In, World.size_alloc, size_setRow, Za] at hS hb); first | rfl | (simp (disch := first | assumption | omega | (simp only [World.size_alloc, size_setRow, Za]; omega) | (simp only [World.size_alloc, size_setRow, Za, In]; omega)) only [E1.blk, E2.blk, E3.blk, E4.blk, E5.blk, E6.blk, E7.blk, Zb, Zd, Yl]; done))).d) ?_
    rintro ⟨_, w8⟩ ⟨rfl, E8⟩
    try dsimp only at E8
    have zE8 := E8.size
    try simp only [World.size_alloc, size_setRow, Za] at zE8
    simp (maxSteps := 1000000) (disch := first | assumption | omega | (simp only [World.size_alloc, size_setRow, Za] <;> omega) | (simp only [List.length_set, Array.length_toList, List.length_cons, List.length_nil, List.length_append, Zn] <;> omega) | (simp only [List.all_cons, List.all_nil, Value.oneCell', Bool.and_self, Bool.and_true]; done)) [-Option.bind_some, Zb, Zc, Zd, Zh, Ze, Zi, Zr, Zk, Zt, Zs, Yg, Yf, Yh, -Zl, -Zm, Ye, Yc, Yd, Ya, Zx, Zw, Zo, Zj, Zg, Zf, Zz, Zy, Yb, Zv, Zq, Zp, Zu, E1.blk, E2.blk, E3.blk, E4.blk, E5.blk, E6.blk, E7.blk, E8.blk]
    refine Ret.bind (impl_ChainOk_m (ha.ext (by (repeat (first | exact Ext.rfl | assumption | (refine Ext.al ?_ _) | (refine Ext.dw ?_) | (refine Ext.set ?_ (by first | omega | (simp only [World.size_alloc, size_setRow, Za]; omega)) _) | (refine Ext.tr ?_ (by assumption))))))) ?_
    rintro ⟨_, w9⟩ ⟨rfl, E9⟩
    try dsimp only at E9
    have zE9 := E9.size
    try simp only [World.size_alloc, size_setRow, Za] at zE9
    simp (maxSteps := 1000000) (disch := first | assumption | omega | (simp only [World.size_alloc, size_setRow, Za] <;> omega) | (simp only [List.length_set, Array.length_toList, List.length_cons, List.length_nil, List.length_append, Zn] <;> omega) | (simp only [List.all_cons, List.all_nil, Value.oneCell', Bool.and_self, Bool.and_true]; done)) [-Option.bind_some, Zb, Zc, Zd, Zh, Ze, Zi, Zr, Zk, Zt, Zs, Yg, Yf, Yh, -Zl, -Zm, Ye, Yc, Yd, Ya, Zx, Zw, Zo, Zj, Zg, Zf, Zz, Zy, Yb, Zv, Zq, Zp, Zu, E1.blk, E2.blk, E3.blk, E4.blk, E5.blk, E6.blk, E7.blk, E8.blk, E9.blk]
    refine Ret.bind (spec_ChainOk_m (ha.ext (by (repeat (first | exact Ext.rfl | assumption | (refine Ext.al ?_ _) | (refine Ext.dw ?_) | (refine Ext.set ?_ (by first | omega | (simp only [World.size_alloc, size_setRow, Za]; omega)) _) | (refine Ext.tr ?_ (by assumption))))))) ?_
    rintro ⟨_, v1⟩ ⟨rfl, E10⟩
    try dsimp only at E10
    have zE10 := E10.size
    try simp only [World.size_alloc, size_setRow, Za] at zE10
    simp (maxSteps := 1000000) (disch := first | assumption | omega | (simp only [World.size_alloc, size_setRow, Za] <;> omega) | (simp only [List.length_set, Array.length_toList, List.length_cons, List.length_nil, List.length_append, Zn] <;> omega) | (simp only [List.all_cons, List.all_nil, Value.oneCell', Bool.and_self, Bool.and_true]; done)) [-Option.bind_some, Zb, Zc, Zd, Zh, Ze, Zi, Zr, Zk, Zt, Zs, Yg, Yf, Yh, -Zl, -Zm, Ye, Yc, Yd, Ya, Zx, Zw, Zo, Zj, Zg, Zf, Zz, Zy, Yb, Zv, Zq, Zp, Zu, beq_self_eq_true, E1.blk, E2.blk, E3.blk, E4.blk, E5.blk, E6.blk, E7.blk, E8.blk, E9.blk, E10.blk]
    exact hQ _ ⟨rfl, by (repeat (first | exact Ext.rfl | assumption | (refine Ext.al ?_ _) | (refine Ext.dw ?_) | (refine Ext.set ?_ (by first | omega | (simp only [World.size_alloc, size_setRow, Za]; omega)) _) | (refine Ext.tr ?_ (by assumption))))⟩
  simp (maxSteps := 1000000) (disch := first | assumption | omega | (simp only [World.size_alloc, size_setRow, Za] <;> omega) | (simp only [List.length_set, Array.length_toList, List.length_cons, List.length_nil, List.length_append, Zn] <;> omega) | (simp only [List.all_cons, List.all_nil, Value.oneCell', Bool.and_self, Bool.and_true]; done)) [-Option.bind_some, Zb, Zc, Zd, Zh, Ze, Zi, Zr, Zk, Zt, Zs, Yg, Yf, Yh, -Zl, -Zm, Ye, Yc, Yd, Ya, Zx, Zw, Zo, Zj, Zg, Zf, Zz, Zy, Yb, Zv, Zq, Zp, Zu, hx, bne_self_eq_false, E1.blk, E2.blk, E3.blk, E4.blk, E5.blk, E6.blk]
  refine Ret.bind (impl_ChainOk_m (ha.ext (by (repeat (first | exact Ext.rfl | assumption | (refine Ext.al ?_ _) | (refine Ext.dw ?_) | (refine Ext.set ?_ (by first | omega | (simp only [World.size_alloc, size_setRow, Za]; omega)) _) | (refine Ext.tr ?_ (by assumption))))))) ?_
  rintro ⟨_, w7⟩ ⟨rfl, E7⟩
  try dsimp only at E7
  have zE7 := E7.size
  try simp only [World.size_alloc, size_setRow, Za] at zE7
  simp (maxSteps := 1000000) (disch := first | assumption | omega | (simp only [World.size_alloc, size_setRow, Za] <;> omega) | (simp only [List.length_set, Array.length_toList, List.length_cons, List.length_nil, List.length_append, Zn] <;> omega) | (simp only [List.all_cons, List.all_nil, Value.oneCell', Bool.and_self, Bool.and_true]; done)) [-Option.bind_some, Zb, Zc, Zd, Zh, Ze, Zi, Zr, Zk, Zt, Zs, Yg, Yf, Yh, -Zl, -Zm, Ye, Yc, Yd, Ya, Zx, Zw, Zo, Zj, Zg, Zf, Zz, Zy, Yb, Zv, Zq, Zp, Zu, hx, E1.blk, E2.blk, E3.blk, E4.blk, E5.blk, E6.blk, E7.blk]
  refine Ret.bind (impl_VerOk_c (D.rVer (hv.ext (by (repeat (first | exact Ext.rfl | assumption | (refine Ext.al ?_ _) | (refine Ext.dw ?_) | (refine Ext.set ?_ (by first | omega | (simp only [World.size_alloc, size_setRow, Za]; omega)) _) | (refine Ext.tr ?_ (by assumption)))))))) ?_
  rintro ⟨_, v2⟩ ⟨rfl, E11⟩
  try dsimp only at E11
  have zE11 := E11.size
  try simp only [World.size_alloc, size_setRow, Za] at zE11
  cases hvo : verOk v
  · simp (maxSteps := 1000000) (disch := first | assumption | omega | (simp only [World.size_alloc, size_setRow, Za] <;> omega) | (simp only [List.length_set, Array.length_toList, List.length_cons, List.length_nil, List.length_append, Zn] <;> omega) | (simp only [List.all_cons, List.all_nil, Value.oneCell', Bool.and_self, Bool.and_true]; done)) [-Option.bind_some, Zb, Zc, Zd, Zh, Ze, Zi, Zr, Zk, Zt, Zs, Yg, Yf, Yh, -Zl, -Zm, Ye, Yc, Yd, Ya, Zx, Zw, Zo, Zj, Zg, Zf, Zz, Zy, Yb, Zv, Zq, Zp, Zu, hvo, beq_self_eq_true, E1.blk, E2.blk, E3.blk, E4.blk, E5.blk, E6.blk, E7.blk, E11.blk]
    refine Ret.bind (laws_cfChain_m (o2.keep (by intro b hS hb; (try dsimp only at hS); (try simp only [In, World.size_alloc, size_setRow, Za] at hS hb); first | rfl | (simp (disch := first | assumption | omega | (simp only [World.size_alloc, size_setRow, Za]; omega) | (simp only [World.size_alloc, size_setRow, Za, In]; omega)) only [E1.blk, E2.blk, E3.blk, E4.blk, E5.blk, E6.blk, E7.blk, E11.blk, Zb, Zd, Yl]; done))).d (o3.keep (by intro b hS hb; (try dsimp only at hS); (try simp only [In, World.size_alloc, size_setRow, Za] at hS hb); first | rfl | (simp (disch := first | assumption | omega | (simp only [World.size_alloc, size_setRow, Za]; omega) | (simp only [World.size_alloc, size_setRow, Za, In]; omega)) only [E1.blk, E2.blk, E3.blk, E4.blk, E5.blk, E6.blk, E7.blk, E11.blk, Zb, Zd, Yl]; done))).d) ?_
    rintro ⟨_, w8⟩ ⟨rfl, E8⟩
    try dsimp only at E8
    have zE8 := E8.size
    try simp only [World.size_alloc, size_setRow, Za] at zE8
    simp (maxSteps := 1000000) (disch := first | assumption | omega | (simp only [World.size_alloc, size_setRow, Za] <;> omega) | (simp only [List.length_set, Array.length_toList, List.length_cons, List.length_nil, List.length_append, Zn] <;> omega) | (simp only [List.all_cons, List.all_nil, Value.oneCell', Bool.and_self, Bool.and_true]; done)) [-Option.bind_some, Zb, Zc, Zd, Zh, Ze, Zi, Zr, Zk, Zt, Zs, Yg, Yf, Yh, -Zl, -Zm, Ye, Yc, Yd, Ya, Zx, Zw, Zo, Zj, Zg, Zf, Zz, Zy, Yb, Zv, Zq, Zp, Zu, E1.blk, E2.blk, E3.blk, E4.blk, E5.blk, E6.blk, E7.blk, E11.blk, E8.blk]
    refine Ret.bind (impl_ChainOk_m (ha.ext (by (repeat (first | exact Ext.rfl | assumption | (refine Ext.al ?_ _) | (refine Ext.dw ?_) | (refine Ext.set ?_ (by first | omega | (simp only [World.size_alloc, size_setRow, Za]; omega)) _) | (refine Ext.tr ?_ (by assumption))))))) ?_
    rintro ⟨_, w9⟩ ⟨rfl, E9⟩
    try dsimp only at E9
    have zE9 := E9.size
    try simp only [World.size_alloc, size_setRow, Za] at zE9
    simp (maxSteps := 1000000) (disch := first | assumption | omega | (simp only [World.size_alloc, size_setRow, Za] <;> omega) | (simp only [List.length_set, Array.length_toList, List.length_cons, List.length_nil, List.length_append, Zn] <;> omega) | (simp only [List.all_cons, List.all_nil, Value.oneCell', Bool.and_self, Bool.and_true]; done)) [-Option.bind_some, Zb, Zc, Zd, Zh, Ze, Zi, Zr, Zk, Zt, Zs, Yg, Yf, Yh, -Zl, -Zm, Ye, Yc, Yd, Ya, Zx, Zw, Zo, Zj, Zg, Zf, Zz, Zy, Yb, Zv, Zq, Zp, Zu, E1.blk, E2.blk, E3.blk, E4.blk, E5.blk, E6.blk, E7.blk, E11.blk, E8.blk, E9.blk]
    refine Ret.bind (spec_ChainOk_m (ha.ext (by (repeat (first | exact Ext.rfl | assumption | (refine Ext.al ?_ _) | (refine Ext.dw ?_) | (refine Ext.set ?_ (by first | omega | (simp only [World.size_alloc, size_setRow, Za]; omega)) _) | (refine Ext.tr ?_ (by assumption))))))) ?_
    rintro ⟨_, v1⟩ ⟨rfl, E10⟩
    try dsimp only at E10
    have zE10 := E10.size
    try simp only [World.size_alloc, size_setRow, Za] at zE10
    simp (maxSteps := 1000000) (disch := first | assumption | omega | (simp only [World.size_alloc, size_setRow, Za] <;> omega) | (simp only [List.length_set, Array.length_toList, List.length_cons, List.length_nil, List.length_append, Zn] <;> omega) | (simp only [List.all_cons, List.all_nil, Value.oneCell', Bool.and_self, Bool.and_true]; done)) [-Option.bind_some, Zb, Zc, Zd, Zh, Ze, Zi, Zr, Zk, Zt, Zs, Yg, Yf, Yh, -Zl, -Zm, Ye, Yc, Yd, Ya, Zx, Zw, Zo, Zj, Zg, Zf, Zz, Zy, Yb, Zv, Zq, Zp, Zu, beq_self_eq_true, E1.blk, E2.blk, E3.blk, E4.blk, E5.blk, E6.blk, E7.blk, E11.blk, E8.blk, E9.blk, E10.blk]
    exact hQ _ ⟨rfl, by (repeat (first | exact Ext.rfl | assumption | (refine Ext.al ?_ _) | (refine Ext.dw ?_) | (refine Ext.set ?_ (by first | omega | (simp only [World.size_alloc, size_setRow, Za]; omega)) _) | (refine Ext.tr ?_ (by assumption))))⟩
  obtain ⟨x, hx0, hno, hl0, hl4⟩ := chainOk_head hx
  cases hf : headFull xs
  · have e2 : chainPutP xs v = addAt xs 0 v := by simp [chainPutP, hx, hvo, hf]
    have e3 : chainPutB xs v = true := by simp [chainPutB, hx, hvo, hf]
    have h6 : x.wait.length < 6 := by
      rw [headFull, hx0] at hf
      simp only [decide_eq_false_iff_not] at hf
      omega
    have hla := addAt_length xs 0 v
    rw [e2, hla] at o2
    simp (maxSteps := 1000000) (disch := first | assumption | omega | (simp only [World.size_alloc, size_setRow, Za] <;> omega) | (simp only [List.length_set, Array.length_toList, List.length_cons, List.length_nil, List.length_append, Zn] <;> omega) | (simp only [List.all_cons, List.all_nil, Value.oneCell', Bool.and_self, Bool.and_true]; done)) [-Option.bind_some, Zb, Zc, Zd, Zh, Ze, Zi, Zr, Zk, Zt, Zs, Yg, Yf, Yh, -Zl, -Zm, Ye, Yc, Yd, Ya, Zx, Zw, Zo, Zj, Zg, Zf, Zz, Zy, Yb, Zv, Zq, Zp, Zu, hvo, e2, e3, hla, E1.blk, E2.blk, E3.blk, E4.blk, E5.blk, E6.blk, E7.blk, E11.blk, e2, e3]
    exact Ret.mono (laws_FnChainPut_n (ax := a2) (cx := c2) (g3 := w1.heap.size) (g4 := w1.heap.size + 1) (g5 := w2.heap.size) hx hvo hx0 h6 (ha.ext (w' := v2) (by (repeat (first | exact Ext.rfl | assumption | (refine Ext.al ?_ _) | (refine Ext.dw ?_) | (refine Ext.set ?_ (by first | omega | (simp only [World.size_alloc, size_setRow, Za]; omega)) _) | (refine Ext.tr ?_ (by assumption)))))) (o2.keep (by intro b hS hb; (try dsimp only at hS); (try simp only [In, World.size_alloc, size_setRow, Za] at hS hb); first | rfl | (simp (disch := first | assumption | omega | (simp only [World.size_alloc, size_setRow, Za]; omega) | (simp only [World.size_alloc, size_setRow, Za, In]; omega)) only [E1.blk, E2.blk, E3.blk, E4.blk, E5.blk, E6.blk, E7.blk, E11.blk, Zb, Zd, Yl]; done))).d (hv.ext (by (repeat (first | exact Ext.rfl | assumption | (refine Ext.al ?_ _) | (refine Ext.dw ?_) | (refine Ext.set ?_ (by first | omega | (simp only [World.size_alloc, size_setRow, Za]; omega)) _) | (refine Ext.tr ?_ (by assumption)))))) (xs.length - 1) 1 _ _ (by omega) (by omega) (by first | omega | assumption | rfl | exact congrArg i64 (by omega) | (simp; done) | (simp; omega)) (by first | omega | assumption | rfl | exact congrArg i64 (by omega) | (simp; done) | (simp; omega)) (by first | omega | assumption | rfl | exact congrArg i64 (by omega) | (simp; done) | (simp; omega)) (by first | omega | assumption | rfl | exact congrArg i64 (by omega) | (simp; done) | (simp; omega)) (by first | assumption | rfl | (simp (maxSteps := 1000000) (disch := first | assumption | omega | (simp only [World.size_alloc, size_setRow, Za] <;> omega) | (simp only [List.length_set, Array.length_toList, List.length_cons, List.length_nil, List.length_append, Zn] <;> omega) | (simp only [List.all_cons, List.all_nil, Value.oneCell', Bool.and_self, Bool.and_true]; done)) [-Option.bind_some, Zb, Zc, Zd, Zh, Ze, Zi, Zr, Zk, Zt, Zs, Yg, Yf, Yh, E1.blk, E2.blk, E3.blk, E4.blk, E5.blk, E6.blk, E7.blk, E11.blk, e2, e3]; done)) (by first | assumption | rfl | (simp (maxSteps := 1000000) (disch := first | assumption | omega | (simp only [World.size_alloc, size_setRow, Za] <;> omega) | (simp only [List.length_set, Array.length_toList, List.length_cons, List.length_nil, List.length_append, Zn] <;> omega) | (simp only [List.all_cons, List.all_nil, Value.oneCell', Bool.and_self, Bool.and_true]; done)) [-Option.bind_some, Zb, Zc, Zd, Zh, Ze, Zi, Zr, Zk, Zt, Zs, Yg, Yf, Yh, e2, hla, E1.blk, E2.blk, E3.blk, E4.blk, E5.blk, E6.blk, E7.blk, E11.blk, e2, e3]; done)) (by first | assumption | rfl | (simp (maxSteps := 1000000) (disch := first | assumption | omega | (simp only [World.size_alloc, size_setRow, Za] <;> omega) | (simp only [List.length_set, Array.length_toList, List.length_cons, List.length_nil, List.length_append, Zn] <;> omega) | (simp only [List.all_cons, List.all_nil, Value.oneCell', Bool.and_self, Bool.and_true]; done)) [-Option.bind_some, Zb, Zc, Zd, Zh, Ze, Zi, Zr, Zk, Zt, Zs, Yg, Yf, Yh, E1.blk, E2.blk, E3.blk, E4.blk, E5.blk, E6.blk, E7.blk, E11.blk, e2, e3]; done)) (by (repeat (first | exact Ext.rfl | assumption | (refine Ext.al ?_ _) | (refine Ext.dw ?_) | (refine Ext.set ?_ (by first | omega | (simp only [World.size_alloc, size_setRow, Za]; omega)) _) | (refine Ext.tr ?_ (by assumption)))))) (fun r h => hQ r ⟨h.1, by have hh := h.2; (repeat (first | exact Ext.rfl | assumption | (refine Ext.al ?_ _) | (refine Ext.dw ?_) | (refine Ext.set ?_ (by first | omega | (simp only [World.size_alloc, size_setRow, Za]; omega)) _) | (refine Ext.tr ?_ (by assumption))))⟩)
  · have e2 : chainPutP xs v = xs := by simp [chainPutP, hx, hvo, hf]
    have e3 : chainPutB xs v = false := by simp [chainPutB, hx, hvo, hf]
    rw [e2] at o2
    simp (maxSteps := 1000000) (disch := first | assumption | omega | (simp only [World.size_alloc, size_setRow, Za] <;> omega) | (simp only [List.length_set, Array.length_toList, List.length_cons, List.length_nil, List.length_append, Zn] <;> omega) | (simp only [List.all_cons, List.all_nil, Value.oneCell', Bool.and_self, Bool.and_true]; done)) [-Option.bind_some, Zb, Zc, Zd, Zh, Ze, Zi, Zr, Zk, Zt, Zs, Yg, Yf, Yh, -Zl, -Zm, Ye, Yc, Yd, Ya, Zx, Zw, Zo, Zj, Zg, Zf, Zz, Zy, Yb, Zv, Zq, Zp, Zu, hvo, e2, e3, E1.blk, E2.blk, E3.blk, E4.blk, E5.blk, E6.blk, E7.blk, E11.blk, e2, e3]
    refine Ret.bind (laws_cfChain_m (o2.keep (by intro b hS hb; (try dsimp only at hS); (try simp only [In, World.size_alloc, size_setRow, Za] at hS hb); first | rfl | (simp (disch := first | assumption | omega | (simp only [World.size_alloc, size_setRow, Za]; omega) | (simp only [World.size_alloc, size_setRow, Za, In]; omega)) only [E1.blk, E2.blk, E3.blk, E4.blk, E5.blk, E6.blk, E7.blk, E11.blk, Zb, Zd, Yl]; done))).d (ha.ext (by (repeat (first | exact Ext.rfl | assumption | (refine Ext.al ?_ _) | (refine Ext.dw ?_) | (refine Ext.set ?_ (by first | omega | (simp only [World.size_alloc, size_setRow, Za]; omega)) _) | (refine Ext.tr ?_ (by assumption))))))) ?_
    rintro ⟨_, w8⟩ ⟨rfl, E8⟩
    try dsimp only at E8
    have zE8 := E8.size
    try simp only [World.size_alloc, size_setRow, Za] at zE8
    simp (maxSteps := 1000000) (disch := first | assumption | omega | (simp only [World.size_alloc, size_setRow, Za] <;> omega) | (simp only [List.length_set, Array.length_toList, List.length_cons, List.length_nil, List.length_append, Zn] <;> omega) | (simp only [List.all_cons, List.all_nil, Value.oneCell', Bool.and_self, Bool.and_true]; done)) [-Option.bind_some, Zb, Zc, Zd, Zh, Ze, Zi, Zr, Zk, Zt, Zs, Yg, Yf, Yh, -Zl, -Zm, Ye, Yc, Yd, Ya, Zx, Zw, Zo, Zj, Zg, Zf, Zz, Zy, Yb, Zv, Zq, Zp, Zu, E1.blk, E2.blk, E3.blk, E4.blk, E5.blk, E6.blk, E7.blk, E11.blk, e2, e3, E8.blk]
    exact hQ _ ⟨rfl, by (repeat (first | exact Ext.rfl | assumption | (refine Ext.al ?_ _) | (refine Ext.dw ?_) | (refine Ext.set ?_ (by first | omega | (simp only [World.size_alloc, size_setRow, Za]; omega)) _) | (refine Ext.tr ?_ (by assumption))))⟩
end Go.Proofs.Ytjagkbamkohnoaa.X
