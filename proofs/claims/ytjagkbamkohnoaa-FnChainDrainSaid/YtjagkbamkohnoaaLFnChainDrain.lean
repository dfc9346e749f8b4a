/- A part of the proof: an evaluator of the model, its laws, and contracts of functions; no condition. -/
import Derived.Test.YtjagkbamkohnoaaS37
set_option linter.unusedVariables false
set_option linter.unusedSimpArgs false
set_option maxRecDepth 100000
set_option maxHeartbeats 1000000
namespace Go.Proofs.Ytjagkbamkohnoaa.X
open Go Go.Ev Go.RowKit
theorem chainPassP_t {ns : List CNode} (h : chainOk ns = true) (i : Int) : chainPassP ns i = passP ns i := by simp [chainPassP, h]
theorem laws_FnChainDrain_n3 {a b : Option Addr} {c d g3 g9 : Nat} {S1 S2 : Nat → Prop} {ns ys : List CNode} {x : CNode} {w0 : World} (hok : chainOk ys = true) (hx : ns[0]? = some x) (hd0 : ∀ (i : Nat) (y : CNode), ys[i]? = some y → y.wait = [] ∧ y.store = x.store)
    (ha : D Ym S1 w0 [.slice a ns.length c] ns) (hb : D Ym S2 w0 [.slice b ys.length d] ys) :
    ∀ (m k : Nat) (e : Env) (w : World), k + m = ys.length → e 3 = pt g3 0 → e 9 = pt g9 0 → e 12 = i64 k → hp w g3 = some (.cells #[.slice a ns.length c] 25 (0, 0)) → hp w g9 = some (.cells #[.slice b ys.length d] 25 (0, 0)) → Ext w0 w →
    Ret (laws_FnChainDrain_l3 e w) fun r => r.1 = .bool true ∧ Ext w0 r.2 := by
  have hl4 := (chainOk_iff.1 hok).1
  have hl0 : 0 < ns.length := (List.getElem?_eq_some_iff.1 hx).1
  intro m
  induction m with
  | zero =>
    intro k e w hd e3 e9 e12 X3 X9 E0
    have zE0 := E0.size
    try simp only [World.size_alloc, size_setRow, Za] at zE0
    rw [laws_FnChainDrain_l3_eq]
    obtain rfl : k = ys.length := by omega
    have y3 := Yq X3
    have y9 := Yq X9
    refine Ret.post fun Q hQ => ?_
    simp (maxSteps := 1000000) (disch := first | assumption | omega | (simp only [World.size_alloc, size_setRow, Za] <;> omega) | (simp only [List.length_set, Array.length_toList, List.length_cons, List.length_nil, List.length_append, Zn] <;> omega) | (simp only [List.all_cons, List.all_nil, Value.oneCell', Bool.and_self, Bool.and_true]; done)) [-Option.bind_some, Zb, Zc, Zd, Zh, Ze, Zi, Zs, Zk, Zt, Zr, Yg, Yf, Yh, -Zl, -Zm, Ye, Zz, Yd, Zx, Zy, Zw, Zo, Zj, Zf, Zg, Ya, Yc, Yb, Zv, Zq, Zp, Zu, e3, e9, e12, X3, X9, e3, e9, e12, X3, X9, E0.blk]
    refine Ret.bind (impl_ChainOk_m (hb.ext (by (repeat (first | exact Ext.rfl | assumption | (refine Ext.al ?_ _) | (refine Ext.dw ?_) | (refine Ext.set ?_ (by first | omega | (simp only [World.size_alloc, size_setRow, Za]; omega)) _) | (refine Ext.tr ?_ (by assumption))))))) ?_
    rintro ⟨_, w1⟩ ⟨rfl, E1⟩
    try dsimp only at E1
    have zE1 := E1.size
    try simp only [World.size_alloc, size_setRow, Za] at zE1
    simp (maxSteps := 1000000) (disch := first | assumption | omega | (simp only [World.size_alloc, size_setRow, Za] <;> omega) | (simp only [List.length_set, Array.length_toList, List.length_cons, List.length_nil, List.length_append, Zn] <;> omega) | (simp only [List.all_cons, List.all_nil, Value.oneCell', Bool.and_self, Bool.and_true]; done)) [-Option.bind_some, Zb, Zc, Zd, Zh, Ze, Zi, Zs, Zk, Zt, Zr, Yg, Yf, Yh, -Zl, -Zm, Ye, Zz, Yd, Zx, Zy, Zw, Zo, Zj, Zf, Zg, Ya, Yc, Yb, Zv, Zq, Zp, Zu, hok, e3, e9, e12, X3, X9, E0.blk, E1.blk]
    exact hQ _ ⟨rfl, by (repeat (first | exact Ext.rfl | assumption | (refine Ext.al ?_ _) | (refine Ext.dw ?_) | (refine Ext.set ?_ (by first | omega | (simp only [World.size_alloc, size_setRow, Za]; omega)) _) | (refine Ext.tr ?_ (by assumption))))⟩
  | succ m ih =>
    intro k e w hd e3 e9 e12 X3 X9 E0
    have zE0 := E0.size
    try simp only [World.size_alloc, size_setRow, Za] at zE0
    rw [laws_FnChainDrain_l3_eq]
    have hlt : k < ys.length := by omega
    have y3 := Yq X3
    have y9 := Yq X9
    obtain ⟨y, hy, _⟩ := Yl hlt
    obtain ⟨hyw, hys⟩ := hd0 k y hy
    obtain ⟨b1, o1, cs1, rfl, A1, D1, _, l1⟩ := (ha.ext E0).at (by decide) hx
    obtain ⟨a1, c1, a2, c2, rfl, h1, h2⟩ := D.node.1 D1
    have p0 := A1 0 _ rfl
    have p1 := A1 1 _ rfl
    simp only [LVer_n, LTag_n, Yp, Nat.add_zero] at p0 p1
    obtain ⟨b2, o2, cs2, rfl, A2, D2, _, l2⟩ := (hb.ext E0).at (by decide) hy
    obtain ⟨a3, c3, a4, c4, rfl, h3, h4⟩ := D.node.1 D2
    have q0 := A2 0 _ rfl
    have q1 := A2 1 _ rfl
    simp only [LVer_n, LTag_n, Yp, Nat.add_zero] at q0 q1
    rw [hys] at h3 q0
    rw [hyw] at h4 q1
    refine Ret.post fun Q hQ => ?_
    simp (maxSteps := 1000000) (disch := first | assumption | omega | (simp only [World.size_alloc, size_setRow, Za] <;> omega) | (simp only [List.length_set, Array.length_toList, List.length_cons, List.length_nil, List.length_append, Zn] <;> omega) | (simp only [List.all_cons, List.all_nil, Value.oneCell', Bool.and_self, Bool.and_true]; done)) [-Option.bind_some, Zb, Zc, Zd, Zh, Ze, Zi, Zs, Zk, Zt, Zr, Yg, Yf, Yh, -Zl, -Zm, Ye, Zz, Yd, Zx, Zy, Zw, Zo, Zj, Zf, Zg, Ya, Yc, Yb, Zv, Zq, Zp, Zu, e3, e9, e12, X3, X9, ia_23, hlt, hl0, e3, e9, e12, X3, X9, E0.blk, hlt, p0, p1, q0, q1]
    refine Ret.bind (laws_cfStore_m (h3.ext (by (repeat (first | exact Ext.rfl | assumption | (refine Ext.al ?_ _) | (refine Ext.dw ?_) | (refine Ext.set ?_ (by first | omega | (simp only [World.size_alloc, size_setRow, Za]; omega)) _) | (refine Ext.tr ?_ (by assumption)))))) (h1.ext (by (repeat (first | exact Ext.rfl | assumption | (refine Ext.al ?_ _) | (refine Ext.dw ?_) | (refine Ext.set ?_ (by first | omega | (simp only [World.size_alloc, size_setRow, Za]; omega)) _) | (refine Ext.tr ?_ (by assumption))))))) ?_
    rintro ⟨_, w1⟩ ⟨rfl, E1⟩
    try dsimp only at E1
    have zE1 := E1.size
    try simp only [World.size_alloc, size_setRow, Za] at zE1
    simp (maxSteps := 1000000) (disch := first | assumption | omega | (simp only [World.size_alloc, size_setRow, Za] <;> omega) | (simp only [List.length_set, Array.length_toList, List.length_cons, List.length_nil, List.length_append, Zn] <;> omega) | (simp only [List.all_cons, List.all_nil, Value.oneCell', Bool.and_self, Bool.and_true]; done)) [-Option.bind_some, Zb, Zc, Zd, Zh, Ze, Zi, Zs, Zk, Zt, Zr, Yg, Yf, Yh, -Zl, -Zm, Ye, Zz, Yd, Zx, Zy, Zw, Zo, Zj, Zf, Zg, Ya, Yc, Yb, Zv, Zq, Zp, Zu, e3, e9, e12, e3, e9, e12, X3, X9, E0.blk, hlt, p0, p1, q0, q1, E1.blk]
    exact Ret.mono (ih (k + 1) _ _ (by omega) (by first | omega | assumption | rfl | exact congrArg i64 (by omega) | (simp; done) | (simp; omega)) (by first | omega | assumption | rfl | exact congrArg i64 (by omega) | (simp; done) | (simp; omega)) (by first | omega | assumption | rfl | exact congrArg i64 (by omega) | (simp; done) | (simp; omega)) (by first | assumption | rfl | (simp (maxSteps := 1000000) (disch := first | assumption | omega | (simp only [World.size_alloc, size_setRow, Za] <;> omega) | (simp only [List.length_set, Array.length_toList, List.length_cons, List.length_nil, List.length_append, Zn] <;> omega) | (simp only [List.all_cons, List.all_nil, Value.oneCell', Bool.and_self, Bool.and_true]; done)) [-Option.bind_some, Zb, Zc, Zd, Zh, Ze, Zi, Zs, Zk, Zt, Zr, Yg, Yf, Yh, -Zl, -Zm, Ye, Zz, Yd, Zx, Zy, Zw, Zo, Zj, Zf, Zg, Ya, Yc, Yb, Zv, Zq, Zp, Zu, X3, e3, e9, e12, X3, X9, E0.blk, hlt, p0, p1, q0, q1, E1.blk]; done)) (by first | assumption | rfl | (simp (maxSteps := 1000000) (disch := first | assumption | omega | (simp only [World.size_alloc, size_setRow, Za] <;> omega) | (simp only [List.length_set, Array.length_toList, List.length_cons, List.length_nil, List.length_append, Zn] <;> omega) | (simp only [List.all_cons, List.all_nil, Value.oneCell', Bool.and_self, Bool.and_true]; done)) [-Option.bind_some, Zb, Zc, Zd, Zh, Ze, Zi, Zs, Zk, Zt, Zr, Yg, Yf, Yh, -Zl, -Zm, Ye, Zz, Yd, Zx, Zy, Zw, Zo, Zj, Zf, Zg, Ya, Yc, Yb, Zv, Zq, Zp, Zu, X9, e3, e9, e12, X3, X9, E0.blk, hlt, p0, p1, q0, q1, E1.blk]; done)) (by (repeat (first | exact Ext.rfl | assumption | (refine Ext.al ?_ _) | (refine Ext.dw ?_) | (refine Ext.set ?_ (by first | omega | (simp only [World.size_alloc, size_setRow, Za]; omega)) _) | (refine Ext.tr ?_ (by assumption)))))) hQ
/-- One sweep, from node j down. -/
theorem laws_FnChainDrain_n2 {Q : Value × World → Prop} {a : Option Addr} {c g3 g9 n t : Nat} {S1 : Nat → Prop} {ns zs : List CNode} {w0 : World} (hok : chainOk zs = true) (hbd : ∀ i, waits zs i ≤ 6 * (i + 1) - t) (hg39 : g3 ≠ g9) (hg9 : g9 < w0.heap.size)
    (hnext : ∀ (e : Env) (w : World) (b : Option Addr) (d : Nat) (S2 : Nat → Prop) (ys : List CNode), e 3 = pt g3 0 → e 9 = pt g9 0 → e 10 = i64 ((n + 1 : Nat)) → hp w g3 = some (.cells #[.slice a ns.length c] 25 (0, 0)) → hp w g9 = some (.cells #[.slice b ys.length d] 25 (0, 0)) → D Ym S2 w [.slice b ys.length d] ys → (∀ b, S2 b → b ≠ g9) → Swept t zs ys 0 → Mod (fun b => b = g9) w0 w → Ret (laws_FnChainDrain_l1 e w) Q) :
    ∀ (j : Nat) (e : Env) (w : World) (b : Option Addr) (d : Nat) (S2 : Nat → Prop) (ys : List CNode), e 3 = pt g3 0 → e 9 = pt g9 0 → e 10 = i64 n → e 11 = i64 ((j : Int) - 1) → n < 24 → j ≤ 4 → hp w g3 = some (.cells #[.slice a ns.length c] 25 (0, 0)) → hp w g9 = some (.cells #[.slice b ys.length d] 25 (0, 0)) → D Ym S2 w [.slice b ys.length d] ys → (∀ b, S2 b → b ≠ g9) → Swept t zs ys j → Mod (fun b => b = g9) w0 w →
    Ret (laws_FnChainDrain_l2 e w) Q := by
  intro j
  induction j with
  | zero =>
    intro e w b d S2 ys e3 e9 e10 e11 hn hj4 X3 X9 hb hS2 hs hM
    rw [laws_FnChainDrain_l2_eq]
    simp (maxSteps := 1000000) (disch := first | assumption | omega | (simp only [World.size_alloc, size_setRow, Za] <;> omega) | (simp only [List.length_set, Array.length_toList, List.length_cons, List.length_nil, List.length_append, Zn] <;> omega) | (simp only [List.all_cons, List.all_nil, Value.oneCell', Bool.and_self, Bool.and_true]; done)) [-Option.bind_some, Zb, Zc, Zd, Zh, Ze, Zi, Zs, Zk, Zt, Zr, Yg, Yf, Yh, -Zl, -Zm, Ye, Zz, Yd, Zx, Zy, Zw, Zo, Zj, Zf, Zg, Ya, Yc, Yb, Zv, Zq, Zp, Zu, e3, e9, e10, e11, show ¬ (0 : Int) ≤ ((0 : Nat) : Int) - 1 by omega, e3, e9, e10, e11, X3, X9]
    refine hnext _ w b d S2 ys (by first | omega | assumption | rfl | exact congrArg i64 (by omega) | (simp; done) | (simp; omega)) (by first | omega | assumption | rfl | exact congrArg i64 (by omega) | (simp; done) | (simp; omega)) (by first | rfl | (simp; done) | exact congrArg i64 (by omega)) X3 X9 hb hS2 hs hM
  | succ j ih =>
    intro e w b d S2 ys e3 e9 e10 e11 hn hj4 X3 X9 hb hS2 hs hM
    rw [laws_FnChainDrain_l2_eq]
    have y3 := Yq X3
    have y9 := Yq X9
    have ej : ((j + 1 : Nat) : Int) - 1 = (j : Int) := by omega
    rw [ej] at e11
    simp (maxSteps := 1000000) (disch := first | assumption | omega | (simp only [World.size_alloc, size_setRow, Za] <;> omega) | (simp only [List.length_set, Array.length_toList, List.length_cons, List.length_nil, List.length_append, Zn] <;> omega) | (simp only [List.all_cons, List.all_nil, Value.oneCell', Bool.and_self, Bool.and_true]; done)) [-Option.bind_some, Zb, Zc, Zd, Zh, Ze, Zi, Zs, Zk, Zt, Zr, Yg, Yf, Yh, -Zl, -Zm, Ye, Zz, Yd, Zx, Zy, Zw, Zo, Zj, Zf, Zg, Ya, Yc, Yb, Zv, Zq, Zp, Zu, e3, e9, e10, e11, X3, X9, show (0 : Int) ≤ (j : Int) by omega, e3, e9, e10, e11, X3, X9]
    refine Ret.bind (impl_ChainPass_n (i := (j : Int)) (hb.ext (by (repeat (first | exact Ext.rfl | assumption | (refine Ext.al ?_ _) | (refine Ext.dw ?_) | (refine Ext.set ?_ (by first | omega | (simp only [World.size_alloc, size_setRow, Za]; omega)) _) | (refine Ext.tr ?_ (by assumption))))))) ?_
    rintro ⟨_, w1⟩ ⟨a1, c1, rfl, o1, E1⟩
    try dsimp only at a1 c1 o1 E1
    have zE1 := E1.size
    try simp only [World.size_alloc, size_setRow, Za] at zE1
    have ec := chainPassP_t hs.ok (j : Int)
    rw [ec] at o1
    rw [ec]
    have Y3 : hp w1 g3 = hp w g3 := (by first | assumption | rfl | (simp (maxSteps := 1000000) (disch := first | assumption | omega | (simp only [World.size_alloc, size_setRow, Za] <;> omega) | (simp only [List.length_set, Array.length_toList, List.length_cons, List.length_nil, List.length_append, Zn] <;> omega) | (simp only [List.all_cons, List.all_nil, Value.oneCell', Bool.and_self, Bool.and_true]; done)) [-Option.bind_some, Zb, Zc, Zd, Zh, Ze, Zi, Zs, Zk, Zt, Zr, Yg, Yf, Yh, e3, e9, e10, e11, X3, X9, E1.blk]; done))
    have Y9 : hp w1 g9 = hp w g9 := (by first | assumption | rfl | (simp (maxSteps := 1000000) (disch := first | assumption | omega | (simp only [World.size_alloc, size_setRow, Za] <;> omega) | (simp only [List.length_set, Array.length_toList, List.length_cons, List.length_nil, List.length_append, Zn] <;> omega) | (simp only [List.all_cons, List.all_nil, Value.oneCell', Bool.and_self, Bool.and_true]; done)) [-Option.bind_some, Zb, Zc, Zd, Zh, Ze, Zi, Zs, Zk, Zt, Zr, Yg, Yf, Yh, e3, e9, e10, e11, X3, X9, E1.blk]; done))
    have hwj : IntKind.i64.wrap ((j : Int) - 1) = (j : Int) - 1 := w64 (by omega) (by omega)
    simp (maxSteps := 1000000) (disch := first | assumption | omega | (simp only [World.size_alloc, size_setRow, Za] <;> omega) | (simp only [List.length_set, Array.length_toList, List.length_cons, List.length_nil, List.length_append, Zn] <;> omega) | (simp only [List.all_cons, List.all_nil, Value.oneCell', Bool.and_self, Bool.and_true]; done)) [-Option.bind_some, Zb, Zc, Zd, Zh, Ze, Zi, Zs, Zk, Zt, Zr, Yg, Yf, Yh, -Zl, -Zm, Ye, Zz, Yd, Zx, Zy, Zw, Zo, Zj, Zf, Zg, Ya, Yc, Yb, Zv, Zq, Zp, Zu, e3, e9, e10, e11, Y3, Y9, X3, X9, hwj, e3, e9, e10, e11, X3, X9, E1.blk]
    refine ih _ (w1.setRow g9 #[.slice a1 (passP ys j).length c1]) a1 c1 (In w.heap.size w1.heap.size) (passP ys j) (by first | omega | assumption | rfl | exact congrArg i64 (by omega) | (simp; done) | (simp; omega)) (by first | omega | assumption | rfl | exact congrArg i64 (by omega) | (simp; done) | (simp; omega)) (by first | omega | assumption | rfl | exact congrArg i64 (by omega) | (simp; done) | (simp; omega)) (by first | rfl | (simp; done) | exact congrArg i64 (by omega)) hn (by omega) ((Zd hg39).trans (Y3.trans X3)) (by first | assumption | rfl | (simp (maxSteps := 1000000) (disch := first | assumption | omega | (simp only [World.size_alloc, size_setRow, Za] <;> omega) | (simp only [List.length_set, Array.length_toList, List.length_cons, List.length_nil, List.length_append, Zn] <;> omega) | (simp only [List.all_cons, List.all_nil, Value.oneCell', Bool.and_self, Bool.and_true]; done)) [-Option.bind_some, Zb, Zc, Zd, Zh, Ze, Zi, Zs, Zk, Zt, Zr, Yg, Yf, Yh, -Zl, -Zm, Ye, Zz, Yd, Zx, Zy, Zw, Zo, Zj, Zf, Zg, Ya, Yc, Yb, Zv, Zq, Zp, Zu, Y9, X9, e3, e9, e10, e11, X3, X9, E1.blk]; done)) (o1.d.keep (fun b hb hs => Zd (by simp only [In] at hb; omega))) (fun b hb => by simp only [In] at hb; omega) (Swept.next hok hbd hs) ((hM.ex (by (repeat (first | exact Ext.rfl | assumption | (refine Ext.al ?_ _) | (refine Ext.dw ?_) | (refine Ext.set ?_ (by first | omega | (simp only [World.size_alloc, size_setRow, Za]; omega)) _) | (refine Ext.tr ?_ (by assumption)))))).set' (.inr rfl) _)
/-- The sweeps. -/
theorem laws_FnChainDrain_n1 {Q : Value × World → Prop} {a : Option Addr} {c g3 g9 : Nat} {S1 : Nat → Prop} {ns : List CNode} {w0 : World} (hok : chainOk ns = true) (hg39 : g3 ≠ g9) (hg9 : g9 < w0.heap.size)
    (hnext : ∀ (e : Env) (w : World) (b : Option Addr) (d : Nat) (S2 : Nat → Prop) (ys : List CNode), e 3 = pt g3 0 → e 9 = pt g9 0 → hp w g3 = some (.cells #[.slice a ns.length c] 25 (0, 0)) → hp w g9 = some (.cells #[.slice b ys.length d] 25 (0, 0)) → D Ym S2 w [.slice b ys.length d] ys → chainOk ys = true → headS ys = headS ns → (∀ i, waits ys i = 0) → Mod (fun b => b = g9) w0 w → e 12 = i64 0 → Ret (laws_FnChainDrain_l3 e w) Q) :
    ∀ (m n : Nat) (e : Env) (w : World) (b : Option Addr) (d : Nat) (S2 : Nat → Prop) (ys : List CNode), n + m = 24 → e 3 = pt g3 0 → e 9 = pt g9 0 → e 10 = i64 n → hp w g3 = some (.cells #[.slice a ns.length c] 25 (0, 0)) → hp w g9 = some (.cells #[.slice b ys.length d] 25 (0, 0)) → D Ym S2 w [.slice b ys.length d] ys → (∀ b, S2 b → b ≠ g9) → chainOk ys = true → ys.length = ns.length → headS ys = headS ns → (∀ i, waits ys i ≤ 6 * (i + 1) - n) → Mod (fun b => b = g9) w0 w →
    Ret (laws_FnChainDrain_l1 e w) Q := by
  have hl4 := (chainOk_iff.1 hok).1
  intro m
  induction m with
  | zero =>
    intro n e w b d S2 ys hnm e3 e9 e10 X3 X9 hb hS2 hy hyl hyh hyw hM
    rw [laws_FnChainDrain_l1_eq]
    obtain rfl : n = 24 := by omega
    simp (maxSteps := 1000000) (disch := first | assumption | omega | (simp only [World.size_alloc, size_setRow, Za] <;> omega) | (simp only [List.length_set, Array.length_toList, List.length_cons, List.length_nil, List.length_append, Zn] <;> omega) | (simp only [List.all_cons, List.all_nil, Value.oneCell', Bool.and_self, Bool.and_true]; done)) [-Option.bind_some, Zb, Zc, Zd, Zh, Ze, Zi, Zs, Zk, Zt, Zr, Yg, Yf, Yh, -Zl, -Zm, Ye, Zz, Yd, Zx, Zy, Zw, Zo, Zj, Zf, Zg, Ya, Yc, Yb, Zv, Zq, Zp, Zu, e3, e9, e10, e3, e9, e10, X3, X9]
    refine hnext _ w b d S2 ys (by first | omega | assumption | rfl | exact congrArg i64 (by omega) | (simp; done) | (simp; omega)) (by first | omega | assumption | rfl | exact congrArg i64 (by omega) | (simp; done) | (simp; omega)) X3 X9 hb hy hyh (fun i => ?_) hM rfl
    have h1 := hyw i
    rcases Nat.lt_or_ge i 4 with h2 | h2
    · omega
    · exact last_empty hy (by omega)
  | succ m ih =>
    intro n e w b d S2 ys hnm e3 e9 e10 X3 X9 hb hS2 hy hyl hyh hyw hM
    rw [laws_FnChainDrain_l1_eq]
    have hn24 : n < 24 := by omega
    simp (maxSteps := 1000000) (disch := first | assumption | omega | (simp only [World.size_alloc, size_setRow, Za] <;> omega) | (simp only [List.length_set, Array.length_toList, List.length_cons, List.length_nil, List.length_append, Zn] <;> omega) | (simp only [List.all_cons, List.all_nil, Value.oneCell', Bool.and_self, Bool.and_true]; done)) [-Option.bind_some, Zb, Zc, Zd, Zh, Ze, Zi, Zs, Zk, Zt, Zr, Yg, Yf, Yh, -Zl, -Zm, Ye, Zz, Yd, Zx, Zy, Zw, Zo, Zj, Zf, Zg, Ya, Yc, Yb, Zv, Zq, Zp, Zu, e3, e9, e10, X3, show (n : Int) < 24 by omega, e3, e9, e10, X3, X9]
    refine laws_FnChainDrain_n2 (S1 := S1) (t := n) (n := n) (zs := ys) (w0 := w0) (ns := ns) (a := a) (c := c) hy hyw hg39 hg9 ?_ ns.length _ w b d S2 ys (by first | omega | assumption | rfl | exact congrArg i64 (by omega) | (simp; done) | (simp; omega)) (by first | omega | assumption | rfl | exact congrArg i64 (by omega) | (simp; done) | (simp; omega)) (by first | omega | assumption | rfl | exact congrArg i64 (by omega) | (simp; done) | (simp; omega)) (by first | omega | assumption | rfl | exact congrArg i64 (by omega) | (simp; done) | (simp; omega)) hn24 (by omega) X3 X9 hb hS2 (hyl ▸ Swept.start hy) hM
    intro e' w' b' d' S' ys' f3 f9 f10 Z3 Z9 hb' hS' hsw hM'
    exact ih (n + 1) e' w' b' d' S' ys' (by omega) f3 f9 f10 Z3 Z9 hb' hS' hsw.ok (hsw.len.trans hyl) (hsw.hd.trans hyh) (Swept.done hyw hsw) hM'
theorem laws_FnChainDrain_c {s : Value} {ns : List Int} {w : World} (hs : rBytes w s ns) : Ret (EV P 4 #[s] w) fun r => r.1 = .bool true ∧ Ext w r.2 := by
  have hs' := hs
  obtain ⟨a, c, rfl, q2, q3, q4, q5⟩ := hs
  refine Ret.post fun Q hQ => ?_
  refine Ret.enter plain mixed (laws_FnChainDrain_fn _ _) (by kernel_rfl) (n := 1) (by kernel_rfl) rfl ?_
  by_cases hl : 1048576 < ns.length
  · simp (maxSteps := 1000000) (disch := first | assumption | omega | (simp only [World.size_alloc, size_setRow, Za] <;> omega) | (simp only [List.length_set, Array.length_toList, List.length_cons, List.length_nil, List.length_append, Zn] <;> omega) | (simp only [List.all_cons, List.all_nil, Value.oneCell', Bool.and_self, Bool.and_true]; done)) [-Option.bind_some, Zb, Zc, Zd, Zh, Ze, Zi, Zs, Zk, Zt, Zr, Yg, Yf, Yh, -Zl, -Zm, Ye, Zz, Yd, Zx, Zy, Zw, Zo, Zj, Zf, Zg, Ya, Yc, Yb, Zv, Zq, Zp, Zu, show (1048576 : Int) < ns.length by omega]
    exact hQ _ ⟨rfl, by (repeat (first | exact Ext.rfl | assumption | (refine Ext.al ?_ _) | (refine Ext.dw ?_) | (refine Ext.set ?_ (by first | omega | (simp only [World.size_alloc, size_setRow, Za]; omega)) _) | (refine Ext.tr ?_ (by assumption))))⟩
  simp (maxSteps := 1000000) (disch := first | assumption | omega | (simp only [World.size_alloc, size_setRow, Za] <;> omega) | (simp only [List.length_set, Array.length_toList, List.length_cons, List.length_nil, List.length_append, Zn] <;> omega) | (simp only [List.all_cons, List.all_nil, Value.oneCell', Bool.and_self, Bool.and_true]; done)) [-Option.bind_some, Zb, Zc, Zd, Zh, Ze, Zi, Zs, Zk, Zt, Zr, Yg, Yf, Yh, -Zl, -Zm, Ye, Zz, Yd, Zx, Zy, Zw, Zo, Zj, Zf, Zg, Ya, Yc, Yb, Zv, Zq, Zp, Zu, show ¬ (1048576 : Int) < ns.length by omega]
  refine Ret.bind (spec_DrawChainPass_m hs' (by omega)) ?_
  rintro ⟨_, w1⟩ ⟨xs, i, a1, c1, rfl, ha, E1⟩
  have zE1 := E1.size
  try simp only [World.size_alloc, size_setRow, Za] at zE1
  try dsimp only at ha E1
  have zE1 := E1.size
  simp (maxSteps := 1000000) (disch := first | assumption | omega | (simp only [World.size_alloc, size_setRow, Za] <;> omega) | (simp only [List.length_set, Array.length_toList, List.length_cons, List.length_nil, List.length_append, Zn] <;> omega) | (simp only [List.all_cons, List.all_nil, Value.oneCell', Bool.and_self, Bool.and_true]; done)) [-Option.bind_some, Zb, Zc, Zd, Zh, Ze, Zi, Zs, Zk, Zt, Zr, Yg, Yf, Yh, -Zl, -Zm, Ye, Zz, Yd, Zx, Zy, Zw, Zo, Zj, Zf, Zg, Ya, Yc, Yb, Zv, Zq, Zp, Zu, E1.blk]
  refine Ret.bind (impl_ChainPass_n (i := i) (ha.ext (by (repeat (first | exact Ext.rfl | assumption | (refine Ext.al ?_ _) | (refine Ext.dw ?_) | (refine Ext.set ?_ (by first | omega | (simp only [World.size_alloc, size_setRow, Za]; omega)) _) | (refine Ext.tr ?_ (by assumption))))))) ?_
  rintro ⟨_, w2⟩ ⟨a2, c2, rfl, o2, E2⟩
  try dsimp only at a2 c2 o2 E2
  have zE2 := E2.size
  try simp only [World.size_alloc, size_setRow, Za] at zE2
  simp (maxSteps := 1000000) (disch := first | assumption | omega | (simp only [World.size_alloc, size_setRow, Za] <;> omega) | (simp only [List.length_set, Array.length_toList, List.length_cons, List.length_nil, List.length_append, Zn] <;> omega) | (simp only [List.all_cons, List.all_nil, Value.oneCell', Bool.and_self, Bool.and_true]; done)) [-Option.bind_some, Zb, Zc, Zd, Zh, Ze, Zi, Zs, Zk, Zt, Zr, Yg, Yf, Yh, -Zl, -Zm, Ye, Zz, Yd, Zx, Zy, Zw, Zo, Zj, Zf, Zg, Ya, Yc, Yb, Zv, Zq, Zp, Zu, E1.blk, E2.blk]
  refine Ret.bind (spec_ChainPass_n (i := i) (ha.ext (by (repeat (first | exact Ext.rfl | assumption | (refine Ext.al ?_ _) | (refine Ext.dw ?_) | (refine Ext.set ?_ (by first | omega | (simp only [World.size_alloc, size_setRow, Za]; omega)) _) | (refine Ext.tr ?_ (by assumption))))))) ?_
  rintro ⟨_, w3⟩ ⟨a3, c3, rfl, o3, E3⟩
  try dsimp only at a3 c3 o3 E3
  have zE3 := E3.size
  try simp only [World.size_alloc, size_setRow, Za] at zE3
  simp (maxSteps := 1000000) (disch := first | assumption | omega | (simp only [World.size_alloc, size_setRow, Za] <;> omega) | (simp only [List.length_set, Array.length_toList, List.length_cons, List.length_nil, List.length_append, Zn] <;> omega) | (simp only [List.all_cons, List.all_nil, Value.oneCell', Bool.and_self, Bool.and_true]; done)) [-Option.bind_some, Zb, Zc, Zd, Zh, Ze, Zi, Zs, Zk, Zt, Zr, Yg, Yf, Yh, -Zl, -Zm, Ye, Zz, Yd, Zx, Zy, Zw, Zo, Zj, Zf, Zg, Ya, Yc, Yb, Zv, Zq, Zp, Zu, bne_self_eq_false, E1.blk, E2.blk, E3.blk]
  refine Ret.bind (laws_cfChain_m (o2.keep (by intro b hS hb; (try dsimp only at hS); (try simp only [In, World.size_alloc, size_setRow, Za] at hS hb); first | rfl | (simp (disch := first | assumption | omega | (simp only [World.size_alloc, size_setRow, Za]; omega) | (simp only [World.size_alloc, size_setRow, Za, In]; omega)) only [E1.blk, E2.blk, E3.blk, Zb, Zd, Yn]; done))).d (o3.keep (by intro b hS hb; (try dsimp only at hS); (try simp only [In, World.size_alloc, size_setRow, Za] at hS hb); first | rfl | (simp (disch := first | assumption | omega | (simp only [World.size_alloc, size_setRow, Za]; omega) | (simp only [World.size_alloc, size_setRow, Za, In]; omega)) only [E1.blk, E2.blk, E3.blk, Zb, Zd, Yn]; done))).d) ?_
  rintro ⟨_, w4⟩ ⟨rfl, E4⟩
  try dsimp only at E4
  have zE4 := E4.size
  try simp only [World.size_alloc, size_setRow, Za] at zE4
  simp (maxSteps := 1000000) (disch := first | assumption | omega | (simp only [World.size_alloc, size_setRow, Za] <;> omega) | (simp only [List.length_set, Array.length_toList, List.length_cons, List.length_nil, List.length_append, Zn] <;> omega) | (simp only [List.all_cons, List.all_nil, Value.oneCell', Bool.and_self, Bool.and_true]; done)) [-Option.bind_some, Zb, Zc, Zd, Zh, Ze, Zi, Zs, Zk, Zt, Zr, Yg, Yf, Yh, -Zl, -Zm, Ye, Zz, Yd, Zx, Zy, Zw, Zo, Zj, Zf, Zg, Ya, Yc, Yb, Zv, Zq, Zp, Zu, E1.blk, E2.blk, E3.blk, E4.blk]
  refine Ret.bind (impl_ChainOk_m (ha.ext (by (repeat (first | exact Ext.rfl | assumption | (refine Ext.al ?_ _) | (refine Ext.dw ?_) | (refine Ext.set ?_ (by first | omega | (simp only [World.size_alloc, size_setRow, Za]; omega)) _) | (refine Ext.tr ?_ (by assumption))))))) ?_
  rintro ⟨_, w5⟩ ⟨rfl, E5⟩
  try dsimp only at E5
  have zE5 := E5.size
  try simp only [World.size_alloc, size_setRow, Za] at zE5
  cases hx : chainOk xs
  · simp (maxSteps := 1000000) (disch := first | assumption | omega | (simp only [World.size_alloc, size_setRow, Za] <;> omega) | (simp only [List.length_set, Array.length_toList, List.length_cons, List.length_nil, List.length_append, Zn] <;> omega) | (simp only [List.all_cons, List.all_nil, Value.oneCell', Bool.and_self, Bool.and_true]; done)) [-Option.bind_some, Zb, Zc, Zd, Zh, Ze, Zi, Zs, Zk, Zt, Zr, Yg, Yf, Yh, -Zl, -Zm, Ye, Zz, Yd, Zx, Zy, Zw, Zo, Zj, Zf, Zg, Ya, Yc, Yb, Zv, Zq, Zp, Zu, hx, beq_self_eq_true, E1.blk, E2.blk, E3.blk, E4.blk, E5.blk]
    refine Ret.bind (laws_cfChain_m (o2.keep (by intro b hS hb; (try dsimp only at hS); (try simp only [In, World.size_alloc, size_setRow, Za] at hS hb); first | rfl | (simp (disch := first | assumption | omega | (simp only [World.size_alloc, size_setRow, Za]; omega) | (simp only [World.size_alloc, size_setRow, Za, In]; omega)) only [E1.blk, E2.blk, E3.blk, E4.blk, E5.blk, Zb, Zd, Yn]; done))).d (o3.keep (by intro b hS hb; (try dsimp only at hS); (try simp only [In, World.size_alloc, size_setRow, Za] at hS hb); first | rfl | (simp (disch := first | assumption | omega | (simp only [World.size_alloc, size_setRow, Za]; omega) | (simp only [World.size_alloc, size_setRow, Za, In]; omega)) only [E1.blk, E2.blk, E3.blk, E4.blk, E5.blk, Zb, Zd, Yn]; done))).d) ?_
    rintro ⟨_, w8⟩ ⟨rfl, E8⟩
    try dsimp only at E8
    have zE8 := E8.size
    try simp only [World.size_alloc, size_setRow, Za] at zE8
    simp (maxSteps := 1000000) (disch := first | assumption | omega | (simp only [World.size_alloc, size_setRow, Za] <;> omega) | (simp only [List.length_set, Array.length_toList, List.length_cons, List.length_nil, List.length_append, Zn] <;> omega) | (simp only [List.all_cons, List.all_nil, Value.oneCell', Bool.and_self, Bool.and_true]; done)) [-Option.bind_some, Zb, Zc, Zd, Zh, Ze, Zi, Zs, Zk, Zt, Zr, Yg, Yf, Yh, -Zl, -Zm, Ye, Zz, Yd, Zx, Zy, Zw, Zo, Zj, Zf, Zg, Ya, Yc, Yb, Zv, Zq, Zp, Zu, E1.blk, E2.blk, E3.blk, E4.blk, E5.blk, E8.blk]
    exact hQ _ ⟨rfl, by (repeat (first | exact Ext.rfl | assumption | (refine Ext.al ?_ _) | (refine Ext.dw ?_) | (refine Ext.set ?_ (by first | omega | (simp only [World.size_alloc, size_setRow, Za]; omega)) _) | (refine Ext.tr ?_ (by assumption))))⟩
  obtain ⟨x, hx0, hno, hl0, hl4⟩ := chainOk_head hx
  simp (maxSteps := 1000000) (disch := first | assumption | omega | (simp only [World.size_alloc, size_setRow, Za] <;> omega) | (simp only [List.length_set, Array.length_toList, List.length_cons, List.length_nil, List.length_append, Zn] <;> omega) | (simp only [List.all_cons, List.all_nil, Value.oneCell', Bool.and_self, Bool.and_true]; done)) [-Option.bind_some, Zb, Zc, Zd, Zh, Ze, Zi, Zs, Zk, Zt, Zr, Yg, Yf, Yh, -Zl, -Zm, Ye, Zz, Yd, Zx, Zy, Zw, Zo, Zj, Zf, Zg, Ya, Yc, Yb, Zv, Zq, Zp, Zu, hx, E1.blk, E2.blk, E3.blk, E4.blk, E5.blk]
  obtain ⟨W, hW⟩ : ∃ W : World, W = (w5.alloc (.cells #[.slice none 0 0] 25)).setRow w5.heap.size #[.slice a1 xs.length c1] := ⟨_, rfl⟩
  have EW : Ext w W := by rw [hW]; exact (by (repeat (first | exact Ext.rfl | assumption | (refine Ext.al ?_ _) | (refine Ext.dw ?_) | (refine Ext.set ?_ (by first | omega | (simp only [World.size_alloc, size_setRow, Za]; omega)) _) | (refine Ext.tr ?_ (by assumption)))) : Ext w ((w5.alloc (.cells #[.slice none 0 0] 25)).setRow w5.heap.size #[.slice a1 xs.length c1]))
  have Z3 : hp W w1.heap.size = some (.cells #[.slice a1 xs.length c1] 25 (0, 0)) := by rw [hW]; exact (by first | assumption | rfl | (simp (maxSteps := 1000000) (disch := first | assumption | omega | (simp only [World.size_alloc, size_setRow, Za] <;> omega) | (simp only [List.length_set, Array.length_toList, List.length_cons, List.length_nil, List.length_append, Zn] <;> omega) | (simp only [List.all_cons, List.all_nil, Value.oneCell', Bool.and_self, Bool.and_true]; done)) [-Option.bind_some, Zb, Zc, Zd, Zh, Ze, Zi, Zs, Zk, Zt, Zr, Yg, Yf, Yh, E1.blk, E2.blk, E3.blk, E4.blk, E5.blk]; done))
  have Z9 : hp W w5.heap.size = some (.cells #[.slice a1 xs.length c1] 25 (0, 0)) := by rw [hW]; exact (by first | assumption | rfl | (simp (maxSteps := 1000000) (disch := first | assumption | omega | (simp only [World.size_alloc, size_setRow, Za] <;> omega) | (simp only [List.length_set, Array.length_toList, List.length_cons, List.length_nil, List.length_append, Zn] <;> omega) | (simp only [List.all_cons, List.all_nil, Value.oneCell', Bool.and_self, Bool.and_true]; done)) [-Option.bind_some, Zb, Zc, Zd, Zh, Ze, Zi, Zs, Zk, Zt, Zr, Yg, Yf, Yh, -Zl, -Zm, Ye, Zz, Yd, Zx, Zy, Zw, Zo, Zj, Zf, Zg, Ya, Yc, Yb, Zv, Zq, Zp, Zu, E1.blk, E2.blk, E3.blk, E4.blk, E5.blk]; done))
  have haW : D Ym (fun b => w.heap.size ≤ b ∧ b < w1.heap.size) W [.slice a1 xs.length c1] xs := ha.lt.keep (fun b hb _ => by rw [hW]; exact (by first | assumption | rfl | (simp (maxSteps := 1000000) (disch := first | assumption | omega | (simp only [World.size_alloc, size_setRow, Za] <;> omega) | (simp only [List.length_set, Array.length_toList, List.length_cons, List.length_nil, List.length_append, Zn] <;> omega) | (simp only [List.all_cons, List.all_nil, Value.oneCell', Bool.and_self, Bool.and_true]; done)) [-Option.bind_some, Zb, Zc, Zd, Zh, Ze, Zi, Zs, Zk, Zt, Zr, Yg, Yf, Yh, E1.blk, E2.blk, E3.blk, E4.blk, E5.blk]; done)))
  have sW : W.heap.size = w5.heap.size + 1 := by rw [hW, size_setRow, World.size_alloc]
  rw [← hW]
  refine laws_FnChainDrain_n1 (S1 := fun b => w.heap.size ≤ b ∧ b < w1.heap.size) (w0 := W) (g3 := w1.heap.size) (g9 := w5.heap.size) (ns := xs) (a := a1) (c := c1) hx (by omega) (by omega) ?_ 24 0 _ W a1 c1 _ xs (by omega) (by first | omega | assumption | rfl | exact congrArg i64 (by omega) | (simp; done) | (simp; omega)) (by first | omega | assumption | rfl | exact congrArg i64 (by omega) | (simp; done) | (simp; omega)) rfl Z3 Z9 haW (fun b hb => by omega) hx rfl rfl (fun i => by have := waits_le hx i; omega) Mod.rfl
  intro e U b d S2 ys f3 f9 V3 V9 hb hys hh hwt hM f12
  have hd0 := drained hys hwt
  have hhx : headS ys = x.store := by rw [hh, headS, hx0]
  refine Ret.mono (laws_FnChainDrain_n3 (ns := xs) (w0 := U) hys hx0 (fun i y hy => by rw [← hhx]; exact hd0 i y hy) (haW.keep (fun b hb hs => hM.blk b hs (by omega))) hb ys.length 0 e U (by omega) f3 f9 f12 V3 V9 Ext.rfl) ?_
  rintro r ⟨h1, h2⟩
  exact hQ _ ⟨h1, (Mod.after EW hM (fun b h1 h2 => by omega)).tr h2⟩
end Go.Proofs.Ytjagkbamkohnoaa.X
