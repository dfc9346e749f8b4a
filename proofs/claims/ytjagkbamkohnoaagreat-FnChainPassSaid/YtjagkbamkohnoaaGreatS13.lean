/- A part of the proof: an evaluator of the model, its laws, and contracts of functions; no condition. -/
import Derived.Test.YtjagkbamkohnoaaGreatS12
set_option linter.unusedVariables false
set_option linter.unusedSimpArgs false
set_option maxRecDepth 100000
set_option maxHeartbeats 1000000
namespace Go.Proofs.YtjagkbamkohnoaaGreat.X
open Go Go.Ev Go.RowKit
theorem spec_l3Copy_n2 {a : Option Addr} {c g1 g2 g3 g5 B k : Nat} {S : Nat → Prop} {xs : List CNode} {x : CNode} {w0 : World} {R : Value × World → Prop} (h12 : g1 < g2) (h32 : g2 < g3) (h02 : w0.heap.size ≤ g1) (h3B : g3 < B) (hB5 : B ≤ g5)
    (ha : D Yr S w0 [.slice a xs.length c] xs) (hlt : k < xs.length) (hx : xs[k]? = some x)
    (nx : ∀ (e : Env) (w : World) (a3 : Option Addr) (c3 : Nat) (sv : Value), e 1 = pt g1 0 → e 2 = pt g2 0 → e 3 = pt g3 0 → e 4 = i64 ((k + 1 : Nat) : Int) → hp w g1 = some (.cells #[.slice a xs.length c] 25 (0, 0)) → hp w g2 = some (.cells #[sv] 25 (0, 0)) → hp w g3 = some (.cells #[.slice a3 (k + 1) c3] 25 (0, 0)) →
      Ext w0 w → O Yr (fun b => In w0.heap.size w.heap.size b ∧ b ≠ g1 ∧ b ≠ g2 ∧ b ≠ g3) w [.slice a3 (k + 1) c3] (xs.take (k + 1)) → Ret (spec_l3Copy_l1 e w) R) :
    ∀ (d j : Nat) (e : Env) (w : World) (a3 a5 a6 : Option Addr) (c3 c5 c6 : Nat) (sv : Value), j + d = x.wait.length → e 1 = pt g1 0 → e 2 = pt g2 0 → e 3 = pt g3 0 → e 4 = i64 k → e 5 = pt g5 0 → e 6 = i64 j →
      hp w g1 = some (.cells #[.slice a xs.length c] 25 (0, 0)) → hp w g2 = some (.cells #[sv] 25 (0, 0)) → hp w g3 = some (.cells #[.slice a3 k c3] 25 (0, 0)) → hp w g5 = some (.cells #[.slice a5 x.store.length c5, .slice a6 j c6] 36 (0, 0)) →
      Ext w0 w → O Yr (fun b => In w0.heap.size B b ∧ b ≠ g1 ∧ b ≠ g2 ∧ b ≠ g3) w [.slice a3 k c3] (xs.take k) → O tVers (In B g5) w [.slice a5 x.store.length c5] x.store → O tVers (In (g5 + 1) w.heap.size) w [.slice a6 j c6] (x.wait.take j) →
      Ret (spec_l3Copy_l2 e w) R := by
  have hn := ha.n
  have htk : (xs.take k).length = k := by rw [List.length_take]; omega
  intro d
  induction d with
  | zero =>
    intro j e w a3 a5 a6 c3 c5 c6 sv hd e1 e2 e3 e4 e5 e6 X1 X2 X3 X5 E0 ho o5 o6
    have zE0 := E0.size
    try simp only [World.size_alloc, size_setRow, Za] at zE0
    rw [spec_l3Copy_l2_eq]
    obtain rfl : j = x.wait.length := by omega
    rw [List.take_length] at o6
    obtain ⟨b1, o1, cs1, rfl, A1, D1, _, l1⟩ := (ha.ext E0).at (by decide) hx
    obtain ⟨a2, c2, a4, c4, rfl, h2, h3⟩ := D.node.1 D1
    have p0 := A1 0 _ rfl
    have p1 := A1 1 _ rfl
    simp only [LVer_n, LTag_n, Yn, Nat.add_zero] at p0 p1
    have y1 := Yq X1
    have y2 := Yq X2
    have y3 := Yq X3
    have y5 := Yq X5
    have zE0 := E0.size
    refine Ret.post fun Q hQ => ?_
    simp (maxSteps := 1000000) (disch := first | assumption | omega | (simp only [World.size_alloc, size_setRow, Za] <;> omega) | (simp only [List.length_set, Array.length_toList, List.length_cons, List.length_nil, List.length_append, Zn] <;> omega) | (simp only [List.all_cons, List.all_nil, Value.oneCell', Bool.and_self, Bool.and_true]; done)) [-Option.bind_some, Zb, Zc, Zd, Zh, Ze, Zi, Zt, Zk, Zr, Zs, Yg, Yf, Yh, -Zl, -Zm, Ye, Ya, Yd, Zx, Zz, Zw, Zq, Zj, Zf, Zg, Zy, Yb, Yc, Zv, Zp, Zo, Zu, e1, e2, e3, e4, e5, e6, X1, X2, X3, X5, hlt, ia_23, e1, e2, e3, e4, e5, e6, X1, X2, X3, X5, E0.blk, p0, p1]
    refine Ret.bind (O.app (L := tNode) (mx := 2932031007317) el_23 zz_36 rfl (by decide) (ho.keep (by intro b hS hb; (try dsimp only at hS); (try simp only [In, World.size_alloc, size_setRow, Za] at hS hb); first | rfl | (simp (disch := first | assumption | omega | (simp only [World.size_alloc, size_setRow, Za]; omega) | (simp only [World.size_alloc, size_setRow, Za, In]; omega)) only [E0.blk, Zb, Zd, Ym]; done))) (O.node_mk (v := x) (o5.keep (by intro b hS hb; (try dsimp only at hS); (try simp only [In, World.size_alloc, size_setRow, Za] at hS hb); first | rfl | (simp (disch := first | assumption | omega | (simp only [World.size_alloc, size_setRow, Za]; omega) | (simp only [World.size_alloc, size_setRow, Za, In]; omega)) only [E0.blk, Zb, Zd, Ym]; done))) (o6.keep (by intro b hS hb; (try dsimp only at hS); (try simp only [In, World.size_alloc, size_setRow, Za] at hS hb); first | rfl | (simp (disch := first | assumption | omega | (simp only [World.size_alloc, size_setRow, Za]; omega) | (simp only [World.size_alloc, size_setRow, Za, In]; omega)) only [E0.blk, Zb, Zd, Ym]; done))) (by intro x hx h; (try dsimp only at h); (try simp only [In, World.size_alloc, size_setRow, Za] at *); omega)) ?_ At.new (by omega) (by decide) (by decide)) ?_
    · intro b hb h1 h2
      simp only [In, World.size_alloc, size_setRow, Za] at *
      omega
    rintro ⟨_, w3⟩ ⟨a7, c7, rfl, o7, M3⟩
    have zM3 := M3.size
    try simp only [World.size_alloc, size_setRow, Za] at zM3
    try dsimp only at o7 M3
    have zM3 := M3.size
    simp only [World.size_alloc, size_setRow] at zM3
    rw [htk, ← take_at hx] at o7
    rw [htk]
    have Y1 : hp w3 g1 = hp w g1 := (M3.blk g1 (by (try simp only [In, World.size_alloc, size_setRow, Za] at *); omega) (by (try simp only [In, World.size_alloc, size_setRow, Za] at *); omega)).trans (by first | assumption | rfl | (simp (maxSteps := 1000000) (disch := first | assumption | omega | (simp only [World.size_alloc, size_setRow, Za] <;> omega) | (simp only [List.length_set, Array.length_toList, List.length_cons, List.length_nil, List.length_append, Zn] <;> omega) | (simp only [List.all_cons, List.all_nil, Value.oneCell', Bool.and_self, Bool.and_true]; done)) [-Option.bind_some, Zb, Zc, Zd, Zh, Ze, Zi, Zt, Zk, Zr, Zs, Yg, Yf, Yh, e1, e2, e3, e4, e5, e6, X1, X2, X3, X5, E0.blk, p0, p1, M3.blk]; done))
    have Y2 : hp w3 g2 = hp w g2 := (M3.blk g2 (by (try simp only [In, World.size_alloc, size_setRow, Za] at *); omega) (by (try simp only [In, World.size_alloc, size_setRow, Za] at *); omega)).trans (by first | assumption | rfl | (simp (maxSteps := 1000000) (disch := first | assumption | omega | (simp only [World.size_alloc, size_setRow, Za] <;> omega) | (simp only [List.length_set, Array.length_toList, List.length_cons, List.length_nil, List.length_append, Zn] <;> omega) | (simp only [List.all_cons, List.all_nil, Value.oneCell', Bool.and_self, Bool.and_true]; done)) [-Option.bind_some, Zb, Zc, Zd, Zh, Ze, Zi, Zt, Zk, Zr, Zs, Yg, Yf, Yh, e1, e2, e3, e4, e5, e6, X1, X2, X3, X5, E0.blk, p0, p1, M3.blk]; done))
    have Y3 : hp w3 g3 = hp w g3 := (M3.blk g3 (by (try simp only [In, World.size_alloc, size_setRow, Za] at *); omega) (by (try simp only [In, World.size_alloc, size_setRow, Za] at *); omega)).trans (by first | assumption | rfl | (simp (maxSteps := 1000000) (disch := first | assumption | omega | (simp only [World.size_alloc, size_setRow, Za] <;> omega) | (simp only [List.length_set, Array.length_toList, List.length_cons, List.length_nil, List.length_append, Zn] <;> omega) | (simp only [List.all_cons, List.all_nil, Value.oneCell', Bool.and_self, Bool.and_true]; done)) [-Option.bind_some, Zb, Zc, Zd, Zh, Ze, Zi, Zt, Zk, Zr, Zs, Yg, Yf, Yh, e1, e2, e3, e4, e5, e6, X1, X2, X3, X5, E0.blk, p0, p1, M3.blk]; done))
    simp (maxSteps := 1000000) (disch := first | assumption | omega | (simp only [World.size_alloc, size_setRow, Za] <;> omega) | (simp only [List.length_set, Array.length_toList, List.length_cons, List.length_nil, List.length_append, Zn] <;> omega) | (simp only [List.all_cons, List.all_nil, Value.oneCell', Bool.and_self, Bool.and_true]; done)) [-Option.bind_some, Zb, Zc, Zd, Zh, Ze, Zi, Zt, Zk, Zr, Zs, Yg, Yf, Yh, -Zl, -Zm, Ye, Ya, Yd, Zx, Zz, Zw, Zq, Zj, Zf, Zg, Zy, Yb, Yc, Zv, Zp, Zo, Zu, e1, e2, e3, e4, e5, e6, X1, X2, X3, Y1, Y2, Y3, e1, e2, e3, e4, e5, e6, X1, X2, X3, X5, E0.blk, p0, p1, M3.blk]
    have E3 : Ext w0 w3 := Mod.after (E0.tr (by (repeat (first | exact Ext.rfl | assumption | (refine Ext.al ?_ _) | (refine Ext.dw ?_) | (refine Ext.set ?_ (by first | omega | (simp only [World.size_alloc, size_setRow, Za]; omega)) _) | (refine Ext.tr ?_ (by assumption)))))) M3 (by intro x hx h; (try dsimp only at h); (try simp only [In, World.size_alloc, size_setRow, Za] at *); omega)
    have zE3 := E3.size
    try simp only [World.size_alloc, size_setRow, Za] at zE3
    refine Ret.mono (nx _ _ a7 c7 sv (by first | omega | assumption | rfl | exact congrArg i64 (by omega) | (simp; done) | (simp; omega)) (by first | omega | assumption | rfl | exact congrArg i64 (by omega) | (simp; done) | (simp; omega)) (by first | omega | assumption | rfl | exact congrArg i64 (by omega) | (simp; done) | (simp; omega)) (by first | omega | assumption | rfl | exact congrArg i64 (by omega) | (simp; done) | (simp; omega)) (by first | assumption | rfl | (simp (maxSteps := 1000000) (disch := first | assumption | omega | (simp only [World.size_alloc, size_setRow, Za] <;> omega) | (simp only [List.length_set, Array.length_toList, List.length_cons, List.length_nil, List.length_append, Zn] <;> omega) | (simp only [List.all_cons, List.all_nil, Value.oneCell', Bool.and_self, Bool.and_true]; done)) [-Option.bind_some, Zb, Zc, Zd, Zh, Ze, Zi, Zt, Zk, Zr, Zs, Yg, Yf, Yh, -Zl, -Zm, Ye, Ya, Yd, Zx, Zz, Zw, Zq, Zj, Zf, Zg, Zy, Yb, Yc, Zv, Zp, Zo, Zu, Y1, X1, e1, e2, e3, e4, e5, e6, X1, X2, X3, X5, E0.blk, p0, p1, M3.blk, E3.blk]; done)) (by first | assumption | rfl | (simp (maxSteps := 1000000) (disch := first | assumption | omega | (simp only [World.size_alloc, size_setRow, Za] <;> omega) | (simp only [List.length_set, Array.length_toList, List.length_cons, List.length_nil, List.length_append, Zn] <;> omega) | (simp only [List.all_cons, List.all_nil, Value.oneCell', Bool.and_self, Bool.and_true]; done)) [-Option.bind_some, Zb, Zc, Zd, Zh, Ze, Zi, Zt, Zk, Zr, Zs, Yg, Yf, Yh, -Zl, -Zm, Ye, Ya, Yd, Zx, Zz, Zw, Zq, Zj, Zf, Zg, Zy, Yb, Yc, Zv, Zp, Zo, Zu, Y2, X2, e1, e2, e3, e4, e5, e6, X1, X2, X3, X5, E0.blk, p0, p1, M3.blk, E3.blk]; done)) (by first | assumption | rfl | (simp (maxSteps := 1000000) (disch := first | assumption | omega | (simp only [World.size_alloc, size_setRow, Za] <;> omega) | (simp only [List.length_set, Array.length_toList, List.length_cons, List.length_nil, List.length_append, Zn] <;> omega) | (simp only [List.all_cons, List.all_nil, Value.oneCell', Bool.and_self, Bool.and_true]; done)) [-Option.bind_some, Zb, Zc, Zd, Zh, Ze, Zi, Zt, Zk, Zr, Zs, Yg, Yf, Yh, -Zl, -Zm, Ye, Ya, Yd, Zx, Zz, Zw, Zq, Zj, Zf, Zg, Zy, Yb, Yc, Zv, Zp, Zo, Zu, Y3, X3, e1, e2, e3, e4, e5, e6, X1, X2, X3, X5, E0.blk, p0, p1, M3.blk, E3.blk]; done)) (by (repeat (first | exact Ext.rfl | assumption | (refine Ext.al ?_ _) | (refine Ext.dw ?_) | (refine Ext.set ?_ (by first | omega | (simp only [World.size_alloc, size_setRow, Za]; omega)) _) | (refine Ext.tr ?_ (by assumption))))) (((o7.wide (S' := fun b => In w0.heap.size w3.heap.size b ∧ b ≠ g1 ∧ b ≠ g2 ∧ b ≠ g3) ?_).keep (by intro b hS hb; (try dsimp only at hS); (try simp only [In, World.size_alloc, size_setRow, Za] at hS hb); first | rfl | (simp (disch := first | assumption | omega | (simp only [World.size_alloc, size_setRow, Za]; omega) | (simp only [World.size_alloc, size_setRow, Za, In]; omega)) only [E0.blk, M3.blk, E3.blk, Zb, Zd, Ym]; done))).wide ?_)) hQ
    · intro b h1 h2
      simp only [In, World.size_alloc, size_setRow, Za] at *
      omega
    · intro b h1 h2
      simp only [In, World.size_alloc, size_setRow, Za] at *
      omega
  | succ d ih =>
    intro j e w a3 a5 a6 c3 c5 c6 sv hd e1 e2 e3 e4 e5 e6 X1 X2 X3 X5 E0 ho o5 o6
    have zE0 := E0.size
    try simp only [World.size_alloc, size_setRow, Za] at zE0
    rw [spec_l3Copy_l2_eq]
    have hlj : j < x.wait.length := by omega
    obtain ⟨v, hv, _⟩ := Yk hlj
    obtain ⟨b1, o1, cs1, rfl, A1, D1, _, l1⟩ := (ha.ext E0).at (by decide) hx
    obtain ⟨a2, c2, a4, c4, rfl, h2, h3⟩ := D.node.1 D1
    have p0 := A1 0 _ rfl
    have p1 := A1 1 _ rfl
    simp only [LVer_n, LTag_n, Yn, Nat.add_zero] at p0 p1
    have hn3 := h3.n
    obtain ⟨b2, o2, cs2, rfl, A2, D2, _, l2⟩ := h3.at (by decide) hv
    have D2' := D2
    obtain ⟨av, cv, rfl, hq1, ht1⟩ := D.ver.1 D2
    have q0 := A2 0 _ rfl
    have q1 := A2 1 _ rfl
    have q2 := A2 2 _ rfl
    have q3 := A2 3 _ rfl
    have q4 := A2 4 _ rfl
    have q5 := A2 5 _ rfl
    simp only [LVer_n, LTag_n, Yn, Nat.add_zero] at q0 q1 q2 q3 q4 q5
    have htj : (x.wait.take j).length = j := by rw [List.length_take]; omega
    have y1 := Yq X1
    have y2 := Yq X2
    have y3 := Yq X3
    have y5 := Yq X5
    have zE0 := E0.size
    refine Ret.post fun Q hQ => ?_
    simp (maxSteps := 1000000) (disch := first | assumption | omega | (simp only [World.size_alloc, size_setRow, Za] <;> omega) | (simp only [List.length_set, Array.length_toList, List.length_cons, List.length_nil, List.length_append, Zn] <;> omega) | (simp only [List.all_cons, List.all_nil, Value.oneCell', Bool.and_self, Bool.and_true]; done)) [-Option.bind_some, Zb, Zc, Zd, Zh, Ze, Zi, Zt, Zk, Zr, Zs, Yg, Yf, Yh, -Zl, -Zm, Ye, Ya, Yd, Zx, Zz, Zw, Zq, Zj, Zf, Zg, Zy, Yb, Yc, Zv, Zp, Zo, Zu, e1, e2, e3, e4, e5, e6, X1, X2, X3, X5, hlt, hlj, ia_23, ia_32, show (j : Int) < x.wait.length by omega, e1, e2, e3, e4, e5, e6, X1, X2, X3, X5, E0.blk, p0, p1, q0, q1, q2, q3, q4, q5]
    refine Ret.bind (spec_l2Copy_n (D2'.ext (by (repeat (first | exact Ext.rfl | assumption | (refine Ext.al ?_ _) | (refine Ext.dw ?_) | (refine Ext.set ?_ (by first | omega | (simp only [World.size_alloc, size_setRow, Za]; omega)) _) | (refine Ext.tr ?_ (by assumption))))))) ?_
    rintro ⟨_, w1⟩ ⟨ds, rfl, o8, E1⟩
    try dsimp only at ds o8 E1
    have zE1 := E1.size
    try simp only [World.size_alloc, size_setRow, Za] at zE1
    have zo := O.ver.1 o8
    obtain ⟨a8, c8, rfl, _, _⟩ := zo
    simp (maxSteps := 1000000) (disch := first | assumption | omega | (simp only [World.size_alloc, size_setRow, Za] <;> omega) | (simp only [List.length_set, Array.length_toList, List.length_cons, List.length_nil, List.length_append, Zn] <;> omega) | (simp only [List.all_cons, List.all_nil, Value.oneCell', Bool.and_self, Bool.and_true]; done)) [-Option.bind_some, Zb, Zc, Zd, Zh, Ze, Zi, Zt, Zk, Zr, Zs, Yg, Yf, Yh, -Zl, -Zm, Ye, Ya, Yd, Zx, Zz, Zw, Zq, Zj, Zf, Zg, Zy, Yb, Yc, Zv, Zp, Zo, Zu, e1, e2, e3, e4, e5, e6, X1, X2, X3, X5, hlt, hlj, ia_23, ia_32, show (j : Int) < x.wait.length by omega, e1, e2, e3, e4, e5, e6, X1, X2, X3, X5, E0.blk, p0, p1, q0, q1, q2, q3, q4, q5, E1.blk]
    refine Ret.bind (O.app (L := tVer) (mx := 1954687338211) el_32 zz_45 rfl (by decide) (o6.keep (by intro b hS hb; (try dsimp only at hS); (try simp only [In, World.size_alloc, size_setRow, Za] at hS hb); first | rfl | (simp (disch := first | assumption | omega | (simp only [World.size_alloc, size_setRow, Za]; omega) | (simp only [World.size_alloc, size_setRow, Za, In]; omega)) only [E0.blk, E1.blk, Zb, Zd, Ym]; done))) (o8.keep (by intro b hS hb; (try dsimp only at hS); (try simp only [In, World.size_alloc, size_setRow, Za] at hS hb); first | rfl | (simp (disch := first | assumption | omega | (simp only [World.size_alloc, size_setRow, Za]; omega) | (simp only [World.size_alloc, size_setRow, Za, In]; omega)) only [E0.blk, E1.blk, Zb, Zd, Ym]; done))) ?_ At.new (by omega) (by decide) (by decide)) ?_
    · intro b hb h1 h2
      simp only [In, World.size_alloc, size_setRow, Za] at *
      omega
    rintro ⟨_, w3⟩ ⟨a7, c7, rfl, o7, M3⟩
    have zM3 := M3.size
    try simp only [World.size_alloc, size_setRow, Za] at zM3
    try dsimp only at o7 M3
    have zM3 := M3.size
    simp only [World.size_alloc, size_setRow] at zM3
    rw [htj, ← take_at hv] at o7
    rw [htj]
    have Y1 : hp w3 g1 = hp w g1 := (M3.blk g1 (by (try simp only [In, World.size_alloc, size_setRow, Za] at *); omega) (by (try simp only [In, World.size_alloc, size_setRow, Za] at *); omega)).trans (by first | assumption | rfl | (simp (maxSteps := 1000000) (disch := first | assumption | omega | (simp only [World.size_alloc, size_setRow, Za] <;> omega) | (simp only [List.length_set, Array.length_toList, List.length_cons, List.length_nil, List.length_append, Zn] <;> omega) | (simp only [List.all_cons, List.all_nil, Value.oneCell', Bool.and_self, Bool.and_true]; done)) [-Option.bind_some, Zb, Zc, Zd, Zh, Ze, Zi, Zt, Zk, Zr, Zs, Yg, Yf, Yh, e1, e2, e3, e4, e5, e6, X1, X2, X3, X5, E0.blk, p0, p1, q0, q1, q2, q3, q4, q5, E1.blk, M3.blk]; done))
    have Y2 : hp w3 g2 = hp w g2 := (M3.blk g2 (by (try simp only [In, World.size_alloc, size_setRow, Za] at *); omega) (by (try simp only [In, World.size_alloc, size_setRow, Za] at *); omega)).trans (by first | assumption | rfl | (simp (maxSteps := 1000000) (disch := first | assumption | omega | (simp only [World.size_alloc, size_setRow, Za] <;> omega) | (simp only [List.length_set, Array.length_toList, List.length_cons, List.length_nil, List.length_append, Zn] <;> omega) | (simp only [List.all_cons, List.all_nil, Value.oneCell', Bool.and_self, Bool.and_true]; done)) [-Option.bind_some, Zb, Zc, Zd, Zh, Ze, Zi, Zt, Zk, Zr, Zs, Yg, Yf, Yh, e1, e2, e3, e4, e5, e6, X1, X2, X3, X5, E0.blk, p0, p1, q0, q1, q2, q3, q4, q5, E1.blk, M3.blk]; done))
    have Y3 : hp w3 g3 = hp w g3 := (M3.blk g3 (by (try simp only [In, World.size_alloc, size_setRow, Za] at *); omega) (by (try simp only [In, World.size_alloc, size_setRow, Za] at *); omega)).trans (by first | assumption | rfl | (simp (maxSteps := 1000000) (disch := first | assumption | omega | (simp only [World.size_alloc, size_setRow, Za] <;> omega) | (simp only [List.length_set, Array.length_toList, List.length_cons, List.length_nil, List.length_append, Zn] <;> omega) | (simp only [List.all_cons, List.all_nil, Value.oneCell', Bool.and_self, Bool.and_true]; done)) [-Option.bind_some, Zb, Zc, Zd, Zh, Ze, Zi, Zt, Zk, Zr, Zs, Yg, Yf, Yh, e1, e2, e3, e4, e5, e6, X1, X2, X3, X5, E0.blk, p0, p1, q0, q1, q2, q3, q4, q5, E1.blk, M3.blk]; done))
    have Y5 : hp w3 g5 = hp w g5 := (M3.blk g5 (by (try simp only [In, World.size_alloc, size_setRow, Za] at *); omega) (by (try simp only [In, World.size_alloc, size_setRow, Za] at *); omega)).trans (by first | assumption | rfl | (simp (maxSteps := 1000000) (disch := first | assumption | omega | (simp only [World.size_alloc, size_setRow, Za] <;> omega) | (simp only [List.length_set, Array.length_toList, List.length_cons, List.length_nil, List.length_append, Zn] <;> omega) | (simp only [List.all_cons, List.all_nil, Value.oneCell', Bool.and_self, Bool.and_true]; done)) [-Option.bind_some, Zb, Zc, Zd, Zh, Ze, Zi, Zt, Zk, Zr, Zs, Yg, Yf, Yh, e1, e2, e3, e4, e5, e6, X1, X2, X3, X5, E0.blk, p0, p1, q0, q1, q2, q3, q4, q5, E1.blk, M3.blk]; done))
    simp (maxSteps := 1000000) (disch := first | assumption | omega | (simp only [World.size_alloc, size_setRow, Za] <;> omega) | (simp only [List.length_set, Array.length_toList, List.length_cons, List.length_nil, List.length_append, Zn] <;> omega) | (simp only [List.all_cons, List.all_nil, Value.oneCell', Bool.and_self, Bool.and_true]; done)) [-Option.bind_some, Zb, Zc, Zd, Zh, Ze, Zi, Zt, Zk, Zr, Zs, Yg, Yf, Yh, -Zl, -Zm, Ye, Ya, Yd, Zx, Zz, Zw, Zq, Zj, Zf, Zg, Zy, Yb, Yc, Zv, Zp, Zo, Zu, e1, e2, e3, e4, e5, e6, X1, X2, X3, X5, Y1, Y2, Y3, Y5, e1, e2, e3, e4, e5, e6, X1, X2, X3, X5, E0.blk, p0, p1, q0, q1, q2, q3, q4, q5, E1.blk, M3.blk]
    have E3 : Ext w0 w3 := Mod.after (E0.tr (by (repeat (first | exact Ext.rfl | assumption | (refine Ext.al ?_ _) | (refine Ext.dw ?_) | (refine Ext.set ?_ (by first | omega | (simp only [World.size_alloc, size_setRow, Za]; omega)) _) | (refine Ext.tr ?_ (by assumption)))))) M3 (by intro x hx h; (try dsimp only at h); (try simp only [In, World.size_alloc, size_setRow, Za] at *); omega)
    have zE3 := E3.size
    try simp only [World.size_alloc, size_setRow, Za] at zE3
    refine Ret.mono (ih (j + 1) _ _ a3 a5 a7 c3 c5 c7 sv (by omega) (by first | omega | assumption | rfl | exact congrArg i64 (by omega) | (simp; done) | (simp; omega)) (by first | omega | assumption | rfl | exact congrArg i64 (by omega) | (simp; done) | (simp; omega)) (by first | omega | assumption | rfl | exact congrArg i64 (by omega) | (simp; done) | (simp; omega)) (by first | omega | assumption | rfl | exact congrArg i64 (by omega) | (simp; done) | (simp; omega)) (by first | omega | assumption | rfl | exact congrArg i64 (by omega) | (simp; done) | (simp; omega)) (by first | omega | assumption | rfl | exact congrArg i64 (by omega) | (simp; done) | (simp; omega)) (by first | assumption | rfl | (simp (maxSteps := 1000000) (disch := first | assumption | omega | (simp only [World.size_alloc, size_setRow, Za] <;> omega) | (simp only [List.length_set, Array.length_toList, List.length_cons, List.length_nil, List.length_append, Zn] <;> omega) | (simp only [List.all_cons, List.all_nil, Value.oneCell', Bool.and_self, Bool.and_true]; done)) [-Option.bind_some, Zb, Zc, Zd, Zh, Ze, Zi, Zt, Zk, Zr, Zs, Yg, Yf, Yh, -Zl, -Zm, Ye, Ya, Yd, Zx, Zz, Zw, Zq, Zj, Zf, Zg, Zy, Yb, Yc, Zv, Zp, Zo, Zu, Y1, X1, e1, e2, e3, e4, e5, e6, X1, X2, X3, X5, E0.blk, p0, p1, q0, q1, q2, q3, q4, q5, E1.blk, M3.blk, E3.blk]; done)) (by first | assumption | rfl | (simp (maxSteps := 1000000) (disch := first | assumption | omega | (simp only [World.size_alloc, size_setRow, Za] <;> omega) | (simp only [List.length_set, Array.length_toList, List.length_cons, List.length_nil, List.length_append, Zn] <;> omega) | (simp only [List.all_cons, List.all_nil, Value.oneCell', Bool.and_self, Bool.and_true]; done)) [-Option.bind_some, Zb, Zc, Zd, Zh, Ze, Zi, Zt, Zk, Zr, Zs, Yg, Yf, Yh, -Zl, -Zm, Ye, Ya, Yd, Zx, Zz, Zw, Zq, Zj, Zf, Zg, Zy, Yb, Yc, Zv, Zp, Zo, Zu, Y2, X2, e1, e2, e3, e4, e5, e6, X1, X2, X3, X5, E0.blk, p0, p1, q0, q1, q2, q3, q4, q5, E1.blk, M3.blk, E3.blk]; done)) (by first | assumption | rfl | (simp (maxSteps := 1000000) (disch := first | assumption | omega | (simp only [World.size_alloc, size_setRow, Za] <;> omega) | (simp only [List.length_set, Array.length_toList, List.length_cons, List.length_nil, List.length_append, Zn] <;> omega) | (simp only [List.all_cons, List.all_nil, Value.oneCell', Bool.and_self, Bool.and_true]; done)) [-Option.bind_some, Zb, Zc, Zd, Zh, Ze, Zi, Zt, Zk, Zr, Zs, Yg, Yf, Yh, -Zl, -Zm, Ye, Ya, Yd, Zx, Zz, Zw, Zq, Zj, Zf, Zg, Zy, Yb, Yc, Zv, Zp, Zo, Zu, Y3, X3, e1, e2, e3, e4, e5, e6, X1, X2, X3, X5, E0.blk, p0, p1, q0, q1, q2, q3, q4, q5, E1.blk, M3.blk, E3.blk]; done)) (by first | assumption | rfl | (simp (maxSteps := 1000000) (disch := first | assumption | omega | (simp only [World.size_alloc, size_setRow, Za] <;> omega) | (simp only [List.length_set, Array.length_toList, List.length_cons, List.length_nil, List.length_append, Zn] <;> omega) | (simp only [List.all_cons, List.all_nil, Value.oneCell', Bool.and_self, Bool.and_true]; done)) [-Option.bind_some, Zb, Zc, Zd, Zh, Ze, Zi, Zt, Zk, Zr, Zs, Yg, Yf, Yh, -Zl, -Zm, Ye, Ya, Yd, Zx, Zz, Zw, Zq, Zj, Zf, Zg, Zy, Yb, Yc, Zv, Zp, Zo, Zu, Y5, X5, e1, e2, e3, e4, e5, e6, X1, X2, X3, X5, E0.blk, p0, p1, q0, q1, q2, q3, q4, q5, E1.blk, M3.blk, E3.blk]; done)) (by (repeat (first | exact Ext.rfl | assumption | (refine Ext.al ?_ _) | (refine Ext.dw ?_) | (refine Ext.set ?_ (by first | omega | (simp only [World.size_alloc, size_setRow, Za]; omega)) _) | (refine Ext.tr ?_ (by assumption))))) (ho.keep ?_) (o5.keep ?_) (((o7.wide (S' := In (g5 + 1) w3.heap.size) ?_).keep (by intro b hS hb; (try dsimp only at hS); (try simp only [In, World.size_alloc, size_setRow, Za] at hS hb); first | rfl | (simp (disch := first | assumption | omega | (simp only [World.size_alloc, size_setRow, Za]; omega) | (simp only [World.size_alloc, size_setRow, Za, In]; omega)) only [E0.blk, E1.blk, M3.blk, E3.blk, Zb, Zd, Ym]; done))).wide ?_)) hQ
    · intro b hS hb
      simp only [In] at hS
      exact (show hp _ b = hp w3 b from (by first | assumption | rfl | (simp (maxSteps := 1000000) (disch := first | assumption | omega | (simp only [World.size_alloc, size_setRow, Za] <;> omega) | (simp only [List.length_set, Array.length_toList, List.length_cons, List.length_nil, List.length_append, Zn] <;> omega) | (simp only [List.all_cons, List.all_nil, Value.oneCell', Bool.and_self, Bool.and_true]; done)) [-Option.bind_some, Zb, Zc, Zd, Zh, Ze, Zi, Zt, Zk, Zr, Zs, Yg, Yf, Yh, e1, e2, e3, e4, e5, e6, X1, X2, X3, X5, E0.blk, p0, p1, q0, q1, q2, q3, q4, q5, E1.blk, M3.blk, E3.blk]; done))).trans ((M3.blk b (by (try simp only [In, World.size_alloc, size_setRow, Za] at *); omega) (by (try simp only [In, World.size_alloc, size_setRow, Za] at *); omega)).trans (by first | assumption | rfl | (simp (maxSteps := 1000000) (disch := first | assumption | omega | (simp only [World.size_alloc, size_setRow, Za] <;> omega) | (simp only [List.length_set, Array.length_toList, List.length_cons, List.length_nil, List.length_append, Zn] <;> omega) | (simp only [List.all_cons, List.all_nil, Value.oneCell', Bool.and_self, Bool.and_true]; done)) [-Option.bind_some, Zb, Zc, Zd, Zh, Ze, Zi, Zt, Zk, Zr, Zs, Yg, Yf, Yh, e1, e2, e3, e4, e5, e6, X1, X2, X3, X5, E0.blk, p0, p1, q0, q1, q2, q3, q4, q5, E1.blk, M3.blk, E3.blk]; done)))
    · intro b hS hb
      simp only [In] at hS
      exact (show hp _ b = hp w3 b from (by first | assumption | rfl | (simp (maxSteps := 1000000) (disch := first | assumption | omega | (simp only [World.size_alloc, size_setRow, Za] <;> omega) | (simp only [List.length_set, Array.length_toList, List.length_cons, List.length_nil, List.length_append, Zn] <;> omega) | (simp only [List.all_cons, List.all_nil, Value.oneCell', Bool.and_self, Bool.and_true]; done)) [-Option.bind_some, Zb, Zc, Zd, Zh, Ze, Zi, Zt, Zk, Zr, Zs, Yg, Yf, Yh, e1, e2, e3, e4, e5, e6, X1, X2, X3, X5, E0.blk, p0, p1, q0, q1, q2, q3, q4, q5, E1.blk, M3.blk, E3.blk]; done))).trans ((M3.blk b (by (try simp only [In, World.size_alloc, size_setRow, Za] at *); omega) (by (try simp only [In, World.size_alloc, size_setRow, Za] at *); omega)).trans (by first | assumption | rfl | (simp (maxSteps := 1000000) (disch := first | assumption | omega | (simp only [World.size_alloc, size_setRow, Za] <;> omega) | (simp only [List.length_set, Array.length_toList, List.length_cons, List.length_nil, List.length_append, Zn] <;> omega) | (simp only [List.all_cons, List.all_nil, Value.oneCell', Bool.and_self, Bool.and_true]; done)) [-Option.bind_some, Zb, Zc, Zd, Zh, Ze, Zi, Zt, Zk, Zr, Zs, Yg, Yf, Yh, e1, e2, e3, e4, e5, e6, X1, X2, X3, X5, E0.blk, p0, p1, q0, q1, q2, q3, q4, q5, E1.blk, M3.blk, E3.blk]; done)))
    · intro b h1 h2
      simp only [In, World.size_alloc, size_setRow, Za] at *
      omega
    · intro b h1 h2
      simp only [In, World.size_alloc, size_setRow, Za] at *
      omega
theorem spec_l3Copy_n1 {a : Option Addr} {c g1 g2 g3 : Nat} {S : Nat → Prop} {xs : List CNode} {w0 : World} (h12 : g1 < g2) (h32 : g2 < g3) (h02 : w0.heap.size ≤ g1) (ha : D Yr S w0 [.slice a xs.length c] xs) :
    ∀ (d k : Nat) (e : Env) (w : World) (a3 : Option Addr) (c3 : Nat) (sv : Value), k + d = xs.length → e 1 = pt g1 0 → e 2 = pt g2 0 → e 3 = pt g3 0 → e 4 = i64 k → hp w g1 = some (.cells #[.slice a xs.length c] 25 (0, 0)) → hp w g2 = some (.cells #[sv] 25 (0, 0)) → hp w g3 = some (.cells #[.slice a3 k c3] 25 (0, 0)) →
    Ext w0 w → O Yr (fun b => In w0.heap.size w.heap.size b ∧ b ≠ g1 ∧ b ≠ g2 ∧ b ≠ g3) w [.slice a3 k c3] (xs.take k) →
    Ret (spec_l3Copy_l1 e w) fun r => ∃ a' c', r.1 = .agg #[.slice a' xs.length c'] ∧ O Yr (In w0.heap.size r.2.heap.size) r.2 [.slice a' xs.length c'] xs ∧ Ext w0 r.2 := by
  have hn := ha.n
  intro d
  induction d with
  | zero =>
    intro k e w a3 c3 sv hd e1 e2 e3 e4 X1 X2 X3 E0 ho
    have zE0 := E0.size
    try simp only [World.size_alloc, size_setRow, Za] at zE0
    rw [spec_l3Copy_l1_eq]
    obtain rfl : k = xs.length := by omega
    rw [List.take_length] at ho
    have y1 := Yq X1
    have y2 := Yq X2
    have y3 := Yq X3
    refine Ret.post fun Q hQ => ?_
    simp (maxSteps := 1000000) (disch := first | assumption | omega | (simp only [World.size_alloc, size_setRow, Za] <;> omega) | (simp only [List.length_set, Array.length_toList, List.length_cons, List.length_nil, List.length_append, Zn] <;> omega) | (simp only [List.all_cons, List.all_nil, Value.oneCell', Bool.and_self, Bool.and_true]; done)) [-Option.bind_some, Zb, Zc, Zd, Zh, Ze, Zi, Zt, Zk, Zr, Zs, Yg, Yf, Yh, -Zl, -Zm, Ye, Ya, Yd, Zx, Zz, Zw, Zq, Zj, Zf, Zg, Zy, Yb, Yc, Zv, Zp, Zo, Zu, e1, e2, e3, e4, X1, X2, X3, e1, e2, e3, e4, X1, X2, X3, E0.blk]
    exact hQ _ ⟨_, _, rfl, (ho.keep (by intro b hS hb; (try dsimp only at hS); (try simp only [In, World.size_alloc, size_setRow, Za] at hS hb); first | rfl | (simp (disch := first | assumption | omega | (simp only [World.size_alloc, size_setRow, Za]; omega) | (simp only [World.size_alloc, size_setRow, Za, In]; omega)) only [E0.blk, Zb, Zd, Ym]; done))).wide (by intro b h1 h2; (try dsimp only at h1); (try simp only [In, World.size_alloc, size_setRow, Za] at *); omega), by (repeat (first | exact Ext.rfl | assumption | (refine Ext.al ?_ _) | (refine Ext.dw ?_) | (refine Ext.set ?_ (by first | omega | (simp only [World.size_alloc, size_setRow, Za]; omega)) _) | (refine Ext.tr ?_ (by assumption))))⟩
  | succ d ih =>
    intro k e w a3 c3 sv hd e1 e2 e3 e4 X1 X2 X3 E0 ho
    have zE0 := E0.size
    try simp only [World.size_alloc, size_setRow, Za] at zE0
    rw [spec_l3Copy_l1_eq]
    have hlt : k < xs.length := by omega
    obtain ⟨x, hx, _⟩ := Yk hlt
    have l2 := fun (g5 B : Nat) (h3B : g3 < B) (hB5 : B ≤ g5) => spec_l3Copy_n2 (c := c) h12 h32 h02 h3B hB5 ha hlt hx (fun e w a3 c3 sv e1 e2 e3 e4 X1 X2 X3 E0 ho => ih (k + 1) e w a3 c3 sv (by omega) e1 e2 e3 e4 X1 X2 X3 E0 ho)
    obtain ⟨b1, o1, cs1, rfl, A1, D1, _, l1⟩ := (ha.ext E0).at (by decide) hx
    obtain ⟨a2, c2, a4, c4, rfl, h2, h3⟩ := D.node.1 D1
    have p0 := A1 0 _ rfl
    have p1 := A1 1 _ rfl
    simp only [LVer_n, LTag_n, Yn, Nat.add_zero] at p0 p1
    have y1 := Yq X1
    have y2 := Yq X2
    have y3 := Yq X3
    have zE0 := E0.size
    refine Ret.post fun Q hQ => ?_
    simp (maxSteps := 1000000) (disch := first | assumption | omega | (simp only [World.size_alloc, size_setRow, Za] <;> omega) | (simp only [List.length_set, Array.length_toList, List.length_cons, List.length_nil, List.length_append, Zn] <;> omega) | (simp only [List.all_cons, List.all_nil, Value.oneCell', Bool.and_self, Bool.and_true]; done)) [-Option.bind_some, Zb, Zc, Zd, Zh, Ze, Zi, Zt, Zk, Zr, Zs, Yg, Yf, Yh, -Zl, -Zm, Ye, Ya, Yd, Zx, Zz, Zw, Zq, Zj, Zf, Zg, Zy, Yb, Yc, Zv, Zp, Zo, Zu, e1, e2, e3, e4, X1, X2, X3, hlt, ia_23, e1, e2, e3, e4, X1, X2, X3, E0.blk, hlt, p0, p1]
    refine Ret.bind (spec_l2CopyStore_n (h2.ext (by (repeat (first | exact Ext.rfl | assumption | (refine Ext.al ?_ _) | (refine Ext.dw ?_) | (refine Ext.set ?_ (by first | omega | (simp only [World.size_alloc, size_setRow, Za]; omega)) _) | (refine Ext.tr ?_ (by assumption))))))) ?_
    rintro ⟨_, w1⟩ ⟨a5, c5, rfl, o5, E1⟩
    try dsimp only at a5 c5 o5 E1
    have zE1 := E1.size
    try simp only [World.size_alloc, size_setRow, Za] at zE1
    simp (maxSteps := 1000000) (disch := first | assumption | omega | (simp only [World.size_alloc, size_setRow, Za] <;> omega) | (simp only [List.length_set, Array.length_toList, List.length_cons, List.length_nil, List.length_append, Zn] <;> omega) | (simp only [List.all_cons, List.all_nil, Value.oneCell', Bool.and_self, Bool.and_true]; done)) [-Option.bind_some, Zb, Zc, Zd, Zh, Ze, Zi, Zt, Zk, Zr, Zs, Yg, Yf, Yh, -Zl, -Zm, Ye, Ya, Yd, Zx, Zz, Zw, Zq, Zj, Zf, Zg, Zy, Yb, Yc, Zv, Zp, Zo, Zu, e1, e2, e3, e4, X1, X2, X3, e1, e2, e3, e4, X1, X2, X3, E0.blk, hlt, p0, p1, E1.blk]
    refine Ret.mono (l2 w1.heap.size w.heap.size (by omega) (by omega) x.wait.length 0 _ _ a3 a5 none c3 c5 0 sv (by omega) (by first | omega | assumption | rfl | exact congrArg i64 (by omega) | (simp; done) | (simp; omega)) (by first | omega | assumption | rfl | exact congrArg i64 (by omega) | (simp; done) | (simp; omega)) (by first | omega | assumption | rfl | exact congrArg i64 (by omega) | (simp; done) | (simp; omega)) (by first | omega | assumption | rfl | exact congrArg i64 (by omega) | (simp; done) | (simp; omega)) (by first | omega | assumption | rfl | exact congrArg i64 (by omega) | (simp; done) | (simp; omega)) (by first | omega | assumption | rfl | exact congrArg i64 (by omega) | (simp; done) | (simp; omega)) (by first | assumption | rfl | (simp (maxSteps := 1000000) (disch := first | assumption | omega | (simp only [World.size_alloc, size_setRow, Za] <;> omega) | (simp only [List.length_set, Array.length_toList, List.length_cons, List.length_nil, List.length_append, Zn] <;> omega) | (simp only [List.all_cons, List.all_nil, Value.oneCell', Bool.and_self, Bool.and_true]; done)) [-Option.bind_some, Zb, Zc, Zd, Zh, Ze, Zi, Zt, Zk, Zr, Zs, Yg, Yf, Yh, -Zl, -Zm, Ye, Ya, Yd, Zx, Zz, Zw, Zq, Zj, Zf, Zg, Zy, Yb, Yc, Zv, Zp, Zo, Zu, X1, e1, e2, e3, e4, X1, X2, X3, E0.blk, hlt, p0, p1, E1.blk]; done)) (by first | assumption | rfl | (simp (maxSteps := 1000000) (disch := first | assumption | omega | (simp only [World.size_alloc, size_setRow, Za] <;> omega) | (simp only [List.length_set, Array.length_toList, List.length_cons, List.length_nil, List.length_append, Zn] <;> omega) | (simp only [List.all_cons, List.all_nil, Value.oneCell', Bool.and_self, Bool.and_true]; done)) [-Option.bind_some, Zb, Zc, Zd, Zh, Ze, Zi, Zt, Zk, Zr, Zs, Yg, Yf, Yh, -Zl, -Zm, Ye, Ya, Yd, Zx, Zz, Zw, Zq, Zj, Zf, Zg, Zy, Yb, Yc, Zv, Zp, Zo, Zu, X2, e1, e2, e3, e4, X1, X2, X3, E0.blk, hlt, p0, p1, E1.blk]; done)) (by first | assumption | rfl | (simp (maxSteps := 1000000) (disch := first | assumption | omega | (simp only [World.size_alloc, size_setRow, Za] <;> omega) | (simp only [List.length_set, Array.length_toList, List.length_cons, List.length_nil, List.length_append, Zn] <;> omega) | (simp only [List.all_cons, List.all_nil, Value.oneCell', Bool.and_self, Bool.and_true]; done)) [-Option.bind_some, Zb, Zc, Zd, Zh, Ze, Zi, Zt, Zk, Zr, Zs, Yg, Yf, Yh, -Zl, -Zm, Ye, Ya, Yd, Zx, Zz, Zw, Zq, Zj, Zf, Zg, Zy, Yb, Yc, Zv, Zp, Zo, Zu, X3, e1, e2, e3, e4, X1, X2, X3, E0.blk, hlt, p0, p1, E1.blk]; done)) (by first | assumption | rfl | (simp (maxSteps := 1000000) (disch := first | assumption | omega | (simp only [World.size_alloc, size_setRow, Za] <;> omega) | (simp only [List.length_set, Array.length_toList, List.length_cons, List.length_nil, List.length_append, Zn] <;> omega) | (simp only [List.all_cons, List.all_nil, Value.oneCell', Bool.and_self, Bool.and_true]; done)) [-Option.bind_some, Zb, Zc, Zd, Zh, Ze, Zi, Zt, Zk, Zr, Zs, Yg, Yf, Yh, -Zl, -Zm, Ye, Ya, Yd, Zx, Zz, Zw, Zq, Zj, Zf, Zg, Zy, Yb, Yc, Zv, Zp, Zo, Zu, e1, e2, e3, e4, X1, X2, X3, E0.blk, hlt, p0, p1, E1.blk]; done)) (by (repeat (first | exact Ext.rfl | assumption | (refine Ext.al ?_ _) | (refine Ext.dw ?_) | (refine Ext.set ?_ (by first | omega | (simp only [World.size_alloc, size_setRow, Za]; omega)) _) | (refine Ext.tr ?_ (by assumption))))) ((ho.keep (by intro b hS hb; (try dsimp only at hS); (try simp only [In, World.size_alloc, size_setRow, Za] at hS hb); first | rfl | (simp (disch := first | assumption | omega | (simp only [World.size_alloc, size_setRow, Za]; omega) | (simp only [World.size_alloc, size_setRow, Za, In]; omega)) only [E0.blk, E1.blk, Zb, Zd, Ym]; done))).wide (by intro b h1 h2; (try dsimp only at h1); (try simp only [In, World.size_alloc, size_setRow, Za] at *); omega)) (o5.keep (by intro b hS hb; (try dsimp only at hS); (try simp only [In, World.size_alloc, size_setRow, Za] at hS hb); first | rfl | (simp (disch := first | assumption | omega | (simp only [World.size_alloc, size_setRow, Za]; omega) | (simp only [World.size_alloc, size_setRow, Za, In]; omega)) only [E0.blk, E1.blk, Zb, Zd, Ym]; done))) ?_) hQ
    exact O.nil
theorem spec_l3Copy_n {a : Option Addr} {n c : Nat} {S : Nat → Prop} {xs : List CNode} {w : World} (ha : D Yr S w [.slice a n c] xs) :
    Ret (EV P 21 #[.agg #[.slice a n c]] w) fun r => ∃ a' c', r.1 = .agg #[.slice a' xs.length c'] ∧ O Yr (In w.heap.size r.2.heap.size) r.2 [.slice a' xs.length c'] xs ∧ Ext w r.2 := by
  obtain ⟨rfl, hm, _⟩ := ha.n
  refine Ret.post fun Q hQ => ?_
  refine Ret.enter plain Yo (spec_l3Copy_fn _ _) (by kernel_rfl) (n := 1) (by kernel_rfl) rfl ?_
  simp (maxSteps := 1000000) (disch := first | assumption | omega | (simp only [World.size_alloc, size_setRow, Za] <;> omega) | (simp only [List.length_set, Array.length_toList, List.length_cons, List.length_nil, List.length_append, Zn] <;> omega) | (simp only [List.all_cons, List.all_nil, Value.oneCell', Bool.and_self, Bool.and_true]; done)) [-Option.bind_some, Zb, Zc, Zd, Zh, Ze, Zi, Zt, Zk, Zr, Zs, Yg, Yf, Yh, -Zl, -Zm, Ye, Ya, Yd, Zx, Zz, Zw, Zq, Zj, Zf, Zg, Zy, Yb, Yc, Zv, Zp, Zo, Zu]
  refine Ret.mono (spec_l3Copy_n1 (g1 := w.heap.size) (g2 := w.heap.size + 1) (g3 := w.heap.size + 1 + 1) (w0 := w) (by omega) (by omega) (by omega) ha xs.length 0 _ _ none 0 (.slice none 0 0) (by omega) rfl rfl rfl rfl (by first | assumption | rfl | (simp (maxSteps := 1000000) (disch := first | assumption | omega | (simp only [World.size_alloc, size_setRow, Za] <;> omega) | (simp only [List.length_set, Array.length_toList, List.length_cons, List.length_nil, List.length_append, Zn] <;> omega) | (simp only [List.all_cons, List.all_nil, Value.oneCell', Bool.and_self, Bool.and_true]; done)) [-Option.bind_some, Zb, Zc, Zd, Zh, Ze, Zi, Zt, Zk, Zr, Zs, Yg, Yf, Yh, -Zl, -Zm, Ye, Ya, Yd, Zx, Zz, Zw, Zq, Zj, Zf, Zg, Zy, Yb, Yc, Zv, Zp, Zo, Zu]; done)) (by first | assumption | rfl | (simp (maxSteps := 1000000) (disch := first | assumption | omega | (simp only [World.size_alloc, size_setRow, Za] <;> omega) | (simp only [List.length_set, Array.length_toList, List.length_cons, List.length_nil, List.length_append, Zn] <;> omega) | (simp only [List.all_cons, List.all_nil, Value.oneCell', Bool.and_self, Bool.and_true]; done)) [-Option.bind_some, Zb, Zc, Zd, Zh, Ze, Zi, Zt, Zk, Zr, Zs, Yg, Yf, Yh, -Zl, -Zm, Ye, Ya, Yd, Zx, Zz, Zw, Zq, Zj, Zf, Zg, Zy, Yb, Yc, Zv, Zp, Zo, Zu]; done)) (by first | assumption | rfl | (simp (maxSteps := 1000000) (disch := first | assumption | omega | (simp only [World.size_alloc, size_setRow, Za] <;> omega) | (simp only [List.length_set, Array.length_toList, List.length_cons, List.length_nil, List.length_append, Zn] <;> omega) | (simp only [List.all_cons, List.all_nil, Value.oneCell', Bool.and_self, Bool.and_true]; done)) [-Option.bind_some, Zb, Zc, Zd, Zh, Ze, Zi, Zt, Zk, Zr, Zs, Yg, Yf, Yh, -Zl, -Zm, Ye, Ya, Yd, Zx, Zz, Zw, Zq, Zj, Zf, Zg, Zy, Yb, Yc, Zv, Zp, Zo, Zu]; done)) (by (repeat (first | exact Ext.rfl | assumption | (refine Ext.al ?_ _) | (refine Ext.dw ?_) | (refine Ext.set ?_ (by first | omega | (simp only [World.size_alloc, size_setRow, Za]; omega)) _) | (refine Ext.tr ?_ (by assumption))))) O.nil) ?_
  rintro r ⟨a4, c4, h1, o4, E4⟩
  have zE4 := E4.size
  try simp only [World.size_alloc, size_setRow, Za] at zE4
  exact hQ _ ⟨_, _, h1, o4, E4⟩
end Go.Proofs.YtjagkbamkohnoaaGreat.X
