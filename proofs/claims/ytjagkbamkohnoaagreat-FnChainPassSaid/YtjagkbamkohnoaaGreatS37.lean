/- A part of the proof: an evaluator of the model, its laws, and contracts of functions; no condition. -/
import Derived.Test.YtjagkbamkohnoaaGreatS36
set_option linter.unusedVariables false
set_option linter.unusedSimpArgs false
set_option maxRecDepth 100000
set_option maxHeartbeats 1000000
namespace Go.Proofs.YtjagkbamkohnoaaGreat.X
open Go Go.Ev Go.RowKit
theorem spec_DrawChainPass_m {s : Value} {ns : List Int} {w : World} (hs : rBytes w s ns) (hn : ns.length ≤ 1000000000000) :
    Ret (EV P 4 #[s] w) fun r => ∃ (xs : List CNode) (i : Int) (a : Option Addr) (c : Nat), r.1 = .tuple #[.agg #[.slice a xs.length c], i64 i] ∧ D Yr (fun b => w.heap.size ≤ b) r.2 [.slice a xs.length c] xs ∧ Ext w r.2 := by
  refine Ret.post fun Q hQ => ?_
  refine Ret.enter plain Yo (spec_DrawChainPass_fn _ _) (by kernel_rfl) (n := 1) (by kernel_rfl) rfl ?_
  simp (maxSteps := 1000000) (disch := first | assumption | omega | (simp only [World.size_alloc, size_setRow, Za] <;> omega) | (simp only [List.length_set, Array.length_toList, List.length_cons, List.length_nil, List.length_append, Zn] <;> omega) | (simp only [List.all_cons, List.all_nil, Value.oneCell', Bool.and_self, Bool.and_true]; done)) [-Option.bind_some, Zb, Zc, Zd, Zh, Ze, Zi, Zt, Zk, Zr, Zs, Yg, Yf, Yh, -Zl, -Zm, Ye, Ya, Yd, Zx, Zz, Zw, Zq, Zj, Zf, Zg, Zy, Yb, Yc, Zv, Zp, Zo, Zu]
  refine Ret.bind (spec_l20Open_m (hs.mono (Ext.keep (by (repeat (first | exact Ext.rfl | assumption | (refine Ext.al ?_ _) | (refine Ext.dw ?_) | (refine Ext.set ?_ (by first | omega | (simp only [World.size_alloc, size_setRow, Za]; omega)) _) | (refine Ext.tr ?_ (by assumption))))))) hn) ?_
  rintro ⟨_, w1⟩ ⟨g, rfl, R1, E1⟩
  have zE1 := E1.size
  try simp only [World.size_alloc, size_setRow, Za] at zE1
  try dsimp only at R1 E1
  have zE1 := E1.size
  have l1 := R1.lt
  simp only [World.size_alloc] at R1 E1 zE1 l1
  have E1' : Ext w w1 := by (repeat (first | exact Ext.rfl | assumption | (refine Ext.al ?_ _) | (refine Ext.dw ?_) | (refine Ext.set ?_ (by first | omega | (simp only [World.size_alloc, size_setRow, Za]; omega)) _) | (refine Ext.tr ?_ (by assumption))))
  have Y0 : hp w1 w.heap.size = some (.cells #[.slice none 0 0] 25 (0, 0)) := (E1.blk (by simp only [World.size_alloc]; omega)).trans (by first | assumption | rfl | (simp (maxSteps := 1000000) (disch := first | assumption | omega | (simp only [World.size_alloc, size_setRow, Za] <;> omega) | (simp only [List.length_set, Array.length_toList, List.length_cons, List.length_nil, List.length_append, Zn] <;> omega) | (simp only [List.all_cons, List.all_nil, Value.oneCell', Bool.and_self, Bool.and_true]; done)) [-Option.bind_some, Zb, Zc, Zd, Zh, Ze, Zi, Zt, Zk, Zr, Zs, Yg, Yf, Yh, -Zl, -Zm, Ye, Ya, Yd, Zx, Zz, Zw, Zq, Zj, Zf, Zg, Zy, Yb, Yc, Zv, Zp, Zo, Zu, E1.blk]; done))
  simp (maxSteps := 1000000) (disch := first | assumption | omega | (simp only [World.size_alloc, size_setRow, Za] <;> omega) | (simp only [List.length_set, Array.length_toList, List.length_cons, List.length_nil, List.length_append, Zn] <;> omega) | (simp only [List.all_cons, List.all_nil, Value.oneCell', Bool.and_self, Bool.and_true]; done)) [-Option.bind_some, Zb, Zc, Zd, Zh, Ze, Zi, Zt, Zk, Zr, Zs, Yg, Yf, Yh, -Zl, -Zm, Ye, Ya, Yd, Zx, Zz, Zw, Zq, Zj, Zf, Zg, Zy, Yb, Yc, Zv, Zp, Zo, Zu, E1.blk]
  refine Ret.bind (spec_l20AnyChain_m (by omega) R1) ?_
  rintro ⟨_, w2⟩ ⟨xs, a, c, p2, rfl, d2, hp2, R2, M2⟩
  have zM2 := M2.size
  try simp only [World.size_alloc, size_setRow, Za] at zM2
  try dsimp only at d2 R2 M2
  have zM2 := M2.size
  simp (maxSteps := 1000000) (disch := first | assumption | omega | (simp only [World.size_alloc, size_setRow, Za] <;> omega) | (simp only [List.length_set, Array.length_toList, List.length_cons, List.length_nil, List.length_append, Zn] <;> omega) | (simp only [List.all_cons, List.all_nil, Value.oneCell', Bool.and_self, Bool.and_true]; done)) [-Option.bind_some, Zb, Zc, Zd, Zh, Ze, Zi, Zt, Zk, Zr, Zs, Yg, Yf, Yh, -Zl, -Zm, Ye, Ya, Yd, Zx, Zz, Zw, Zq, Zj, Zf, Zg, Zy, Yb, Yc, Zv, Zp, Zo, Zu, E1.blk, M2.blk]
  have N2 : Mod (fun b => b = g) w w2 := (Mod.of E1' _).tr M2
  refine Ret.bind (spec_l20Rd_one_m (ints := [0, 0, 0, 1, 1, 2, 3, -1]) (k := 8) (by omega) (by omega) (by omega) rfl (by rw [← show (dw ((w2.alloc (.cells #[.slice none 0 0] 25)).setRow w2.heap.size #[.slice a xs.length c])).heap.size = w2.heap.size + 1 by simp only [Za, size_setRow, World.size_alloc]]; exact At.new (cs := [i64 0, i64 0, i64 0, i64 1, i64 1, i64 2, i64 3, i64 (-1)])) (by omega) (R2.keep (fun b h hb => (by first | assumption | rfl | (simp (maxSteps := 1000000) (disch := first | assumption | omega | (simp only [World.size_alloc, size_setRow, Za] <;> omega) | (simp only [List.length_set, Array.length_toList, List.length_cons, List.length_nil, List.length_append, Zn] <;> omega) | (simp only [List.all_cons, List.all_nil, Value.oneCell', Bool.and_self, Bool.and_true]; done)) [-Option.bind_some, Zb, Zc, Zd, Zh, Ze, Zi, Zt, Zk, Zr, Zs, Yg, Yf, Yh, E1.blk, M2.blk]; done))))) ?_
  rintro ⟨_, w3⟩ ⟨n, _, rfl, R3, M3⟩
  have zM3 := M3.size
  try simp only [World.size_alloc, size_setRow, Za] at zM3
  try dsimp only at R3 M3
  have zM3 := M3.size
  simp only [World.size_alloc, size_setRow, Za] at zM3
  have kk : ∀ b, b < w2.heap.size → b ≠ g → hp w3 b = hp w2 b := fun b h1 h2 => (M3.blk b (by (try simp only [In, World.size_alloc, size_setRow, Za] at *); omega) h2).trans (by rw [Zb (by simp only [Za, size_setRow, World.size_alloc]; omega), Ym, Zd (by omega), Zb (by omega)])
  have Z2 : hp w3 w2.heap.size = some (.cells #[.slice a xs.length c] 25 (0, 0)) := (M3.blk _ (by (try simp only [In, World.size_alloc, size_setRow, Za] at *); omega) (by omega)).trans (by first | assumption | rfl | (simp (maxSteps := 1000000) (disch := first | assumption | omega | (simp only [World.size_alloc, size_setRow, Za] <;> omega) | (simp only [List.length_set, Array.length_toList, List.length_cons, List.length_nil, List.length_append, Zn] <;> omega) | (simp only [List.all_cons, List.all_nil, Value.oneCell', Bool.and_self, Bool.and_true]; done)) [-Option.bind_some, Zb, Zc, Zd, Zh, Ze, Zi, Zt, Zk, Zr, Zs, Yg, Yf, Yh, -Zl, -Zm, Ye, Ya, Yd, Zx, Zz, Zw, Zq, Zj, Zf, Zg, Zy, Yb, Yc, Zv, Zp, Zo, Zu, E1.blk, M2.blk, M3.blk]; done))
  have Z0 : hp w3 w.heap.size = some (.cells #[.slice none 0 0] 25 (0, 0)) := (kk _ (by omega) (by omega)).trans ((M2.blk _ (by omega) (by omega)).trans Y0)
  have d2' : D Yr (fun b => w.heap.size + 1 ≤ b) w3 [.slice a xs.length c] xs := (d2.lt.keep (fun b hS hb => kk b (by omega) (by omega))).wide (fun b h _ => by omega)
  have N3 : Ext w w3 := (((N2.al _).set' (.inl (by omega)) _ |>.dw').al _ |>.tr M3).ext (fun b hb h => by omega)
  simp (maxSteps := 1000000) (disch := first | assumption | omega | (simp only [World.size_alloc, size_setRow, Za] <;> omega) | (simp only [List.length_set, Array.length_toList, List.length_cons, List.length_nil, List.length_append, Zn] <;> omega) | (simp only [List.all_cons, List.all_nil, Value.oneCell', Bool.and_self, Bool.and_true]; done)) [-Option.bind_some, Zb, Zc, Zd, Zh, Ze, Zi, Zt, Zk, Zr, Zs, Yg, Yf, Yh, -Zl, -Zm, Ye, Ya, Yd, Zx, Zz, Zw, Zq, Zj, Zf, Zg, Zy, Yb, Yc, Zv, Zp, Zo, Zu, Z0, Z2, E1.blk, M2.blk, M3.blk]
  refine hQ _ ⟨xs, n, a, c, rfl, (d2'.keep (fun b hS hb => ?_)).wide (fun b h _ => by omega), by (repeat (first | exact Ext.rfl | assumption | (refine Ext.al ?_ _) | (refine Ext.dw ?_) | (refine Ext.set ?_ (by first | omega | (simp only [World.size_alloc, size_setRow, Za]; omega)) _) | (refine Ext.tr ?_ (by assumption))))⟩
  rw [Zd (by omega)]
end Go.Proofs.YtjagkbamkohnoaaGreat.X
