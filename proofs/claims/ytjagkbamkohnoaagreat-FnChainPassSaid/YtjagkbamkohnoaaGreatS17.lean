/- A part of the proof: an evaluator of the model, its laws, and contracts of functions; no condition. -/
import Derived.Test.YtjagkbamkohnoaaGreatEvO
import Derived.Test.YtjagkbamkohnoaaGreatS13
set_option linter.unusedVariables false
set_option linter.unusedSimpArgs false
set_option maxRecDepth 100000
set_option maxHeartbeats 1000000
namespace Go.Proofs.YtjagkbamkohnoaaGreat.X
open Go Go.Ev Go.RowKit
def joined (ns : List CNode) : List CNode := ns ++ [⟨lastStore ns, []⟩]
theorem impl_tried_n {a : Option Addr} {n c : Nat} {f : Value} {S : Nat → Prop} {ns ys : List CNode} {q : Bool} {w : World} (ha : D Yr S w [.slice a n c] ns)
    (hf : ∀ (S : Nat → Prop) (g : Nat) (w' : World) (a : Option Addr) (c : Nat), O Yr S w' [.slice a ns.length c] ns → hp w' g = some (.cells #[.slice a ns.length c] 25 (0, 0)) → ¬ S g → w.heap.size ≤ g → Ext w w' → (∀ b, S b → w.heap.size ≤ b) →
      Ret (clo P f #[pt g 0] w') fun r => r.1 = .bool q ∧ ∃ a' c', hp r.2 g = some (.cells #[.slice a' ys.length c'] 25 (0, 0)) ∧ O Yr (fun b => S b ∨ In w'.heap.size r.2.heap.size b) r.2 [.slice a' ys.length c'] ys ∧ Mod (fun b => S b ∨ b = g) w' r.2) :
    Ret (EV P 16 #[.agg #[.slice a n c], f] w) fun r => ∃ a' c', r.1 = .tuple #[.agg #[.slice a' ys.length c'], .bool q] ∧ O Yr (In w.heap.size r.2.heap.size) r.2 [.slice a' ys.length c'] ys ∧ Ext w r.2 := by
  obtain ⟨rfl, hm, _⟩ := ha.n
  refine Ret.post fun Q hQ => ?_
  refine Ret.enter plain Yo (impl_tried_fn _ _ _) (by kernel_rfl) (n := 2) (by kernel_rfl) rfl ?_
  simp (maxSteps := 1000000) (disch := first | assumption | omega | (simp only [World.size_alloc, size_setRow, Za] <;> omega) | (simp only [List.length_set, Array.length_toList, List.length_cons, List.length_nil, List.length_append, Zn] <;> omega) | (simp only [List.all_cons, List.all_nil, Value.oneCell', Bool.and_self, Bool.and_true]; done)) [-Option.bind_some, Zb, Zc, Zd, Zh, Ze, Zi, Zt, Zk, Zr, Zs, Yg, Yf, Yh, -Zl, -Zm, Ye, Ya, Yd, Zx, Zz, Zw, Zq, Zj, Zf, Zg, Zy, Yb, Yc, Zv, Zp, Zo, Zu]
  refine Ret.bind (impl_Chain_copied_n (ha.ext (by (repeat (first | exact Ext.rfl | assumption | (refine Ext.al ?_ _) | (refine Ext.dw ?_) | (refine Ext.set ?_ (by first | omega | (simp only [World.size_alloc, size_setRow, Za]; omega)) _) | (refine Ext.tr ?_ (by assumption))))))) ?_
  rintro ⟨_, w1⟩ ⟨a1, c1, rfl, o1, E1⟩
  try dsimp only at a1 c1 o1 E1
  have zE1 := E1.size
  try simp only [World.size_alloc, size_setRow, Za] at zE1
  simp (maxSteps := 1000000) (disch := first | assumption | omega | (simp only [World.size_alloc, size_setRow, Za] <;> omega) | (simp only [List.length_set, Array.length_toList, List.length_cons, List.length_nil, List.length_append, Zn] <;> omega) | (simp only [List.all_cons, List.all_nil, Value.oneCell', Bool.and_self, Bool.and_true]; done)) [-Option.bind_some, Zb, Zc, Zd, Zh, Ze, Zi, Zt, Zk, Zr, Zs, Yg, Yf, Yh, -Zl, -Zm, Ye, Ya, Yd, Zx, Zz, Zw, Zq, Zj, Zf, Zg, Zy, Yb, Yc, Zv, Zp, Zo, Zu, E1.blk]
  have F1 : Ext w w1 := by (repeat (first | exact Ext.rfl | assumption | (refine Ext.al ?_ _) | (refine Ext.dw ?_) | (refine Ext.set ?_ (by first | omega | (simp only [World.size_alloc, size_setRow, Za]; omega)) _) | (refine Ext.tr ?_ (by assumption))))
  refine Ret.bind (hf _ w1.heap.size _ a1 c1 (o1.keep (by intro b hS hb; (try dsimp only at hS); (try simp only [In, World.size_alloc, size_setRow, Za] at hS hb); first | rfl | (simp (disch := first | assumption | omega | (simp only [World.size_alloc, size_setRow, Za]; omega) | (simp only [World.size_alloc, size_setRow, Za, In]; omega)) only [E1.blk, Zb, Zd, Ym]; done))) (by first | assumption | rfl | (simp (maxSteps := 1000000) (disch := first | assumption | omega | (simp only [World.size_alloc, size_setRow, Za] <;> omega) | (simp only [List.length_set, Array.length_toList, List.length_cons, List.length_nil, List.length_append, Zn] <;> omega) | (simp only [List.all_cons, List.all_nil, Value.oneCell', Bool.and_self, Bool.and_true]; done)) [-Option.bind_some, Zb, Zc, Zd, Zh, Ze, Zi, Zt, Zk, Zr, Zs, Yg, Yf, Yh, -Zl, -Zm, Ye, Ya, Yd, Zx, Zz, Zw, Zq, Zj, Zf, Zg, Zy, Yb, Yc, Zv, Zp, Zo, Zu, E1.blk]; done)) (by (try simp only [In, World.size_alloc, size_setRow, Za] at *); omega) (by omega) (by (repeat (first | exact Ext.rfl | assumption | (refine Ext.al ?_ _) | (refine Ext.dw ?_) | (refine Ext.set ?_ (by first | omega | (simp only [World.size_alloc, size_setRow, Za]; omega)) _) | (refine Ext.tr ?_ (by assumption))))) (fun b h => by simp only [In, World.size_alloc, Za] at h; omega)) ?_
  rintro ⟨_, w2⟩ ⟨rfl, a2, c2, X2, o2, M2⟩
  have zM2 := M2.size
  try simp only [World.size_alloc, size_setRow, Za] at zM2
  try dsimp only at o2 M2 X2
  have zM2 := M2.size
  simp only [World.size_alloc, size_setRow] at zM2
  have Y1 : hp w2 (w.heap.size + 1) = some (.cells #[.slice none 0 0] 25 (0, 0)) := (M2.blk (w.heap.size + 1) (by (try simp only [In, World.size_alloc, size_setRow, Za] at *); omega) (by (try simp only [In, World.size_alloc, size_setRow, Za] at *); omega)).trans (by first | assumption | rfl | (simp (maxSteps := 1000000) (disch := first | assumption | omega | (simp only [World.size_alloc, size_setRow, Za] <;> omega) | (simp only [List.length_set, Array.length_toList, List.length_cons, List.length_nil, List.length_append, Zn] <;> omega) | (simp only [List.all_cons, List.all_nil, Value.oneCell', Bool.and_self, Bool.and_true]; done)) [-Option.bind_some, Zb, Zc, Zd, Zh, Ze, Zi, Zt, Zk, Zr, Zs, Yg, Yf, Yh, -Zl, -Zm, Ye, Ya, Yd, Zx, Zz, Zw, Zq, Zj, Zf, Zg, Zy, Yb, Yc, Zv, Zp, Zo, Zu, E1.blk, X2, M2.blk]; done))
  simp (maxSteps := 1000000) (disch := first | assumption | omega | (simp only [World.size_alloc, size_setRow, Za] <;> omega) | (simp only [List.length_set, Array.length_toList, List.length_cons, List.length_nil, List.length_append, Zn] <;> omega) | (simp only [List.all_cons, List.all_nil, Value.oneCell', Bool.and_self, Bool.and_true]; done)) [-Option.bind_some, Zb, Zc, Zd, Zh, Ze, Zi, Zt, Zk, Zr, Zs, Yg, Yf, Yh, -Zl, -Zm, Ye, Ya, Yd, Zx, Zz, Zw, Zq, Zj, Zf, Zg, Zy, Yb, Yc, Zv, Zp, Zo, Zu, X2, Y1, E1.blk, X2, M2.blk]
  have E3 : Ext w w2 := Mod.after (by (repeat (first | exact Ext.rfl | assumption | (refine Ext.al ?_ _) | (refine Ext.dw ?_) | (refine Ext.set ?_ (by first | omega | (simp only [World.size_alloc, size_setRow, Za]; omega)) _) | (refine Ext.tr ?_ (by assumption))))) M2 (by intro x hx h; simp only [In, World.size_alloc, size_setRow, Za] at *; omega)
  have zE3 := E3.size
  try simp only [World.size_alloc, size_setRow, Za] at zE3
  refine hQ _ ⟨a2, c2, rfl, (o2.keep ?_).wide ?_, by (repeat (first | exact Ext.rfl | assumption | (refine Ext.al ?_ _) | (refine Ext.dw ?_) | (refine Ext.set ?_ (by first | omega | (simp only [World.size_alloc, size_setRow, Za]; omega)) _) | (refine Ext.tr ?_ (by assumption))))⟩
  · intro b hS hb
    simp only [In, World.size_alloc, size_setRow, Za] at *
    rw [Zd (by omega)]
  · intro b h1 h2
    simp only [In, World.size_alloc, size_setRow, Za] at *
    omega
theorem spec_l3Join_n {a : Option Addr} {n c : Nat} {S : Nat → Prop} {ns : List CNode} {w : World} (h0 : 0 < ns.length) (h4 : ns.length < 4) (ho : O Yr S w [.slice a n c] ns) :
    Ret (EV P 73 #[.agg #[.slice a n c]] w) fun r => ∃ a' c', r.1 = .agg #[.slice a' (joined ns).length c'] ∧ O Yr (fun b => S b ∨ In w.heap.size r.2.heap.size b) r.2 [.slice a' (joined ns).length c'] (joined ns) ∧ Mod S w r.2 := by
  obtain ⟨rfl, hm, _⟩ := ho.n
  have ho := ho.wide (S' := fun b => S b ∧ b < w.heap.size) (fun b h1 h2 => ⟨h1, h2⟩)
  obtain ⟨x, hx, _⟩ := Yk (l := ns) (k := ns.length - 1) (by omega)
  have hj : joined ns = ns ++ [⟨x.store, []⟩] := by rw [joined, lastStore, hx]
  have hjl : (joined ns).length = ns.length + 1 := by rw [hj, List.length_append]; rfl
  obtain ⟨b1, o1, cs1, ha1, A1, D1, _, l1⟩ := ho.d.at (by decide) hx
  obtain ⟨a2, c2, a4, c4, rfl, h2, h3⟩ := D.node.1 D1
  subst ha1
  have p0 := A1 0 _ rfl
  have p1 := A1 1 _ rfl
  simp only [LVer_n, LTag_n, Yn, Nat.add_zero] at p0 p1
  refine Ret.post fun Q hQ => ?_
  refine Ret.enter plain Yo (spec_l3Join_fn _ _) (by kernel_rfl) (n := 1) (by kernel_rfl) rfl ?_
  simp (maxSteps := 1000000) (disch := first | assumption | omega | (simp only [World.size_alloc, size_setRow, Za] <;> omega) | (simp only [List.length_set, Array.length_toList, List.length_cons, List.length_nil, List.length_append, Zn] <;> omega) | (simp only [List.all_cons, List.all_nil, Value.oneCell', Bool.and_self, Bool.and_true]; done)) [-Option.bind_some, Zb, Zc, Zd, Zh, Ze, Zi, Zt, Zk, Zr, Zs, Yg, Yf, Yh, -Zl, -Zm, Ye, Ya, Yd, Zx, Zz, Zw, Zq, Zj, Zf, Zg, Zy, Yb, Yc, Zv, Zp, Zo, Zu, ia_23, show (ns.length : Int) - 1 = ((ns.length - 1 : Nat) : Int) by omega, show ns.length - 1 < ns.length by omega, p0, p1]
  refine Ret.bind (spec_l2CopyStore_n (h2.ext (by (repeat (first | exact Ext.rfl | assumption | (refine Ext.al ?_ _) | (refine Ext.dw ?_) | (refine Ext.set ?_ (by first | omega | (simp only [World.size_alloc, size_setRow, Za]; omega)) _) | (refine Ext.tr ?_ (by assumption))))))) ?_
  rintro ⟨_, w2⟩ ⟨a2, c2, rfl, o2, E2⟩
  try dsimp only at a2 c2 o2 E2
  have zE2 := E2.size
  try simp only [World.size_alloc, size_setRow, Za] at zE2
  simp (maxSteps := 1000000) (disch := first | assumption | omega | (simp only [World.size_alloc, size_setRow, Za] <;> omega) | (simp only [List.length_set, Array.length_toList, List.length_cons, List.length_nil, List.length_append, Zn] <;> omega) | (simp only [List.all_cons, List.all_nil, Value.oneCell', Bool.and_self, Bool.and_true]; done)) [-Option.bind_some, Zb, Zc, Zd, Zh, Ze, Zi, Zt, Zk, Zr, Zs, Yg, Yf, Yh, -Zl, -Zm, Ye, Ya, Yd, Zx, Zz, Zw, Zq, Zj, Zf, Zg, Zy, Yb, Yc, Zv, Zp, Zo, Zu, p0, p1, E2.blk]
  refine Ret.bind (O.app (L := tNode) (x := ⟨x.store, []⟩) (mx := 2932031007317) el_23 zz_36 rfl (by decide) (ho.keep (by intro b hS hb; (try dsimp only at hS); (try simp only [In, World.size_alloc, size_setRow, Za] at hS hb); first | rfl | (simp (disch := first | assumption | omega | (simp only [World.size_alloc, size_setRow, Za]; omega) | (simp only [World.size_alloc, size_setRow, Za, In]; omega)) only [E2.blk, Zb, Zd, Ym]; done))) (O.node_mk (v := ⟨x.store, []⟩) (S2 := fun _ => False) (o2.keep (by intro b hS hb; (try dsimp only at hS); (try simp only [In, World.size_alloc, size_setRow, Za] at hS hb); first | rfl | (simp (disch := first | assumption | omega | (simp only [World.size_alloc, size_setRow, Za]; omega) | (simp only [World.size_alloc, size_setRow, Za, In]; omega)) only [E2.blk, Zb, Zd, Ym]; done))) O.nil (fun _ _ _ h => h)) ?_ At.new (by omega) (by decide) (by decide)) ?_
  · intro b hb h1 h2
    simp only [In, World.size_alloc, size_setRow, Za, or_false] at *
    omega
  rintro ⟨_, w3⟩ ⟨a3, c3, rfl, o3, M3⟩
  have zM3 := M3.size
  try simp only [World.size_alloc, size_setRow, Za] at zM3
  try dsimp only at o3 M3
  have zM3 := M3.size
  simp only [World.size_alloc, size_setRow] at zM3
  have M4 : Mod S w w3 := Mod.after' (Mod.of (by (repeat (first | exact Ext.rfl | assumption | (refine Ext.al ?_ _) | (refine Ext.dw ?_) | (refine Ext.set ?_ (by first | omega | (simp only [World.size_alloc, size_setRow, Za]; omega)) _) | (refine Ext.tr ?_ (by assumption))))) _) M3 (fun x _ h => h.1)
  have zM4 := M4.size
  try simp only [World.size_alloc, size_setRow, Za] at zM4
  have Y1 : hp w3 w.heap.size = some (.cells #[.slice (some ⟨b1, o1, none⟩) ns.length c] 25 (0, 0)) := (M3.blk w.heap.size (by (try simp only [In, World.size_alloc, size_setRow, Za] at *); omega) (fun h => by omega)).trans (by first | assumption | rfl | (simp (maxSteps := 1000000) (disch := first | assumption | omega | (simp only [World.size_alloc, size_setRow, Za] <;> omega) | (simp only [List.length_set, Array.length_toList, List.length_cons, List.length_nil, List.length_append, Zn] <;> omega) | (simp only [List.all_cons, List.all_nil, Value.oneCell', Bool.and_self, Bool.and_true]; done)) [-Option.bind_some, Zb, Zc, Zd, Zh, Ze, Zi, Zt, Zk, Zr, Zs, Yg, Yf, Yh, -Zl, -Zm, Ye, Ya, Yd, Zx, Zz, Zw, Zq, Zj, Zf, Zg, Zy, Yb, Yc, Zv, Zp, Zo, Zu, p0, p1, E2.blk, M3.blk, M4.blk]; done))
  have Y2 : hp w3 (w.heap.size + 1) = some (.cells #[.slice none 0 0] 25 (0, 0)) := (M3.blk (w.heap.size + 1) (by (try simp only [In, World.size_alloc, size_setRow, Za] at *); omega) (fun h => by omega)).trans (by first | assumption | rfl | (simp (maxSteps := 1000000) (disch := first | assumption | omega | (simp only [World.size_alloc, size_setRow, Za] <;> omega) | (simp only [List.length_set, Array.length_toList, List.length_cons, List.length_nil, List.length_append, Zn] <;> omega) | (simp only [List.all_cons, List.all_nil, Value.oneCell', Bool.and_self, Bool.and_true]; done)) [-Option.bind_some, Zb, Zc, Zd, Zh, Ze, Zi, Zt, Zk, Zr, Zs, Yg, Yf, Yh, -Zl, -Zm, Ye, Ya, Yd, Zx, Zz, Zw, Zq, Zj, Zf, Zg, Zy, Yb, Yc, Zv, Zp, Zo, Zu, p0, p1, E2.blk, M3.blk, M4.blk]; done))
  rw [hjl, hj] at hQ
  simp (maxSteps := 1000000) (disch := first | assumption | omega | (simp only [World.size_alloc, size_setRow, Za] <;> omega) | (simp only [List.length_set, Array.length_toList, List.length_cons, List.length_nil, List.length_append, Zn] <;> omega) | (simp only [List.all_cons, List.all_nil, Value.oneCell', Bool.and_self, Bool.and_true]; done)) [-Option.bind_some, Zb, Zc, Zd, Zh, Ze, Zi, Zt, Zk, Zr, Zs, Yg, Yf, Yh, -Zl, -Zm, Ye, Ya, Yd, Zx, Zz, Zw, Zq, Zj, Zf, Zg, Zy, Yb, Yc, Zv, Zp, Zo, Zu, Y1, Y2, p0, p1, E2.blk, M3.blk, M4.blk]
  refine hQ _ ⟨a3, c3, rfl, (o3.keep ?_).wide ?_, (M4.set' (.inl (by omega)) _).set' (.inl (by omega)) _⟩
  · intro b hS hb
    simp only [In, World.size_alloc, size_setRow, Za, or_false] at *
    rw [Zd (by omega), Zd (by omega)]
  · intro b h1 h2
    simp only [In, World.size_alloc, size_setRow, Za, or_false] at *
    rcases h1 with h | h | h
    · exact .inl h.1
    · exact .inr (by omega)
    · exact .inr (by omega)
end Go.Proofs.YtjagkbamkohnoaaGreat.X
set_option linter.unusedVariables false
set_option linter.unusedSimpArgs false
set_option maxRecDepth 100000
set_option maxHeartbeats 1000000
namespace Go.Proofs.YtjagkbamkohnoaaGreat.X
open Go Go.Ev Go.RowKit
theorem laws_cfPast_m {a b : Option Addr} {n m c c' : Nat} {S S' : Nat → Prop} {xs : List Tag} {w : World} (ha : D tTags S w [.slice a n c] xs) (hb : D tTags S' w [.slice b m c'] xs) :
    Ret (EV P 62 #[.agg #[.slice a n c], .agg #[.slice b m c']] w) fun r => r.1 = .bool true ∧ Ext w r.2 := laws_cfPast_c ha.rTags hb.rTags
theorem laws_cfVer_m {S S' : Nat → Prop} {cs ds : List Value} {x : Ver} {w : World} (ha : D tVer S w cs x) (hb : D tVer S' w ds x) : Ret (EV P 31 #[.agg cs.toArray, .agg ds.toArray] w) fun r => r.1 = .bool true ∧ Ext w r.2 := by
  obtain ⟨a, c, rfl, h1, _⟩ := D.ver.1 ha
  obtain ⟨b, c', rfl, h2, _⟩ := D.ver.1 hb
  refine Ret.post fun Q hQ => ?_
  refine Ret.enter plain Yo (laws_cfVer_fn _ _ _) (by kernel_rfl) (n := 2) (by kernel_rfl) rfl ?_
  simp (maxSteps := 1000000) (disch := first | assumption | omega | (simp only [World.size_alloc, size_setRow, Za] <;> omega) | (simp only [List.length_set, Array.length_toList, List.length_cons, List.length_nil, List.length_append, Zn] <;> omega) | (simp only [List.all_cons, List.all_nil, Value.oneCell', Bool.and_self, Bool.and_true]; done)) [-Option.bind_some, Zb, Zc, Zd, Zh, Ze, Zi, Zt, Zk, Zr, Zs, Yg, Yf, Yh, -Zl, -Zm, Ye, Ya, Yd, Zx, Zz, Zw, Zq, Zj, Zf, Zg, Zy, Yb, Yc, Zv, Zp, Zo, Zu, beq_self_eq_true]
  refine Ret.bind (laws_cfPast_m (h1.ext (by (repeat (first | exact Ext.rfl | assumption | (refine Ext.al ?_ _) | (refine Ext.dw ?_) | (refine Ext.set ?_ (by first | omega | (simp only [World.size_alloc, size_setRow, Za]; omega)) _) | (refine Ext.tr ?_ (by assumption)))))) (h2.ext (by (repeat (first | exact Ext.rfl | assumption | (refine Ext.al ?_ _) | (refine Ext.dw ?_) | (refine Ext.set ?_ (by first | omega | (simp only [World.size_alloc, size_setRow, Za]; omega)) _) | (refine Ext.tr ?_ (by assumption))))))) ?_
  rintro ⟨_, w1⟩ ⟨rfl, E1⟩
  try dsimp only at E1
  have zE1 := E1.size
  try simp only [World.size_alloc, size_setRow, Za] at zE1
  simp (maxSteps := 1000000) (disch := first | assumption | omega | (simp only [World.size_alloc, size_setRow, Za] <;> omega) | (simp only [List.length_set, Array.length_toList, List.length_cons, List.length_nil, List.length_append, Zn] <;> omega) | (simp only [List.all_cons, List.all_nil, Value.oneCell', Bool.and_self, Bool.and_true]; done)) [-Option.bind_some, Zb, Zc, Zd, Zh, Ze, Zi, Zt, Zk, Zr, Zs, Yg, Yf, Yh, -Zl, -Zm, Ye, Ya, Yd, Zx, Zz, Zw, Zq, Zj, Zf, Zg, Zy, Yb, Yc, Zv, Zp, Zo, Zu, beq_self_eq_true, E1.blk]
  exact hQ _ ⟨rfl, by (repeat (first | exact Ext.rfl | assumption | (refine Ext.al ?_ _) | (refine Ext.dw ?_) | (refine Ext.set ?_ (by first | omega | (simp only [World.size_alloc, size_setRow, Za]; omega)) _) | (refine Ext.tr ?_ (by assumption))))⟩
theorem laws_cfVers_n {a b : Option Addr} {c c' : Nat} {S S' : Nat → Prop} {xs : List Ver} {w0 : World} :
    ∀ (d k : Nat) (e : Env) (w : World), k + d = xs.length → e 0 = .slice a xs.length c → e 1 = .slice b xs.length c' → e 5 = i64 k → D tVers S w0 [.slice a xs.length c] xs → D tVers S' w0 [.slice b xs.length c'] xs → Ext w0 w →
    Ret (laws_cfVers_l1 e w) fun r => r.1 = .bool true ∧ Ext w0 r.2 := by
  intro d
  induction d with
  | zero =>
    intro k e w hd e0 e1 e5 ha hb E0
    have zE0 := E0.size
    try simp only [World.size_alloc, size_setRow, Za] at zE0
    rw [laws_cfVers_l1_eq]
    obtain rfl : k = xs.length := by omega
    refine Ret.post fun Q hQ => ?_
    simp (maxSteps := 1000000) (disch := first | assumption | omega | (simp only [World.size_alloc, size_setRow, Za] <;> omega) | (simp only [List.length_set, Array.length_toList, List.length_cons, List.length_nil, List.length_append, Zn] <;> omega) | (simp only [List.all_cons, List.all_nil, Value.oneCell', Bool.and_self, Bool.and_true]; done)) [-Option.bind_some, Zb, Zc, Zd, Zh, Ze, Zi, Zt, Zk, Zr, Zs, Yg, Yf, Yh, -Zl, -Zm, Ye, Ya, Yd, Zx, Zz, Zw, Zq, Zj, Zf, Zg, Zy, Yb, Yc, Zv, Zp, Zo, Zu, e0, e1, e5, e0, e1, e5, E0.blk]
    exact hQ _ ⟨rfl, by (repeat (first | exact Ext.rfl | assumption | (refine Ext.al ?_ _) | (refine Ext.dw ?_) | (refine Ext.set ?_ (by first | omega | (simp only [World.size_alloc, size_setRow, Za]; omega)) _) | (refine Ext.tr ?_ (by assumption))))⟩
  | succ d ih =>
    intro k e w hd e0 e1 e5 ha hb E0
    have zE0 := E0.size
    try simp only [World.size_alloc, size_setRow, Za] at zE0
    rw [laws_cfVers_l1_eq]
    have hlt : k < xs.length := by omega
    obtain ⟨x, hx, hdx⟩ := Yk hlt
    have hn := ha.n
    obtain ⟨b1, o1, cs1, rfl, A1, D1, _, l1⟩ := (ha.ext E0).at (by decide) hx
    have D1' := D1
    obtain ⟨a2, c2, rfl, hq1, ht1⟩ := D.ver.1 D1
    have p0 := A1 0 _ rfl
    have p1 := A1 1 _ rfl
    have p2 := A1 2 _ rfl
    have p3 := A1 3 _ rfl
    have p4 := A1 4 _ rfl
    have p5 := A1 5 _ rfl
    simp only [LVer_n, LTag_n, Yn, Nat.add_zero] at p0 p1 p2 p3 p4 p5
    obtain ⟨b2, o2, cs2, rfl, A2, D2, _, l2⟩ := (hb.ext E0).at (by decide) hx
    have D2' := D2
    obtain ⟨a3, c3, rfl, hq2, ht2⟩ := D.ver.1 D2
    have q0 := A2 0 _ rfl
    have q1 := A2 1 _ rfl
    have q2 := A2 2 _ rfl
    have q3 := A2 3 _ rfl
    have q4 := A2 4 _ rfl
    have q5 := A2 5 _ rfl
    simp only [LVer_n, LTag_n, Yn, Nat.add_zero] at q0 q1 q2 q3 q4 q5
    refine Ret.post fun Q hQ => ?_
    simp (maxSteps := 1000000) (disch := first | assumption | omega | (simp only [World.size_alloc, size_setRow, Za] <;> omega) | (simp only [List.length_set, Array.length_toList, List.length_cons, List.length_nil, List.length_append, Zn] <;> omega) | (simp only [List.all_cons, List.all_nil, Value.oneCell', Bool.and_self, Bool.and_true]; done)) [-Option.bind_some, Zb, Zc, Zd, Zh, Ze, Zi, Zt, Zk, Zr, Zs, Yg, Yf, Yh, -Zl, -Zm, Ye, Ya, Yd, Zx, Zz, Zw, Zq, Zj, Zf, Zg, Zy, Yb, Yc, Zv, Zp, Zo, Zu, e0, e1, e5, hlt, ia_32, e0, e1, e5, E0.blk, hlt, p0, p1, p2, p3, p4, p5, q0, q1, q2, q3, q4, q5]
    refine Ret.bind (laws_cfVer_m (D1'.ext (by (repeat (first | exact Ext.rfl | assumption | (refine Ext.al ?_ _) | (refine Ext.dw ?_) | (refine Ext.set ?_ (by first | omega | (simp only [World.size_alloc, size_setRow, Za]; omega)) _) | (refine Ext.tr ?_ (by assumption)))))) (D2'.ext (by (repeat (first | exact Ext.rfl | assumption | (refine Ext.al ?_ _) | (refine Ext.dw ?_) | (refine Ext.set ?_ (by first | omega | (simp only [World.size_alloc, size_setRow, Za]; omega)) _) | (refine Ext.tr ?_ (by assumption))))))) ?_
    rintro ⟨_, w1⟩ ⟨rfl, E1⟩
    try dsimp only at E1
    have zE1 := E1.size
    try simp only [World.size_alloc, size_setRow, Za] at zE1
    simp (maxSteps := 1000000) (disch := first | assumption | omega | (simp only [World.size_alloc, size_setRow, Za] <;> omega) | (simp only [List.length_set, Array.length_toList, List.length_cons, List.length_nil, List.length_append, Zn] <;> omega) | (simp only [List.all_cons, List.all_nil, Value.oneCell', Bool.and_self, Bool.and_true]; done)) [-Option.bind_some, Zb, Zc, Zd, Zh, Ze, Zi, Zt, Zk, Zr, Zs, Yg, Yf, Yh, -Zl, -Zm, Ye, Ya, Yd, Zx, Zz, Zw, Zq, Zj, Zf, Zg, Zy, Yb, Yc, Zv, Zp, Zo, Zu, e0, e1, e5, e0, e1, e5, E0.blk, hlt, p0, p1, p2, p3, p4, p5, q0, q1, q2, q3, q4, q5, E1.blk]
    exact Ret.mono (ih (k + 1) _ _ (by omega) (by first | omega | assumption | rfl | exact congrArg i64 (by omega) | (simp; done) | (simp; omega)) (by first | omega | assumption | rfl | exact congrArg i64 (by omega) | (simp; done) | (simp; omega)) (by first | omega | assumption | rfl | exact congrArg i64 (by omega) | (simp; done) | (simp; omega)) ha hb (by (repeat (first | exact Ext.rfl | assumption | (refine Ext.al ?_ _) | (refine Ext.dw ?_) | (refine Ext.set ?_ (by first | omega | (simp only [World.size_alloc, size_setRow, Za]; omega)) _) | (refine Ext.tr ?_ (by assumption)))))) hQ
theorem laws_cfVers_m {a b : Option Addr} {n m c c' : Nat} {S S' : Nat → Prop} {xs : List Ver} {w : World} (ha : D tVers S w [.slice a n c] xs) (hb : D tVers S' w [.slice b m c'] xs) :
    Ret (EV P 23 #[.slice a n c, .slice b m c'] w) fun r => r.1 = .bool true ∧ Ext w r.2 := by
  obtain ⟨rfl, hm, _⟩ := ha.n
  obtain ⟨rfl, hm2, _⟩ := hb.n
  refine Ret.post fun Q hQ => ?_
  refine Ret.enter plain Yo (laws_cfVers_fn _ _ _) (by kernel_rfl) (n := 2) (by kernel_rfl) rfl ?_
  simp (maxSteps := 1000000) (disch := first | assumption | omega | (simp only [World.size_alloc, size_setRow, Za] <;> omega) | (simp only [List.length_set, Array.length_toList, List.length_cons, List.length_nil, List.length_append, Zn] <;> omega) | (simp only [List.all_cons, List.all_nil, Value.oneCell', Bool.and_self, Bool.and_true]; done)) [-Option.bind_some, Zb, Zc, Zd, Zh, Ze, Zi, Zt, Zk, Zr, Zs, Yg, Yf, Yh, -Zl, -Zm, Ye, Ya, Yd, Zx, Zz, Zw, Zq, Zj, Zf, Zg, Zy, Yb, Yc, Zv, Zp, Zo, Zu, bne_self_eq_false]
  refine Ret.mono (laws_cfVers_n xs.length 0 _ w (by omega) rfl rfl rfl ha hb Ext.rfl) hQ
theorem laws_cfStore_n {a b : Option Addr} {c c' g2 g3 : Nat} {S S' : Nat → Prop} {xs : List Ver} {w0 : World} :
    ∀ (d k : Nat) (e : Env) (w : World), k + d = xs.length → e 2 = pt g2 0 → e 3 = pt g3 0 → e 5 = i64 k → hp w g2 = some (.cells #[.slice a xs.length c] 34 (0, 0)) → hp w g3 = some (.cells #[.slice b xs.length c'] 34 (0, 0)) → D tVers S w0 [.slice a xs.length c] xs → D tVers S' w0 [.slice b xs.length c'] xs → Ext w0 w →
    Ret (laws_cfStore_l1 e w) fun r => r.1 = .bool true ∧ Ext w0 r.2 := by
  intro d
  induction d with
  | zero =>
    intro k e w hd e2 e3 e5 X2 X3 ha hb E0
    have zE0 := E0.size
    try simp only [World.size_alloc, size_setRow, Za] at zE0
    rw [laws_cfStore_l1_eq]
    obtain rfl : k = xs.length := by omega
    have y2 := Yq X2
    have y3 := Yq X3
    refine Ret.post fun Q hQ => ?_
    simp (maxSteps := 1000000) (disch := first | assumption | omega | (simp only [World.size_alloc, size_setRow, Za] <;> omega) | (simp only [List.length_set, Array.length_toList, List.length_cons, List.length_nil, List.length_append, Zn] <;> omega) | (simp only [List.all_cons, List.all_nil, Value.oneCell', Bool.and_self, Bool.and_true]; done)) [-Option.bind_some, Zb, Zc, Zd, Zh, Ze, Zi, Zt, Zk, Zr, Zs, Yg, Yf, Yh, -Zl, -Zm, Ye, Ya, Yd, Zx, Zz, Zw, Zq, Zj, Zf, Zg, Zy, Yb, Yc, Zv, Zp, Zo, Zu, e2, e3, e5, X2, X3, e2, e3, e5, X2, X3, E0.blk]
    exact hQ _ ⟨rfl, by (repeat (first | exact Ext.rfl | assumption | (refine Ext.al ?_ _) | (refine Ext.dw ?_) | (refine Ext.set ?_ (by first | omega | (simp only [World.size_alloc, size_setRow, Za]; omega)) _) | (refine Ext.tr ?_ (by assumption))))⟩
  | succ d ih =>
    intro k e w hd e2 e3 e5 X2 X3 ha hb E0
    have zE0 := E0.size
    try simp only [World.size_alloc, size_setRow, Za] at zE0
    rw [laws_cfStore_l1_eq]
    have hlt : k < xs.length := by omega
    obtain ⟨x, hx, hdx⟩ := Yk hlt
    have hn := ha.n
    have y2 := Yq X2
    have y3 := Yq X3
    obtain ⟨b1, o1, cs1, rfl, A1, D1, _, l1⟩ := (ha.ext E0).at (by decide) hx
    have D1' := D1
    obtain ⟨a2, c2, rfl, hq1, ht1⟩ := D.ver.1 D1
    have p0 := A1 0 _ rfl
    have p1 := A1 1 _ rfl
    have p2 := A1 2 _ rfl
    have p3 := A1 3 _ rfl
    have p4 := A1 4 _ rfl
    have p5 := A1 5 _ rfl
    simp only [LVer_n, LTag_n, Yn, Nat.add_zero] at p0 p1 p2 p3 p4 p5
    obtain ⟨b2, o2, cs2, rfl, A2, D2, _, l2⟩ := (hb.ext E0).at (by decide) hx
    have D2' := D2
    obtain ⟨a3, c3, rfl, hq2, ht2⟩ := D.ver.1 D2
    have q0 := A2 0 _ rfl
    have q1 := A2 1 _ rfl
    have q2 := A2 2 _ rfl
    have q3 := A2 3 _ rfl
    have q4 := A2 4 _ rfl
    have q5 := A2 5 _ rfl
    simp only [LVer_n, LTag_n, Yn, Nat.add_zero] at q0 q1 q2 q3 q4 q5
    refine Ret.post fun Q hQ => ?_
    simp (maxSteps := 1000000) (disch := first | assumption | omega | (simp only [World.size_alloc, size_setRow, Za] <;> omega) | (simp only [List.length_set, Array.length_toList, List.length_cons, List.length_nil, List.length_append, Zn] <;> omega) | (simp only [List.all_cons, List.all_nil, Value.oneCell', Bool.and_self, Bool.and_true]; done)) [-Option.bind_some, Zb, Zc, Zd, Zh, Ze, Zi, Zt, Zk, Zr, Zs, Yg, Yf, Yh, -Zl, -Zm, Ye, Ya, Yd, Zx, Zz, Zw, Zq, Zj, Zf, Zg, Zy, Yb, Yc, Zv, Zp, Zo, Zu, e2, e3, e5, X2, X3, hlt, ia_32, e2, e3, e5, X2, X3, E0.blk, hlt, p0, p1, p2, p3, p4, p5, q0, q1, q2, q3, q4, q5]
    refine Ret.bind (laws_cfVer_m (D1'.ext (by (repeat (first | exact Ext.rfl | assumption | (refine Ext.al ?_ _) | (refine Ext.dw ?_) | (refine Ext.set ?_ (by first | omega | (simp only [World.size_alloc, size_setRow, Za]; omega)) _) | (refine Ext.tr ?_ (by assumption)))))) (D2'.ext (by (repeat (first | exact Ext.rfl | assumption | (refine Ext.al ?_ _) | (refine Ext.dw ?_) | (refine Ext.set ?_ (by first | omega | (simp only [World.size_alloc, size_setRow, Za]; omega)) _) | (refine Ext.tr ?_ (by assumption))))))) ?_
    rintro ⟨_, w1⟩ ⟨rfl, E1⟩
    try dsimp only at E1
    have zE1 := E1.size
    try simp only [World.size_alloc, size_setRow, Za] at zE1
    simp (maxSteps := 1000000) (disch := first | assumption | omega | (simp only [World.size_alloc, size_setRow, Za] <;> omega) | (simp only [List.length_set, Array.length_toList, List.length_cons, List.length_nil, List.length_append, Zn] <;> omega) | (simp only [List.all_cons, List.all_nil, Value.oneCell', Bool.and_self, Bool.and_true]; done)) [-Option.bind_some, Zb, Zc, Zd, Zh, Ze, Zi, Zt, Zk, Zr, Zs, Yg, Yf, Yh, -Zl, -Zm, Ye, Ya, Yd, Zx, Zz, Zw, Zq, Zj, Zf, Zg, Zy, Yb, Yc, Zv, Zp, Zo, Zu, e2, e3, e5, X2, X3, e2, e3, e5, X2, X3, E0.blk, hlt, p0, p1, p2, p3, p4, p5, q0, q1, q2, q3, q4, q5, E1.blk]
    exact Ret.mono (ih (k + 1) _ _ (by omega) (by first | omega | assumption | rfl | exact congrArg i64 (by omega) | (simp; done) | (simp; omega)) (by first | omega | assumption | rfl | exact congrArg i64 (by omega) | (simp; done) | (simp; omega)) (by first | omega | assumption | rfl | exact congrArg i64 (by omega) | (simp; done) | (simp; omega)) (by first | assumption | rfl | (simp (maxSteps := 1000000) (disch := first | assumption | omega | (simp only [World.size_alloc, size_setRow, Za] <;> omega) | (simp only [List.length_set, Array.length_toList, List.length_cons, List.length_nil, List.length_append, Zn] <;> omega) | (simp only [List.all_cons, List.all_nil, Value.oneCell', Bool.and_self, Bool.and_true]; done)) [-Option.bind_some, Zb, Zc, Zd, Zh, Ze, Zi, Zt, Zk, Zr, Zs, Yg, Yf, Yh, -Zl, -Zm, Ye, Ya, Yd, Zx, Zz, Zw, Zq, Zj, Zf, Zg, Zy, Yb, Yc, Zv, Zp, Zo, Zu, X2, e2, e3, e5, X2, X3, E0.blk, hlt, p0, p1, p2, p3, p4, p5, q0, q1, q2, q3, q4, q5, E1.blk]; done)) (by first | assumption | rfl | (simp (maxSteps := 1000000) (disch := first | assumption | omega | (simp only [World.size_alloc, size_setRow, Za] <;> omega) | (simp only [List.length_set, Array.length_toList, List.length_cons, List.length_nil, List.length_append, Zn] <;> omega) | (simp only [List.all_cons, List.all_nil, Value.oneCell', Bool.and_self, Bool.and_true]; done)) [-Option.bind_some, Zb, Zc, Zd, Zh, Ze, Zi, Zt, Zk, Zr, Zs, Yg, Yf, Yh, -Zl, -Zm, Ye, Ya, Yd, Zx, Zz, Zw, Zq, Zj, Zf, Zg, Zy, Yb, Yc, Zv, Zp, Zo, Zu, X3, e2, e3, e5, X2, X3, E0.blk, hlt, p0, p1, p2, p3, p4, p5, q0, q1, q2, q3, q4, q5, E1.blk]; done)) ha hb (by (repeat (first | exact Ext.rfl | assumption | (refine Ext.al ?_ _) | (refine Ext.dw ?_) | (refine Ext.set ?_ (by first | omega | (simp only [World.size_alloc, size_setRow, Za]; omega)) _) | (refine Ext.tr ?_ (by assumption)))))) hQ
theorem laws_cfStore_m {a b : Option Addr} {n m c c' : Nat} {S S' : Nat → Prop} {xs : List Ver} {w : World} (ha : D tVers S w [.slice a n c] xs) (hb : D tVers S' w [.slice b m c'] xs) :
    Ret (EV P 9 #[.agg #[.slice a n c], .agg #[.slice b m c']] w) fun r => r.1 = .bool true ∧ Ext w r.2 := by
  obtain ⟨rfl, hm, _⟩ := ha.n
  obtain ⟨rfl, hm2, _⟩ := hb.n
  refine Ret.post fun Q hQ => ?_
  refine Ret.enter plain Yo (laws_cfStore_fn _ _ _) (by kernel_rfl) (n := 2) (by kernel_rfl) rfl ?_
  simp (maxSteps := 1000000) (disch := first | assumption | omega | (simp only [World.size_alloc, size_setRow, Za] <;> omega) | (simp only [List.length_set, Array.length_toList, List.length_cons, List.length_nil, List.length_append, Zn] <;> omega) | (simp only [List.all_cons, List.all_nil, Value.oneCell', Bool.and_self, Bool.and_true]; done)) [-Option.bind_some, Zb, Zc, Zd, Zh, Ze, Zi, Zt, Zk, Zr, Zs, Yg, Yf, Yh, -Zl, -Zm, Ye, Ya, Yd, Zx, Zz, Zw, Zq, Zj, Zf, Zg, Zy, Yb, Yc, Zv, Zp, Zo, Zu, bne_self_eq_false]
  exact Ret.mono (laws_cfStore_n (g2 := w.heap.size) (g3 := w.heap.size + 1) xs.length 0 _ _ (by omega) rfl rfl rfl (by first | assumption | rfl | (simp (maxSteps := 1000000) (disch := first | assumption | omega | (simp only [World.size_alloc, size_setRow, Za] <;> omega) | (simp only [List.length_set, Array.length_toList, List.length_cons, List.length_nil, List.length_append, Zn] <;> omega) | (simp only [List.all_cons, List.all_nil, Value.oneCell', Bool.and_self, Bool.and_true]; done)) [-Option.bind_some, Zb, Zc, Zd, Zh, Ze, Zi, Zt, Zk, Zr, Zs, Yg, Yf, Yh, -Zl, -Zm, Ye, Ya, Yd, Zx, Zz, Zw, Zq, Zj, Zf, Zg, Zy, Yb, Yc, Zv, Zp, Zo, Zu]; done)) (by first | assumption | rfl | (simp (maxSteps := 1000000) (disch := first | assumption | omega | (simp only [World.size_alloc, size_setRow, Za] <;> omega) | (simp only [List.length_set, Array.length_toList, List.length_cons, List.length_nil, List.length_append, Zn] <;> omega) | (simp only [List.all_cons, List.all_nil, Value.oneCell', Bool.and_self, Bool.and_true]; done)) [-Option.bind_some, Zb, Zc, Zd, Zh, Ze, Zi, Zt, Zk, Zr, Zs, Yg, Yf, Yh, -Zl, -Zm, Ye, Ya, Yd, Zx, Zz, Zw, Zq, Zj, Zf, Zg, Zy, Yb, Yc, Zv, Zp, Zo, Zu]; done)) ha hb (by (repeat (first | exact Ext.rfl | assumption | (refine Ext.al ?_ _) | (refine Ext.dw ?_) | (refine Ext.set ?_ (by first | omega | (simp only [World.size_alloc, size_setRow, Za]; omega)) _) | (refine Ext.tr ?_ (by assumption)))))) hQ
theorem laws_cfChain_n {a b : Option Addr} {c c' g2 g3 : Nat} {S S' : Nat → Prop} {xs : List CNode} {w0 : World} :
    ∀ (d k : Nat) (e : Env) (w : World), k + d = xs.length → e 2 = pt g2 0 → e 3 = pt g3 0 → e 5 = i64 k → hp w g2 = some (.cells #[.slice a xs.length c] 25 (0, 0)) → hp w g3 = some (.cells #[.slice b xs.length c'] 25 (0, 0)) → D Yr S w0 [.slice a xs.length c] xs → D Yr S' w0 [.slice b xs.length c'] xs → Ext w0 w →
    Ret (laws_cfChain_l1 e w) fun r => r.1 = .bool true ∧ Ext w0 r.2 := by
  intro d
  induction d with
  | zero =>
    intro k e w hd e2 e3 e5 X2 X3 ha hb E0
    have zE0 := E0.size
    try simp only [World.size_alloc, size_setRow, Za] at zE0
    rw [laws_cfChain_l1_eq]
    obtain rfl : k = xs.length := by omega
    have y2 := Yq X2
    have y3 := Yq X3
    refine Ret.post fun Q hQ => ?_
    simp (maxSteps := 1000000) (disch := first | assumption | omega | (simp only [World.size_alloc, size_setRow, Za] <;> omega) | (simp only [List.length_set, Array.length_toList, List.length_cons, List.length_nil, List.length_append, Zn] <;> omega) | (simp only [List.all_cons, List.all_nil, Value.oneCell', Bool.and_self, Bool.and_true]; done)) [-Option.bind_some, Zb, Zc, Zd, Zh, Ze, Zi, Zt, Zk, Zr, Zs, Yg, Yf, Yh, -Zl, -Zm, Ye, Ya, Yd, Zx, Zz, Zw, Zq, Zj, Zf, Zg, Zy, Yb, Yc, Zv, Zp, Zo, Zu, e2, e3, e5, X2, X3, e2, e3, e5, X2, X3, E0.blk]
    exact hQ _ ⟨rfl, by (repeat (first | exact Ext.rfl | assumption | (refine Ext.al ?_ _) | (refine Ext.dw ?_) | (refine Ext.set ?_ (by first | omega | (simp only [World.size_alloc, size_setRow, Za]; omega)) _) | (refine Ext.tr ?_ (by assumption))))⟩
  | succ d ih =>
    intro k e w hd e2 e3 e5 X2 X3 ha hb E0
    have zE0 := E0.size
    try simp only [World.size_alloc, size_setRow, Za] at zE0
    rw [laws_cfChain_l1_eq]
    have hlt : k < xs.length := by omega
    obtain ⟨x, hx, hdx⟩ := Yk hlt
    have hn := ha.n
    have y2 := Yq X2
    have y3 := Yq X3
    obtain ⟨b1, o1, cs1, rfl, A1, D1, _, l1⟩ := (ha.ext E0).at (by decide) hx
    obtain ⟨a2, c2, a3, c3, rfl, h1, h2⟩ := D.node.1 D1
    have p0 := A1 0 _ rfl
    have p1 := A1 1 _ rfl
    simp only [LVer_n, LTag_n, Yn, Nat.add_zero] at p0 p1
    obtain ⟨b2, o2, cs2, rfl, A2, D2, _, l2⟩ := (hb.ext E0).at (by decide) hx
    obtain ⟨a4, c4, a5, c5, rfl, h3, h4⟩ := D.node.1 D2
    have q0 := A2 0 _ rfl
    have q1 := A2 1 _ rfl
    simp only [LVer_n, LTag_n, Yn, Nat.add_zero] at q0 q1
    refine Ret.post fun Q hQ => ?_
    simp (maxSteps := 1000000) (disch := first | assumption | omega | (simp only [World.size_alloc, size_setRow, Za] <;> omega) | (simp only [List.length_set, Array.length_toList, List.length_cons, List.length_nil, List.length_append, Zn] <;> omega) | (simp only [List.all_cons, List.all_nil, Value.oneCell', Bool.and_self, Bool.and_true]; done)) [-Option.bind_some, Zb, Zc, Zd, Zh, Ze, Zi, Zt, Zk, Zr, Zs, Yg, Yf, Yh, -Zl, -Zm, Ye, Ya, Yd, Zx, Zz, Zw, Zq, Zj, Zf, Zg, Zy, Yb, Yc, Zv, Zp, Zo, Zu, e2, e3, e5, X2, X3, hlt, ia_23, e2, e3, e5, X2, X3, E0.blk, hlt, p0, p1, q0, q1]
    refine Ret.bind (laws_cfStore_m (h1.ext (by (repeat (first | exact Ext.rfl | assumption | (refine Ext.al ?_ _) | (refine Ext.dw ?_) | (refine Ext.set ?_ (by first | omega | (simp only [World.size_alloc, size_setRow, Za]; omega)) _) | (refine Ext.tr ?_ (by assumption)))))) (h3.ext (by (repeat (first | exact Ext.rfl | assumption | (refine Ext.al ?_ _) | (refine Ext.dw ?_) | (refine Ext.set ?_ (by first | omega | (simp only [World.size_alloc, size_setRow, Za]; omega)) _) | (refine Ext.tr ?_ (by assumption))))))) ?_
    rintro ⟨_, w1⟩ ⟨rfl, E1⟩
    try dsimp only at E1
    have zE1 := E1.size
    try simp only [World.size_alloc, size_setRow, Za] at zE1
    simp (maxSteps := 1000000) (disch := first | assumption | omega | (simp only [World.size_alloc, size_setRow, Za] <;> omega) | (simp only [List.length_set, Array.length_toList, List.length_cons, List.length_nil, List.length_append, Zn] <;> omega) | (simp only [List.all_cons, List.all_nil, Value.oneCell', Bool.and_self, Bool.and_true]; done)) [-Option.bind_some, Zb, Zc, Zd, Zh, Ze, Zi, Zt, Zk, Zr, Zs, Yg, Yf, Yh, -Zl, -Zm, Ye, Ya, Yd, Zx, Zz, Zw, Zq, Zj, Zf, Zg, Zy, Yb, Yc, Zv, Zp, Zo, Zu, e2, e3, e5, X2, X3, hlt, ia_23, e2, e3, e5, X2, X3, E0.blk, hlt, p0, p1, q0, q1, E1.blk]
    refine Ret.bind (laws_cfVers_m (h2.ext (by (repeat (first | exact Ext.rfl | assumption | (refine Ext.al ?_ _) | (refine Ext.dw ?_) | (refine Ext.set ?_ (by first | omega | (simp only [World.size_alloc, size_setRow, Za]; omega)) _) | (refine Ext.tr ?_ (by assumption)))))) (h4.ext (by (repeat (first | exact Ext.rfl | assumption | (refine Ext.al ?_ _) | (refine Ext.dw ?_) | (refine Ext.set ?_ (by first | omega | (simp only [World.size_alloc, size_setRow, Za]; omega)) _) | (refine Ext.tr ?_ (by assumption))))))) ?_
    rintro ⟨_, w2⟩ ⟨rfl, E2⟩
    try dsimp only at E2
    have zE2 := E2.size
    try simp only [World.size_alloc, size_setRow, Za] at zE2
    simp (maxSteps := 1000000) (disch := first | assumption | omega | (simp only [World.size_alloc, size_setRow, Za] <;> omega) | (simp only [List.length_set, Array.length_toList, List.length_cons, List.length_nil, List.length_append, Zn] <;> omega) | (simp only [List.all_cons, List.all_nil, Value.oneCell', Bool.and_self, Bool.and_true]; done)) [-Option.bind_some, Zb, Zc, Zd, Zh, Ze, Zi, Zt, Zk, Zr, Zs, Yg, Yf, Yh, -Zl, -Zm, Ye, Ya, Yd, Zx, Zz, Zw, Zq, Zj, Zf, Zg, Zy, Yb, Yc, Zv, Zp, Zo, Zu, e2, e3, e5, X2, X3, e2, e3, e5, X2, X3, E0.blk, hlt, p0, p1, q0, q1, E1.blk, E2.blk]
    exact Ret.mono (ih (k + 1) _ _ (by omega) (by first | omega | assumption | rfl | exact congrArg i64 (by omega) | (simp; done) | (simp; omega)) (by first | omega | assumption | rfl | exact congrArg i64 (by omega) | (simp; done) | (simp; omega)) (by first | omega | assumption | rfl | exact congrArg i64 (by omega) | (simp; done) | (simp; omega)) (by first | assumption | rfl | (simp (maxSteps := 1000000) (disch := first | assumption | omega | (simp only [World.size_alloc, size_setRow, Za] <;> omega) | (simp only [List.length_set, Array.length_toList, List.length_cons, List.length_nil, List.length_append, Zn] <;> omega) | (simp only [List.all_cons, List.all_nil, Value.oneCell', Bool.and_self, Bool.and_true]; done)) [-Option.bind_some, Zb, Zc, Zd, Zh, Ze, Zi, Zt, Zk, Zr, Zs, Yg, Yf, Yh, -Zl, -Zm, Ye, Ya, Yd, Zx, Zz, Zw, Zq, Zj, Zf, Zg, Zy, Yb, Yc, Zv, Zp, Zo, Zu, X2, e2, e3, e5, X2, X3, E0.blk, hlt, p0, p1, q0, q1, E1.blk, E2.blk]; done)) (by first | assumption | rfl | (simp (maxSteps := 1000000) (disch := first | assumption | omega | (simp only [World.size_alloc, size_setRow, Za] <;> omega) | (simp only [List.length_set, Array.length_toList, List.length_cons, List.length_nil, List.length_append, Zn] <;> omega) | (simp only [List.all_cons, List.all_nil, Value.oneCell', Bool.and_self, Bool.and_true]; done)) [-Option.bind_some, Zb, Zc, Zd, Zh, Ze, Zi, Zt, Zk, Zr, Zs, Yg, Yf, Yh, -Zl, -Zm, Ye, Ya, Yd, Zx, Zz, Zw, Zq, Zj, Zf, Zg, Zy, Yb, Yc, Zv, Zp, Zo, Zu, X3, e2, e3, e5, X2, X3, E0.blk, hlt, p0, p1, q0, q1, E1.blk, E2.blk]; done)) ha hb (by (repeat (first | exact Ext.rfl | assumption | (refine Ext.al ?_ _) | (refine Ext.dw ?_) | (refine Ext.set ?_ (by first | omega | (simp only [World.size_alloc, size_setRow, Za]; omega)) _) | (refine Ext.tr ?_ (by assumption)))))) hQ
theorem laws_cfChain_m {a b : Option Addr} {n m c c' : Nat} {S S' : Nat → Prop} {xs : List CNode} {w : World} (ha : D Yr S w [.slice a n c] xs) (hb : D Yr S' w [.slice b m c'] xs) :
    Ret (EV P 7 #[.agg #[.slice a n c], .agg #[.slice b m c']] w) fun r => r.1 = .bool true ∧ Ext w r.2 := by
  obtain ⟨rfl, hm, _⟩ := ha.n
  obtain ⟨rfl, hm2, _⟩ := hb.n
  refine Ret.post fun Q hQ => ?_
  refine Ret.enter plain Yo (laws_cfChain_fn _ _ _) (by kernel_rfl) (n := 2) (by kernel_rfl) rfl ?_
  simp (maxSteps := 1000000) (disch := first | assumption | omega | (simp only [World.size_alloc, size_setRow, Za] <;> omega) | (simp only [List.length_set, Array.length_toList, List.length_cons, List.length_nil, List.length_append, Zn] <;> omega) | (simp only [List.all_cons, List.all_nil, Value.oneCell', Bool.and_self, Bool.and_true]; done)) [-Option.bind_some, Zb, Zc, Zd, Zh, Ze, Zi, Zt, Zk, Zr, Zs, Yg, Yf, Yh, -Zl, -Zm, Ye, Ya, Yd, Zx, Zz, Zw, Zq, Zj, Zf, Zg, Zy, Yb, Yc, Zv, Zp, Zo, Zu, bne_self_eq_false]
  exact Ret.mono (laws_cfChain_n (g2 := w.heap.size) (g3 := w.heap.size + 1) xs.length 0 _ _ (by omega) rfl rfl rfl (by first | assumption | rfl | (simp (maxSteps := 1000000) (disch := first | assumption | omega | (simp only [World.size_alloc, size_setRow, Za] <;> omega) | (simp only [List.length_set, Array.length_toList, List.length_cons, List.length_nil, List.length_append, Zn] <;> omega) | (simp only [List.all_cons, List.all_nil, Value.oneCell', Bool.and_self, Bool.and_true]; done)) [-Option.bind_some, Zb, Zc, Zd, Zh, Ze, Zi, Zt, Zk, Zr, Zs, Yg, Yf, Yh, -Zl, -Zm, Ye, Ya, Yd, Zx, Zz, Zw, Zq, Zj, Zf, Zg, Zy, Yb, Yc, Zv, Zp, Zo, Zu]; done)) (by first | assumption | rfl | (simp (maxSteps := 1000000) (disch := first | assumption | omega | (simp only [World.size_alloc, size_setRow, Za] <;> omega) | (simp only [List.length_set, Array.length_toList, List.length_cons, List.length_nil, List.length_append, Zn] <;> omega) | (simp only [List.all_cons, List.all_nil, Value.oneCell', Bool.and_self, Bool.and_true]; done)) [-Option.bind_some, Zb, Zc, Zd, Zh, Ze, Zi, Zt, Zk, Zr, Zs, Yg, Yf, Yh, -Zl, -Zm, Ye, Ya, Yd, Zx, Zz, Zw, Zq, Zj, Zf, Zg, Zy, Yb, Yc, Zv, Zp, Zo, Zu]; done)) ha hb (by (repeat (first | exact Ext.rfl | assumption | (refine Ext.al ?_ _) | (refine Ext.dw ?_) | (refine Ext.set ?_ (by first | omega | (simp only [World.size_alloc, size_setRow, Za]; omega)) _) | (refine Ext.tr ?_ (by assumption)))))) hQ
end Go.Proofs.YtjagkbamkohnoaaGreat.X
set_option linter.unusedVariables false
set_option linter.unusedSimpArgs false
set_option maxRecDepth 100000
namespace Go.Proofs.YtjagkbamkohnoaaGreat.X
open Go Go.Ev Go.RowKit
theorem tmod_nat (a b : Nat) : (a : Int).tmod (b : Int) = ((a % b : Nat) : Int) := by
  rw [Int.tmod_eq_emod_of_nonneg (by omega)]; rfl
theorem tdiv_nat (a b : Nat) : (a : Int).tdiv (b : Int) = ((a / b : Nat) : Int) := by
  rw [Int.tdiv_eq_ediv_of_nonneg (by omega)]; rfl
theorem rBytes_get {w : World} {s : Value} {ns : List Int} (h : rBytes w s ns) {i : Nat} (hi : i < ns.length) : ∃ (b o c m : Nat), s = .slice (some ⟨b, o, none⟩) ns.length c ∧ cellO (hp w b) (o + i) = some (.int .u8 (m : Int)) ∧ m ≤ 255 ∧ b < w.heap.size := by
  obtain ⟨a, c, h1, h2, h3, h4, h5⟩ := h
  rcases h5 with h5 | ⟨b, o, h5, h6⟩
  · subst h5; simp at hi
  · subst h5
    have hm := h4 ns[i] (List.getElem_mem hi)
    obtain ⟨m, hmm⟩ := Int.eq_ofNat_of_zero_le hm.1
    have hc := h6 i (.int .u8 (m : Int)) (by rw [List.getElem?_map, List.getElem?_eq_getElem hi, hmm]; rfl)
    refine ⟨b, o, c, m, h1, hc, by omega, ?_⟩
    rcases Nat.lt_or_ge b w.heap.size with h' | h'
    · exact h'
    · rw [hp, Array.getElem?_eq_none h'] at hc; simp [cellO] at hc
theorem rowB_of {s : Value} {ns : List Int} (h : ns.length ≠ 0) : rowB s ns = (blkOf s).toList := by
  cases ns with
  | nil => exact absurd rfl h
  | cons n ns => rfl
theorem spec_l20Rd_pick_c {b p t : Nat} {k : Nat} (hk : 1 ≤ k) (hk2 : k ≤ 1000000) (hp0 : p ≤ 1000000000000) {s : Value} {ns : List Int} {w : World} (hr : rRd t w b s p) (hs : rBytes w s ns) (hn : ns.length ≤ 1000000000000) (hb : ∀ x ∈ rowB s ns, x ≠ b) :
    Ret (EV P 40 #[pt b 0, i64 k] w) fun r => ∃ m : Nat, r.1 = i64 m ∧ m < k ∧ rRd t r.2 b s ((p + 1 : Nat) : Int) ∧ But w r.2 (some b) := by
  have hs' := hs
  obtain ⟨a, c, rfl, hc, hcm, _, _⟩ := hs
  unfold rRd at *
  have hwr : ∀ x : Int, 0 ≤ x → x ≤ 9000000000000000000 → IntKind.i64.wrap x = x := fun x h0 h1 => w64 (by omega) (by omega)
  have b1 : But w (w.setRow b #[.slice a ns.length c, i64 ((p : Int) + 1)]) (some b) := But.set w b _
  have hx1 : hp (w.setRow b #[.slice a ns.length c, i64 ((p : Int) + 1)]) b = some (.cells #[.slice a ns.length c, i64 (((p + 1 : Nat)) : Int)] t (0, 0)) := by rw [hp_set_eq, hr]; rfl
  refine Ret.enter plain Yo (spec_l20Rd_pick_fn _ _ _) (by kernel_rfl) (n := 2) (by kernel_rfl) rfl ?_
  have kk : ¬ (k : Int) < 1 := by omega
  have kn : (k : Int) ≠ 0 := by omega
  by_cases h0 : ns.length = 0
  · have hz : ((ns.length : Int) == 0) = true := by simp only [beq_iff_eq]; omega
    simp (disch := first | omega | (simp only [World.size_alloc, size_setRow, Za] <;> omega) | (simp only [List.length_set, Array.length_toList]; omega)) [-Option.bind_some, Zb, Zc, Zd, nk_ptr, hr, hwr, hz, kk, show ¬ k < 1 by omega]
    exact ⟨0, rfl, by omega, b1⟩
  have hz : ((ns.length : Int) == 0) = false := by simp only [beq_eq_false_iff_ne, ne_eq]; omega
  by_cases h1 : p < ns.length
  · obtain ⟨d, o, c', m, hs, hcell, hm, hd⟩ := rBytes_get hs' h1
    have hdb : d ≠ b := hb d (by rw [rowB_of h0]; simp [hs, blkOf])
    simp only [Value.slice.injEq, true_and] at hs
    obtain ⟨rfl, rfl⟩ := hs
    have hm1 : (m : Int).tmod (k : Int) = ((m % k : Nat) : Int) := tmod_nat m k
    simp (disch := first | omega | (simp only [World.size_alloc, size_setRow, Za] <;> omega) | (simp only [List.length_set, Array.length_toList]; omega)) [-Option.bind_some, Zb, Zc, Zd, nk_ptr, hr, hwr, hz, h1, kk, show ¬ k < 1 by omega, ia_22, hcell, Zd, hdb, bo_rem, kn, hm1]
    exact ⟨m % k, rfl, Nat.mod_lt _ (by omega), b1⟩
  have g1 : p % ns.length < ns.length := Nat.mod_lt _ (by omega)
  have g2 : (p * 7 + 3) % ns.length < ns.length := Nat.mod_lt _ (by omega)
  obtain ⟨d, o, c', m1, hs, hcell1, hm1, hd⟩ := rBytes_get hs' g1
  obtain ⟨d2, o2, c2, m2, hs2, hcell2, hm2, hd2⟩ := rBytes_get hs' g2
  have hdb : d ≠ b := hb d (by rw [rowB_of h0]; simp [hs, blkOf])
  have he := hs.symm.trans hs2
  simp only [Value.slice.injEq, Option.some.injEq, Addr.mk.injEq, true_and, and_true] at he hs
  obtain ⟨⟨rfl, rfl⟩, rfl⟩ := he
  obtain ⟨rfl, rfl⟩ := hs
  have t1 : (p : Int).tmod (ns.length : Int) = ((p % ns.length : Nat) : Int) := tmod_nat _ _
  have t2 : ((p : Int) * 7 + 3).tmod (ns.length : Int) = (((p * 7 + 3) % ns.length : Nat) : Int) := tmod_nat (p * 7 + 3) _
  have t3 : (p : Int).tdiv (ns.length : Int) = ((p / ns.length : Nat) : Int) := tdiv_nat _ _
  have t4 : p / ns.length ≤ p := Nat.div_le_self _ _
  generalize p % ns.length = q1 at *
  generalize (p * 7 + 3) % ns.length = q2 at *
  generalize p / ns.length = q3 at *
  have hn0 : (ns.length : Int) ≠ 0 := by omega
  simp (disch := first | omega | (simp only [World.size_alloc, size_setRow, Za] <;> omega) | (simp only [List.length_set, Array.length_toList]; omega)) [-Option.bind_some, Zb, Zc, Zd, nk_ptr, hr, hwr, hz, h1, kk, show ¬ k < 1 by omega, ia_22, hcell1, hcell2, Zd, hdb, bo_rem, bo_quo, kn, hn0, t1, t2, t3, g1, g2, show ns.length ≤ p by omega]
  obtain ⟨X, hX⟩ : ∃ X : Nat, X = m1 * 131 + m2 * 1117 + p * 29 + q3 * 53 := ⟨_, rfl⟩
  have hXi : (m1 : Int) * 131 + m2 * 1117 + p * 29 + q3 * 53 = (X : Int) := by omega
  have hXd : (X : Int).tdiv 64 = ((X / 64 : Nat) : Int) := tdiv_nat X 64
  rw [hXi, hXd, hwr _ (by omega) (by omega)]
  have hxo := fun x y w => (bo_xor (P := P) 3 x y (a := X) (b := X / 64) (by omega) (by omega) w).1
  rw [hxo]
  generalize (X ^^^ X / 64 : Nat) = Y
  have hY : (Y : Int).tmod (k : Int) = ((Y % k : Nat) : Int) := tmod_nat Y k
  simp (disch := first | omega | (simp only [World.size_alloc, size_setRow, Za] <;> omega) | (simp only [List.length_set, Array.length_toList]; omega)) [-Option.bind_some, Zb, Zc, Zd, bo_rem, kn, hY]
  exact ⟨Y % k, rfl, Nat.mod_lt _ (by omega), by simp (disch := first | omega | (simp only [World.size_alloc, size_setRow, Za] <;> omega) | (simp only [List.length_set, Array.length_toList]; omega)) [-Option.bind_some, Zb, Zc, Zd, hr], b1.tr (But.of (dw_ext _) _)⟩
end Go.Proofs.YtjagkbamkohnoaaGreat.X
set_option linter.unusedVariables false
set_option linter.unusedSimpArgs false
set_option maxRecDepth 100000
set_option maxHeartbeats 1000000
namespace Go.Proofs.YtjagkbamkohnoaaGreat.X
open Go Go.Ev Go.RowKit
/-- A reader in block g, at place p; what it reads lies below B. -/
def R (w : World) (B g p : Nat) : Prop := ∃ s ns, rRd 71 w g s p ∧ rBytes w s ns ∧ ns.length ≤ 1000000000000 ∧ (∀ x ∈ rowB s ns, x < B) ∧ B ≤ g
theorem R.lt {w : World} {B g p : Nat} (h : R w B g p) : B ≤ g ∧ g < w.heap.size := by
  obtain ⟨s, ns, h1, h2, h3, h4, h5⟩ := h
  exact ⟨h5, Yq h1⟩
theorem R.keep {w w' : World} {B g p : Nat} (h : R w B g p) (k : ∀ b, b < B ∨ b = g → b < w.heap.size → hp w' b = hp w b) : R w' B g p := by
  obtain ⟨s, ns, h1, h2, h3, h4, h5⟩ := h
  refine ⟨s, ns, (k g (.inr rfl) (Yq h1)).trans h1, ?_, h3, h4, h5⟩
  obtain ⟨a, c, q1, q2, q3, q4, q5⟩ := h2
  refine ⟨a, c, q1, q2, q3, q4, ?_⟩
  cases ns with
  | nil => exact .inl rfl
  | cons n ns =>
    rcases q5 with q5 | ⟨d, o, q6, q7⟩
    · cases q5
    · subst q1; subst q6
      have hd := h4 d (by simp [rowB, blkOf])
      exact .inr ⟨d, o, rfl, q7.same (k d (.inl hd) (At.lt (l := ns.map (Value.int .u8)) q7))⟩
theorem R.ext {w w' : World} {B g p : Nat} (h : R w B g p) (k : Ext w w') : R w' B g p := h.keep fun b _ hb => k.blk hb
theorem Yl {B g p k : Nat} (hk : 1 ≤ k) (hk2 : k ≤ 1000000) (hp0 : p ≤ 1000000000000) {w : World} (hr : R w B g p) :
    Ret (EV P 40 #[pt g 0, i64 k] w) fun r => ∃ m : Nat, r.1 = i64 m ∧ m < k ∧ R r.2 B g (p + 1) ∧ Mod (fun b => b = g) w r.2 := by
  obtain ⟨s, ns, h1, h2, h3, h4, h5⟩ := hr
  have hb : ∀ x ∈ rowB s ns, x ≠ g := fun x hx => by have := h4 x hx; omega
  refine Ret.mono (spec_l20Rd_pick_c hk hk2 hp0 h1 h2 h3 hb) ?_
  rintro r ⟨m, e1, e2, e3, M⟩
  have M' : Mod (fun b => b = g) w r.2 := ⟨M.os, M.tape, M.output, M.size, fun b hb hne => M.blk b hb (by simpa using fun h => hne h.symm)⟩
  have R0 : R w B g p := ⟨s, ns, h1, h2, h3, h4, h5⟩
  refine ⟨m, e1, e2, ⟨s, ns, e3, ?_, h3, h4, h5⟩, M'⟩
  obtain ⟨a, c, q1, q2, q3, q4, q5⟩ := h2
  refine ⟨a, c, q1, q2, q3, q4, ?_⟩
  cases ns with
  | nil => exact .inl rfl
  | cons n ns =>
    rcases q5 with q5 | ⟨d, o, q6, q7⟩
    · cases q5
    · subst q1; subst q6
      have hd := h4 d (by simp [rowB, blkOf])
      exact .inr ⟨d, o, rfl, q7.same (M'.blk d (At.lt (l := ns.map (Value.int .u8)) q7) (by omega))⟩
theorem spec_l20Open_m {s : Value} {ns : List Int} {w : World} (hs : rBytes w s ns) (hn : ns.length ≤ 1000000000000) :
    Ret (EV P 13 #[s] w) fun r => ∃ g, r.1 = pt g 0 ∧ R r.2 w.heap.size g 0 ∧ Ext w r.2 := by
  have hlt : ∀ x ∈ rowB s ns, x < w.heap.size := by
    intro x hx
    obtain ⟨a, c, q1, q2, q3, q4, q5⟩ := hs
    cases ns with
    | nil => simp [rowB] at hx
    | cons n ns =>
      rcases q5 with q5 | ⟨d, o, q6, q7⟩
      · cases q5
      · subst q1; subst q6
        simp only [rowB, blkOf, Option.toList_some, List.mem_singleton] at hx
        rw [hx]
        exact At.lt (l := ns.map (Value.int .u8)) q7
  have fin : ∀ (e : Env) (s : Value) (ns : List Int), e 0 = s → rBytes w s ns → ns.length ≤ 1000000000000 → (∀ x ∈ rowB s ns, x < w.heap.size) → Ret (spec_l20Open_j1 e w) fun r => ∃ g, r.1 = pt g 0 ∧ R r.2 w.heap.size g 0 ∧ Ext w r.2 := by
    intro e s ns e0 hs hn hlt
    have hs' := hs
    obtain ⟨a, c, rfl, q2, q3, q4, q5⟩ := hs
    refine Ret.post fun Q hQ => ?_
    rw [spec_l20Open_j1_eq]
    simp (maxSteps := 1000000) (disch := first | assumption | omega | (simp only [World.size_alloc, size_setRow, Za] <;> omega) | (simp only [List.length_set, Array.length_toList, List.length_cons, List.length_nil, List.length_append, Zn] <;> omega) | (simp only [List.all_cons, List.all_nil, Value.oneCell', Bool.and_self, Bool.and_true]; done)) [-Option.bind_some, Zb, Zc, Zd, Zh, Ze, Zi, Zt, Zk, Zr, Zs, Yg, Yf, Yh, -Zl, -Zm, Ye, Ya, Yd, Zx, Zz, Zw, Zq, Zj, Zf, Zg, Zy, Yb, Yc, Zv, Zp, Zo, Zu, e0, hlt, e0, hlt]
    refine hQ _ ⟨w.heap.size, rfl, ⟨_, ns, ?_, hs'.mono (Ext.keep (by (repeat (first | exact Ext.rfl | assumption | (refine Ext.al ?_ _) | (refine Ext.dw ?_) | (refine Ext.set ?_ (by first | omega | (simp only [World.size_alloc, size_setRow, Za]; omega)) _) | (refine Ext.tr ?_ (by assumption)))))), hn, hlt, by omega⟩, by (repeat (first | exact Ext.rfl | assumption | (refine Ext.al ?_ _) | (refine Ext.dw ?_) | (refine Ext.set ?_ (by first | omega | (simp only [World.size_alloc, size_setRow, Za]; omega)) _) | (refine Ext.tr ?_ (by assumption))))⟩
    show hp _ _ = _
    exact (by first | assumption | rfl | (simp (maxSteps := 1000000) (disch := first | assumption | omega | (simp only [World.size_alloc, size_setRow, Za] <;> omega) | (simp only [List.length_set, Array.length_toList, List.length_cons, List.length_nil, List.length_append, Zn] <;> omega) | (simp only [List.all_cons, List.all_nil, Value.oneCell', Bool.and_self, Bool.and_true]; done)) [-Option.bind_some, Zb, Zc, Zd, Zh, Ze, Zi, Zt, Zk, Zr, Zs, Yg, Yf, Yh, -Zl, -Zm, Ye, Ya, Yd, Zx, Zz, Zw, Zq, Zj, Zf, Zg, Zy, Yb, Yc, Zv, Zp, Zo, Zu, hlt, e0, hlt]; done))
  have hs' := hs
  obtain ⟨a, c, rfl, q2, q3, q4, q5⟩ := hs
  refine Ret.post fun Q hQ => ?_
  refine Ret.enter plain Yo (spec_l20Open_fn _ _) (by kernel_rfl) (n := 1) (by kernel_rfl) rfl ?_
  by_cases hl : 2000 < ns.length
  · have hts : rBytes w (.slice a 2000 c) (ns.take 2000) := by
      refine ⟨a, c, by rw [List.length_take]; congr 1; omega, by rw [List.length_take]; omega, q3, fun n hn => q4 n (List.mem_of_mem_take hn), ?_⟩
      rcases q5 with q5 | ⟨d, o, q6, q7⟩
      · subst q5; simp at hl
      · refine .inr ⟨d, o, q6, fun j v hv => q7 j v ?_⟩
        rw [List.map_take, List.getElem?_take] at hv
        split at hv
        · exact hv
        · cases hv
    simp (maxSteps := 1000000) (disch := first | assumption | omega | (simp only [World.size_alloc, size_setRow, Za] <;> omega) | (simp only [List.length_set, Array.length_toList, List.length_cons, List.length_nil, List.length_append, Zn] <;> omega) | (simp only [List.all_cons, List.all_nil, Value.oneCell', Bool.and_self, Bool.and_true]; done)) [-Option.bind_some, Zb, Zc, Zd, Zh, Ze, Zi, Zt, Zk, Zr, Zs, Yg, Yf, Yh, -Zl, -Zm, Ye, Ya, Yd, Zx, Zz, Zw, Zq, Zj, Zf, Zg, Zy, Yb, Yc, Zv, Zp, Zo, Zu, show (2000 : Int) < ns.length by omega, sl_h (P := P) el_22, show (2000 : Int) ≤ c by omega, hlt]
    refine Ret.mono (fin _ (.slice a 2000 c) (ns.take 2000) rfl hts (by rw [List.length_take]; omega) ?_) hQ
    intro x hx
    refine hlt x ?_
    cases ns with
    | nil => simp at hl
    | cons n ns =>
      cases a with
      | none => simp [rowB, blkOf] at hx
      | some _ => simpa [rowB, blkOf] using hx
  · simp (maxSteps := 1000000) (disch := first | assumption | omega | (simp only [World.size_alloc, size_setRow, Za] <;> omega) | (simp only [List.length_set, Array.length_toList, List.length_cons, List.length_nil, List.length_append, Zn] <;> omega) | (simp only [List.all_cons, List.all_nil, Value.oneCell', Bool.and_self, Bool.and_true]; done)) [-Option.bind_some, Zb, Zc, Zd, Zh, Ze, Zi, Zt, Zk, Zr, Zs, Yg, Yf, Yh, -Zl, -Zm, Ye, Ya, Yd, Zx, Zz, Zw, Zq, Zj, Zf, Zg, Zy, Yb, Yc, Zv, Zp, Zo, Zu, show ¬ (2000 : Int) < ns.length by omega, hlt]
    exact Ret.mono (fin _ _ ns rfl hs' hn hlt) hQ
theorem spec_l20Rd_one_m {B g p b k c : Nat} {ints : List Int} (hk : 1 ≤ k) (hk2 : k ≤ 1000000) (hp0 : p ≤ 1000000000000) {w : World} (hl : ints.length = k) (hA : At w b 0 (ints.map fun n => i64 n)) (hbg : b ≠ g) (hr : R w B g p) :
    Ret (EV P 15 #[pt g 0, .slice (some ⟨b, 0, none⟩) k c] w) fun r => ∃ n ∈ ints, r.1 = i64 n ∧ R r.2 B g (p + 1) ∧ Mod (fun b => b = g) w r.2 := by
  refine Ret.post fun Q hQ => ?_
  refine Ret.enter plain Yo (spec_l20Rd_one_fn _ _ _) (by kernel_rfl) (n := 2) (by kernel_rfl) rfl ?_
  simp (maxSteps := 1000000) (disch := first | assumption | omega | (simp only [World.size_alloc, size_setRow, Za] <;> omega) | (simp only [List.length_set, Array.length_toList, List.length_cons, List.length_nil, List.length_append, Zn] <;> omega) | (simp only [List.all_cons, List.all_nil, Value.oneCell', Bool.and_self, Bool.and_true]; done)) [-Option.bind_some, Zb, Zc, Zd, Zh, Ze, Zi, Zt, Zk, Zr, Zs, Yg, Yf, Yh, -Zl, -Zm, Ye, Ya, Yd, Zx, Zz, Zw, Zq, Zj, Zf, Zg, Zy, Yb, Yc, Zv, Zp, Zo, Zu]
  refine Ret.bind (Yl hk hk2 hp0 hr) ?_
  rintro ⟨_, w1⟩ ⟨m, rfl, hm, R1, M1⟩
  have zM1 := M1.size
  try simp only [World.size_alloc, size_setRow, Za] at zM1
  try dsimp only at R1 M1
  obtain ⟨n, hn, _⟩ := Yk (l := ints) (k := m) (by omega)
  have hA1 := hA m (i64 n) (by rw [List.getElem?_map, hn]; rfl)
  have hbl : b < w.heap.size := by
    rcases Nat.lt_or_ge b w.heap.size with h | h
    · exact h
    · rw [hp, Array.getElem?_eq_none h] at hA1; simp [cellO] at hA1
  rw [Nat.zero_add] at hA1
  simp (maxSteps := 1000000) (disch := first | assumption | omega | (simp only [World.size_alloc, size_setRow, Za] <;> omega) | (simp only [List.length_set, Array.length_toList, List.length_cons, List.length_nil, List.length_append, Zn] <;> omega) | (simp only [List.all_cons, List.all_nil, Value.oneCell', Bool.and_self, Bool.and_true]; done)) [-Option.bind_some, Zb, Zc, Zd, Zh, Ze, Zi, Zt, Zk, Zr, Zs, Yg, Yf, Yh, -Zl, -Zm, Ye, Ya, Yd, Zx, Zz, Zw, Zq, Zj, Zf, Zg, Zy, Yb, Yc, Zv, Zp, Zo, Zu, ia_53, show (m : Int) < k by omega, hA1, M1.blk]
  exact hQ _ ⟨n, List.mem_of_getElem? hn, rfl, R1, M1⟩
end Go.Proofs.YtjagkbamkohnoaaGreat.X
set_option linter.unusedVariables false
set_option linter.unusedSimpArgs false
set_option maxRecDepth 100000
set_option maxHeartbeats 1000000
namespace Go.Proofs.YtjagkbamkohnoaaGreat.X
open Go Go.Ev Go.RowKit
def addNode (n : CNode) (v : Ver) (last : Bool) : CNode := ⟨n.store.set v.key.toNat v, if last then n.wait else n.wait ++ [v]⟩
def addAt (ns : List CNode) (i : Nat) (v : Ver) : List CNode := match ns[i]? with
  | some n => (match n.store[v.key.toNat]? with
    | some u => if tagLess u.tag v.tag then ns.set i (addNode n v (decide (ns.length ≤ i + 1))) else ns
    | none => ns)
  | none => ns
theorem spec_l3Add_n {a : Option Addr} {n c i : Nat} {S S1 : Nat → Prop} {ns : List CNode} {cs : List Value} {v : Ver} {x : CNode} {w : World} (ho : O Yr S w [.slice a n c] ns) (hv : D tVer S1 w cs v) (hd : ∀ b, b < w.heap.size → S1 b → ¬ S b)
    (hx : ns[i]? = some x) (h0 : 0 ≤ v.key) (h1 : v.key.toNat < x.store.length) (h6 : x.wait.length ≤ 1000000) (h4 : ns.length ≤ 1000000) :
    Ret (EV P 55 #[.agg #[.slice a n c], i64 i, .agg cs.toArray] w) fun r => r.1 = .agg #[.slice a ns.length c] ∧ O Yr (fun b => S b ∨ In w.heap.size r.2.heap.size b) r.2 [.slice a ns.length c] (addAt ns i v) ∧ Mod S w r.2 := by
  obtain ⟨rfl, hm, _⟩ := ho.n
  have ho' := ho
  obtain ⟨av, cv, rfl, hv1, hv2⟩ := D.ver.1 hv
  obtain ⟨u, hu, _⟩ := Yk h1
  have hlt : i < ns.length := (List.getElem?_eq_some_iff.1 hx).1
  obtain ⟨g, cur, ds, S2, rfl, hSg, hgl, hg, hle, hx1, hS2, put⟩ := ho.row (by decide) hx
  obtain ⟨a2, c2, a3, c3, Ss, Sw, rfl, o2, o3, hSs, hSw⟩ := O.node_un hx1
  simp only [Yn] at hg hle put
  have o2' := o2
  obtain ⟨g2, cur2, ds2, S3, rfl, hSg2, hgl2, hg2, hle2, hx2, hS3, put2⟩ := o2.row (by decide) hu
  obtain ⟨au, cu, rfl, hu1, hu2⟩ := O.ver.1 hx2
  simp only [LVer_n] at hg2 hle2 put2
  have hk : v.key < x.store.length := by omega
  have hne : g2 ≠ g := (hS2 g2 (hSs g2 hSg2).1).2.1
  refine Ret.post fun Q hQ => ?_
  refine Ret.enter plain Yo (spec_l3Add_fn _ _ _ _) (by kernel_rfl) (n := 3) (by kernel_rfl) rfl ?_
  simp (maxSteps := 1000000) (disch := first | assumption | omega | (simp only [World.size_alloc, size_setRow, Za] <;> omega) | (simp only [List.length_set, Array.length_toList, List.length_cons, List.length_nil, List.length_append, Zn] <;> omega) | (simp only [List.all_cons, List.all_nil, Value.oneCell', Bool.and_self, Bool.and_true]; done)) [-Option.bind_some, Zb, Zc, Zd, Zh, Ze, Zi, Zt, Zk, Zr, Zs, Yg, Yf, Yh, -Zl, -Zm, Ye, Ya, Yd, Zx, Zz, Zw, Zq, Zj, Zf, Zg, Zy, Yb, Yc, Zv, Zp, Zo, Zu, ia_23, ia_32, hg, hg2, hk, hlt, hlt, hg, hg2]
  refine Ret.bind (spec_l1Less_c u.tag v.tag _) ?_
  rintro ⟨_, w1⟩ ⟨rfl, E1⟩
  try dsimp only at E1
  have zE1 := E1.size
  try simp only [World.size_alloc, size_setRow, Za] at zE1
  cases hl : tagLess u.tag v.tag
  · have e : addAt ns i v = ns := by rw [addAt, hx]; simp [hu, hl]
    rw [e] at hQ
    simp (maxSteps := 1000000) (disch := first | assumption | omega | (simp only [World.size_alloc, size_setRow, Za] <;> omega) | (simp only [List.length_set, Array.length_toList, List.length_cons, List.length_nil, List.length_append, Zn] <;> omega) | (simp only [List.all_cons, List.all_nil, Value.oneCell', Bool.and_self, Bool.and_true]; done)) [-Option.bind_some, Zb, Zc, Zd, Zh, Ze, Zi, Zt, Zk, Zr, Zs, Yg, Yf, Yh, -Zl, -Zm, Ye, Ya, Yd, Zx, Zz, Zw, Zq, Zj, Zf, Zg, Zy, Yb, Yc, Zv, Zp, Zo, Zu, hlt, hg, hg2, E1.blk]
    exact hQ _ ⟨rfl, (ho'.keep (by intro b hS hb; (try dsimp only at hS); (try simp only [In, World.size_alloc, size_setRow, Za] at hS hb); first | rfl | (simp (disch := first | assumption | omega | (simp only [World.size_alloc, size_setRow, Za]; omega) | (simp only [World.size_alloc, size_setRow, Za, In]; omega)) only [E1.blk, Zb, Zd, Ym]; done))).wide (fun b h _ => .inl h), by (repeat (first | exact Mod.rfl | assumption | (refine Mod.al ?_ _) | (refine Mod.dw' ?_) | (refine Mod.set' ?_ (by first | (left; omega) | (left; simp only [World.size_alloc, size_setRow, Za]; omega) | (right; assumption) | (right; simp; done)) _) | (refine Mod.ex ?_ (by assumption))))⟩
  · have e : addAt ns i v = ns.set i (addNode x v (decide (ns.length ≤ i + 1))) := by rw [addAt, hx]; simp [hu, hl]
    rw [e] at hQ
    have hst : storeAdd x.store v = x.store.set v.key.toNat v := storeAdd_t hu hl
    simp (maxSteps := 1000000) (disch := first | assumption | omega | (simp only [World.size_alloc, size_setRow, Za] <;> omega) | (simp only [List.length_set, Array.length_toList, List.length_cons, List.length_nil, List.length_append, Zn] <;> omega) | (simp only [List.all_cons, List.all_nil, Value.oneCell', Bool.and_self, Bool.and_true]; done)) [-Option.bind_some, Zb, Zc, Zd, Zh, Ze, Zi, Zt, Zk, Zr, Zs, Yg, Yf, Yh, -Zl, -Zm, Ye, Ya, Yd, Zx, Zz, Zw, Zq, Zj, Zf, Zg, Zy, Yb, Yc, Zv, Zp, Zo, Zu, ia_23, ia_32, hg, hg2, hk, hlt, hlt, hg, hg2, E1.blk]
    refine Ret.bind (spec_l2Add_n (o2'.keep (by intro b hS hb; (try dsimp only at hS); (try simp only [In, World.size_alloc, size_setRow, Za] at hS hb); first | rfl | (simp (disch := first | assumption | omega | (simp only [World.size_alloc, size_setRow, Za]; omega) | (simp only [World.size_alloc, size_setRow, Za, In]; omega)) only [E1.blk, Zb, Zd, Ym]; done))) (hv.ext (by (repeat (first | exact Ext.rfl | assumption | (refine Ext.al ?_ _) | (refine Ext.dw ?_) | (refine Ext.set ?_ (by first | omega | (simp only [World.size_alloc, size_setRow, Za]; omega)) _) | (refine Ext.tr ?_ (by assumption)))))) h0 h1) ?_
    rintro ⟨_, w2⟩ ⟨rfl, o4, M2⟩
    have zM2 := M2.size
    try simp only [World.size_alloc, size_setRow, Za] at zM2
    try dsimp only at o4 M2
    have zM2 := M2.size
    simp only [World.size_alloc, Za] at zM2
    have nS : ∀ b, w.heap.size ≤ b → ¬ Ss b := fun b hb h => by have := (hSs b h).2.2; omega
    have G2 : hp w2 g = hp w g := (M2.blk g (by (try simp only [In, World.size_alloc, size_setRow, Za] at *); omega) (fun h => (hS2 g (hSs g h).1).2.1 rfl)).trans (by first | assumption | rfl | (simp (maxSteps := 1000000) (disch := first | assumption | omega | (simp only [World.size_alloc, size_setRow, Za] <;> omega) | (simp only [List.length_set, Array.length_toList, List.length_cons, List.length_nil, List.length_append, Zn] <;> omega) | (simp only [List.all_cons, List.all_nil, Value.oneCell', Bool.and_self, Bool.and_true]; done)) [-Option.bind_some, Zb, Zc, Zd, Zh, Ze, Zi, Zt, Zk, Zr, Zs, Yg, Yf, Yh, hlt, hg, hg2, E1.blk, M2.blk]; done))
    have Y1 : hp w2 w.heap.size = some (.cells #[.slice (some ⟨g, 0, none⟩) ns.length c] 25 (0, 0)) := (M2.blk w.heap.size (by (try simp only [In, World.size_alloc, size_setRow, Za] at *); omega) (nS _ (by omega))).trans (by first | assumption | rfl | (simp (maxSteps := 1000000) (disch := first | assumption | omega | (simp only [World.size_alloc, size_setRow, Za] <;> omega) | (simp only [List.length_set, Array.length_toList, List.length_cons, List.length_nil, List.length_append, Zn] <;> omega) | (simp only [List.all_cons, List.all_nil, Value.oneCell', Bool.and_self, Bool.and_true]; done)) [-Option.bind_some, Zb, Zc, Zd, Zh, Ze, Zi, Zt, Zk, Zr, Zs, Yg, Yf, Yh, -Zl, -Zm, Ye, Ya, Yd, Zx, Zz, Zw, Zq, Zj, Zf, Zg, Zy, Yb, Yc, Zv, Zp, Zo, Zu, hlt, hg, hg2, E1.blk, M2.blk]; done))
    have Y2 : hp w2 (w.heap.size + 1) = some (.cells #[i64 v.key, i64 v.tag.t, i64 v.tag.p, .slice av v.past.length cv, .string v.text, .bool v.gone] 45 (0, 0)) := (M2.blk (w.heap.size + 1) (by (try simp only [In, World.size_alloc, size_setRow, Za] at *); omega) (nS _ (by omega))).trans (by first | assumption | rfl | (simp (maxSteps := 1000000) (disch := first | assumption | omega | (simp only [World.size_alloc, size_setRow, Za] <;> omega) | (simp only [List.length_set, Array.length_toList, List.length_cons, List.length_nil, List.length_append, Zn] <;> omega) | (simp only [List.all_cons, List.all_nil, Value.oneCell', Bool.and_self, Bool.and_true]; done)) [-Option.bind_some, Zb, Zc, Zd, Zh, Ze, Zi, Zt, Zk, Zr, Zs, Yg, Yf, Yh, -Zl, -Zm, Ye, Ya, Yd, Zx, Zz, Zw, Zq, Zj, Zf, Zg, Zy, Yb, Yc, Zv, Zp, Zo, Zu, hlt, hg, hg2, E1.blk, M2.blk]; done))
    have Y3 : hp w2 (w.heap.size + 1 + 1) = some (.cells #[.slice none 0 0] 25 (0, 0)) := (M2.blk (w.heap.size + 1 + 1) (by (try simp only [In, World.size_alloc, size_setRow, Za] at *); omega) (nS _ (by omega))).trans (by first | assumption | rfl | (simp (maxSteps := 1000000) (disch := first | assumption | omega | (simp only [World.size_alloc, size_setRow, Za] <;> omega) | (simp only [List.length_set, Array.length_toList, List.length_cons, List.length_nil, List.length_append, Zn] <;> omega) | (simp only [List.all_cons, List.all_nil, Value.oneCell', Bool.and_self, Bool.and_true]; done)) [-Option.bind_some, Zb, Zc, Zd, Zh, Ze, Zi, Zt, Zk, Zr, Zs, Yg, Yf, Yh, -Zl, -Zm, Ye, Ya, Yd, Zx, Zz, Zw, Zq, Zj, Zf, Zg, Zy, Yb, Yc, Zv, Zp, Zo, Zu, hlt, hg, hg2, E1.blk, M2.blk]; done))
    have hw : IntKind.i64.wrap ((ns.length : Int) - 1) = (ns.length : Int) - 1 := w64 (by omega) (by omega)
    have MA : Mod S w w2 := Mod.after' (Mod.of (by (repeat (first | exact Ext.rfl | assumption | (refine Ext.al ?_ _) | (refine Ext.dw ?_) | (refine Ext.set ?_ (by first | omega | (simp only [World.size_alloc, size_setRow, Za]; omega)) _) | (refine Ext.tr ?_ (by assumption))))) S) M2 (fun x _ h => (hS2 x (hSs x h).1).1)
    rw [hst] at o4
    by_cases hlast : i + 1 < ns.length
    · simp (maxSteps := 1000000) (disch := first | assumption | omega | (simp only [World.size_alloc, size_setRow, Za] <;> omega) | (simp only [List.length_set, Array.length_toList, List.length_cons, List.length_nil, List.length_append, Zn] <;> omega) | (simp only [List.all_cons, List.all_nil, Value.oneCell', Bool.and_self, Bool.and_true]; done)) [-Option.bind_some, Zb, Zc, Zd, Zh, Ze, Zi, Zt, Zk, Zr, Zs, Yg, Yf, Yh, -Zl, -Zm, Ye, Ya, Yd, Zx, Zz, Zw, Zq, Zj, Zf, Zg, Zy, Yb, Yc, Zv, Zp, Zo, Zu, ia_23, ia_32, Y1, Y2, Y3, G2, hg, hk, hlt, hw, show (i : Int) < (ns.length : Int) - 1 by omega, hlt, hg, hg2, E1.blk, M2.blk]
      have hg2' : hp (w2.setRow g (rowv cur (i * 2) [.slice (some ⟨g2, 0, none⟩) x.store.length c2, .slice a3 x.wait.length c3]).toArray) g = some (.cells (rowv cur (i * 2) [.slice (some ⟨g2, 0, none⟩) x.store.length c2, .slice a3 x.wait.length c3]).toArray 36 (0, 0)) := (by first | assumption | rfl | (simp (maxSteps := 1000000) (disch := first | assumption | omega | (simp only [World.size_alloc, size_setRow, Za] <;> omega) | (simp only [List.length_set, Array.length_toList, List.length_cons, List.length_nil, List.length_append, Zn] <;> omega) | (simp only [List.all_cons, List.all_nil, Value.oneCell', Bool.and_self, Bool.and_true]; done)) [-Option.bind_some, Zb, Zc, Zd, Zh, Ze, Zi, Zt, Zk, Zr, Zs, Yg, Yf, Yh, -Zl, -Zm, Ye, Ya, Yd, Zx, Zz, Zw, Zq, Zj, Zf, Zg, Zy, Yb, Yc, Zv, Zp, Zo, Zu, G2, hg, hlt, hg, hg2, E1.blk, M2.blk]; done))
      have hvk : D tVer S1 (dw (w2.setRow g (rowv cur (i * 2) [.slice (some ⟨g2, 0, none⟩) x.store.length c2, .slice a3 x.wait.length c3]).toArray)) [i64 v.key, i64 v.tag.t, i64 v.tag.p, .slice av v.past.length cv, .string v.text, .bool v.gone] v := by
        refine hv.keep fun b hb hbl => ?_
        have q1 : b ≠ g := fun h => hd b hbl hb (h ▸ hSg)
        have q2 : ¬ Ss b := fun h => hd b hbl hb (hS2 b (hSs b h).1).1
        rw [Ym, Zd q1]
        exact (M2.blk b (by (try simp only [In, World.size_alloc, size_setRow, Za] at *); omega) q2).trans (by first | assumption | rfl | (simp (maxSteps := 1000000) (disch := first | assumption | omega | (simp only [World.size_alloc, size_setRow, Za] <;> omega) | (simp only [List.length_set, Array.length_toList, List.length_cons, List.length_nil, List.length_append, Zn] <;> omega) | (simp only [List.all_cons, List.all_nil, Value.oneCell', Bool.and_self, Bool.and_true]; done)) [-Option.bind_some, Zb, Zc, Zd, Zh, Ze, Zi, Zt, Zk, Zr, Zs, Yg, Yf, Yh, hlt, hg, hg2, E1.blk, M2.blk]; done))
      refine Ret.bind (spec_l2Copy_n hvk) ?_
      rintro ⟨_, w3⟩ ⟨es, rfl, o5, E3⟩
      try dsimp only at es o5 E3
      have zE3 := E3.size
      try simp only [World.size_alloc, size_setRow, Za] at zE3
      have zds := O.ver.1 o5
      obtain ⟨ae, ce, rfl, _, _⟩ := zds
      have zE3 := E3.size
      simp only [World.size_alloc, size_setRow, Za] at zE3
      have hkw : ∀ b, b < w.heap.size → b ≠ g → ¬ Ss b → hp w3 b = hp w b := by
        intro b q1 q2 q3
        refine (E3.blk (by simp only [World.size_alloc, size_setRow, Za]; omega)).trans ?_
        rw [Ym, Zd q2]
        exact (M2.blk b (by (try simp only [In, World.size_alloc, size_setRow, Za] at *); omega) q3).trans (by first | assumption | rfl | (simp (maxSteps := 1000000) (disch := first | assumption | omega | (simp only [World.size_alloc, size_setRow, Za] <;> omega) | (simp only [List.length_set, Array.length_toList, List.length_cons, List.length_nil, List.length_append, Zn] <;> omega) | (simp only [List.all_cons, List.all_nil, Value.oneCell', Bool.and_self, Bool.and_true]; done)) [-Option.bind_some, Zb, Zc, Zd, Zh, Ze, Zi, Zt, Zk, Zr, Zs, Yg, Yf, Yh, hlt, hg, hg2, E1.blk, M2.blk, E3.blk]; done))
      have hkn : ∀ b, b ≠ g → b < w2.heap.size → hp w3 b = hp w2 b := by
        intro b q1 q2
        refine (E3.blk (by simp only [World.size_alloc, size_setRow, Za]; omega)).trans ?_
        rw [Ym, Zd q1]
      have hg3 : hp w3 g = some (.cells (rowv cur (i * 2) [.slice (some ⟨g2, 0, none⟩) x.store.length c2, .slice a3 x.wait.length c3]).toArray 36 (0, 0)) := (E3.blk (by simp only [World.size_alloc, size_setRow, Za]; omega)).trans ((Ym _ _).trans hg2')
      simp (maxSteps := 1000000) (disch := first | assumption | omega | (simp only [World.size_alloc, size_setRow, Za] <;> omega) | (simp only [List.length_set, Array.length_toList, List.length_cons, List.length_nil, List.length_append, Zn] <;> omega) | (simp only [List.all_cons, List.all_nil, Value.oneCell', Bool.and_self, Bool.and_true]; done)) [-Option.bind_some, Zb, Zc, Zd, Zh, Ze, Zi, Zt, Zk, Zr, Zs, Yg, Yf, Yh, -Zl, -Zm, Ye, Ya, Yd, Zx, Zz, Zw, Zq, Zj, Zf, Zg, Zy, Yb, Yc, Zv, Zp, Zo, Zu, ia_23, ia_32, Y1, Y2, Y3, hg2', hg, hk, hlt, hw, hlt, hg, hg2, E1.blk, M2.blk, E3.blk, hg3]
      refine Ret.bind (O.app (L := tVer) (S := fun b => Sw b) (mx := 1954687338211) (xs := x.wait) (x := v) el_32 zz_45 rfl (by decide) (o3.keep ?_) (o5.keep (by intro b hS hb; (try dsimp only at hS); (try simp only [In, World.size_alloc, size_setRow, Za] at hS hb); first | rfl | (simp (disch := first | assumption | omega | (simp only [World.size_alloc, size_setRow, Za]; omega) | (simp only [World.size_alloc, size_setRow, Za, In]; omega)) only [E1.blk, M2.blk, E3.blk, Zb, Zd, Ym]; done))) ?_ At.new (by omega) (by decide) (by decide)) ?_
      · intro b hS hb
        rw [Zb (by omega)]
        exact hkw b hb (hS2 b (hSw b hS).1).2.1 (hSw b hS).2.1
      · intro b hb q1 q2
        have := (hSw b q1).2.2
        simp only [In, World.size_alloc, size_setRow, Za] at q2
        omega
      rintro ⟨_, w4⟩ ⟨a7, c7, rfl, o7, M7⟩
      have zM7 := M7.size
      try simp only [World.size_alloc, size_setRow, Za] at zM7
      try dsimp only at o7 M7
      have zM7 := M7.size
      simp only [World.size_alloc, size_setRow, Za] at zM7
      have nW : ∀ b, w.heap.size ≤ b → ¬ Sw b := fun b hb h => by have := (hSw b h).2.2; omega
      have hg4 : hp w4 g = some (.cells (rowv cur (i * 2) [.slice (some ⟨g2, 0, none⟩) x.store.length c2, .slice a3 x.wait.length c3]).toArray 36 (0, 0)) := (M7.blk g (by (try simp only [In, World.size_alloc, size_setRow, Za] at *); omega) (fun h => (hS2 g (hSw g h).1).2.1 rfl)).trans ((Zb (by omega)).trans hg3)
      have hk7 : ∀ b, b < w3.heap.size → ¬ Sw b → hp w4 b = hp w3 b := fun b q1 q2 => (M7.blk b (by (try simp only [In, World.size_alloc, size_setRow, Za] at *); omega) q2).trans (Zb q1)
      have Z1 : hp w4 w.heap.size = some (.cells #[.slice (some ⟨g, 0, none⟩) ns.length c] 25 (0, 0)) := (hk7 _ (by omega) (nW _ (by omega))).trans ((hkn _ (by omega) (by omega)).trans Y1)
      have Z3 : hp w4 (w.heap.size + 1 + 1) = some (.cells #[.slice none 0 0] 25 (0, 0)) := (hk7 _ (by omega) (nW _ (by omega))).trans ((hkn _ (by omega) (by omega)).trans Y3)
      simp (maxSteps := 1000000) (disch := first | assumption | omega | (simp only [World.size_alloc, size_setRow, Za] <;> omega) | (simp only [List.length_set, Array.length_toList, List.length_cons, List.length_nil, List.length_append, Zn] <;> omega) | (simp only [List.all_cons, List.all_nil, Value.oneCell', Bool.and_self, Bool.and_true]; done)) [-Option.bind_some, Zb, Zc, Zd, Zh, Ze, Zi, Zt, Zk, Zr, Zs, Yg, Yf, Yh, -Zl, -Zm, Ye, Ya, Yd, Zx, Zz, Zw, Zq, Zj, Zf, Zg, Zy, Yb, Yc, Zv, Zp, Zo, Zu, ia_23, ia_32, Z1, Z3, hg4, hk, hlt, hw, spec_l3Add_j1_eq, hlt, hg, hg2, E1.blk, M2.blk, E3.blk, hg3, M7.blk, hg4]
      have hns : decide (ns.length ≤ i + 1) = false := by simp only [decide_eq_false_iff_not]; omega
      rw [hns] at hQ
      have MB : Mod S w w3 := ((MA.set' (.inr hSg) _).dw').ex E3
      have MC : Mod S w w4 := Mod.after' (MB.al _) M7 (fun x _ h => (hS2 x (hSw x h).1).1)
      refine hQ _ ⟨rfl, (put _ _ (addNode x v false) _ (O.node_mk (v := addNode x v false) (o4.keep ?_) (o7.keep ?_) ?_) (by first | assumption | rfl | (simp (maxSteps := 1000000) (disch := first | assumption | omega | (simp only [World.size_alloc, size_setRow, Za] <;> omega) | (simp only [List.length_set, Array.length_toList, List.length_cons, List.length_nil, List.length_append, Zn] <;> omega) | (simp only [List.all_cons, List.all_nil, Value.oneCell', Bool.and_self, Bool.and_true]; done)) [-Option.bind_some, Zb, Zc, Zd, Zh, Ze, Zi, Zt, Zk, Zr, Zs, Yg, Yf, Yh, -Zl, -Zm, Ye, Ya, Yd, Zx, Zz, Zw, Zq, Zj, Zf, Zg, Zy, Yb, Yc, Zv, Zp, Zo, Zu, hg4, hlt, hg, hg2, E1.blk, M2.blk, E3.blk, hg3, M7.blk, hg4]; done)) ?_ ?_).wide ?_, (MC.set' (.inr hSg) _).set' (.inl (by omega)) _⟩
      · intro b hS hb
        have q1 : b ≠ g ∧ b ≠ w.heap.size + 1 + 1 ∧ ¬ Sw b := by
          rcases hS with h | h
          · have := hS2 b (hSs b h).1
            exact ⟨this.2.1, by omega, (hSs b h).2.1⟩
          · simp only [In, World.size_alloc, size_setRow, Za] at h
            exact ⟨by omega, by omega, nW b (by omega)⟩
        rw [Zd q1.2.1, Zd q1.1]
        exact (hk7 b (by omega) q1.2.2).trans (hkn b q1.1 hb)
      · intro b hS hb
        have q1 : b ≠ g ∧ b ≠ w.heap.size + 1 + 1 := by
          rcases hS with h | h
          · have := hS2 b (hSw b h).1
            exact ⟨this.2.1, by omega⟩
          · simp only [In, World.size_alloc, size_setRow, Za] at h
            omega
        rw [Zd q1.2, Zd q1.1]
      · intro b hb h1 h2
        simp only [In, World.size_alloc, size_setRow, Za] at h1 h2
        rcases h1 with h | h
        · have := hSs b h
          rcases h2 with k | k
          · exact this.2.1 k
          · omega
        · rcases h2 with k | k
          · exact nW b (by omega) k
          · omega
      · intro b hb hS hne hn
        have q2 : ¬ Ss b := fun h => hn (hSs b h).1
        have q3 : ¬ Sw b := fun h => hn (hSw b h).1
        rw [Zd (by omega), Zd hne]
        exact (hk7 b (by omega) q3).trans (hkw b hb hne q2)
      · intro b hb h
        simp only [In, World.size_alloc, size_setRow, Za] at h
        rcases h with (h | h) | (h | h)
        · exact .inl (hSs b h).1
        · exact .inr (by omega)
        · exact .inl (hSw b h).1
        · exact .inr (by omega)
      · intro b h hb
        simp only [In, World.size_alloc, size_setRow, Za] at h hb ⊢
        rcases h with h | (h | h) | (h | h)
        · exact .inl h
        · exact .inl (hS2 b (hSs b h).1).1
        · exact .inr (by omega)
        · exact .inl (hS2 b (hSw b h).1).1
        · exact .inr (by omega)
    · simp (maxSteps := 1000000) (disch := first | assumption | omega | (simp only [World.size_alloc, size_setRow, Za] <;> omega) | (simp only [List.length_set, Array.length_toList, List.length_cons, List.length_nil, List.length_append, Zn] <;> omega) | (simp only [List.all_cons, List.all_nil, Value.oneCell', Bool.and_self, Bool.and_true]; done)) [-Option.bind_some, Zb, Zc, Zd, Zh, Ze, Zi, Zt, Zk, Zr, Zs, Yg, Yf, Yh, -Zl, -Zm, Ye, Ya, Yd, Zx, Zz, Zw, Zq, Zj, Zf, Zg, Zy, Yb, Yc, Zv, Zp, Zo, Zu, ia_23, ia_32, Y1, Y2, Y3, G2, hg, hk, hlt, hw, spec_l3Add_j1_eq, show ¬ (i : Int) < (ns.length : Int) - 1 by omega, hlt, hg, hg2, E1.blk, M2.blk]
      have hns : decide (ns.length ≤ i + 1) = true := by simp only [decide_eq_true_eq]; omega
      rw [hns] at hQ
      refine hQ _ ⟨rfl, (put _ _ (addNode x v true) _ (O.node_mk (v := addNode x v true) (o4.keep ?_) (o3.keep ?_) ?_) (by first | assumption | rfl | (simp (maxSteps := 1000000) (disch := first | assumption | omega | (simp only [World.size_alloc, size_setRow, Za] <;> omega) | (simp only [List.length_set, Array.length_toList, List.length_cons, List.length_nil, List.length_append, Zn] <;> omega) | (simp only [List.all_cons, List.all_nil, Value.oneCell', Bool.and_self, Bool.and_true]; done)) [-Option.bind_some, Zb, Zc, Zd, Zh, Ze, Zi, Zt, Zk, Zr, Zs, Yg, Yf, Yh, -Zl, -Zm, Ye, Ya, Yd, Zx, Zz, Zw, Zq, Zj, Zf, Zg, Zy, Yb, Yc, Zv, Zp, Zo, Zu, G2, hg, hlt, hg, hg2, E1.blk, M2.blk]; done)) ?_ ?_).wide ?_, (MA.set' (.inr hSg) _).set' (.inl (by omega)) _⟩
      · intro b hS hb
        have q1 : b ≠ g ∧ b ≠ w.heap.size + 1 + 1 := by
          rcases hS with h | h
          · have := hS2 b (hSs b h).1
            exact ⟨this.2.1, by omega⟩
          · simp only [In, World.size_alloc, size_setRow, Za] at h
            omega
        rw [Zd q1.2, Zd q1.1]
      · intro b hS hb
        have q1 := hSw b hS
        rw [Zd (by omega), Zd (hS2 b q1.1).2.1]
        exact (M2.blk b (by (try simp only [In, World.size_alloc, size_setRow, Za] at *); omega) q1.2.1).trans (by first | assumption | rfl | (simp (maxSteps := 1000000) (disch := first | assumption | omega | (simp only [World.size_alloc, size_setRow, Za] <;> omega) | (simp only [List.length_set, Array.length_toList, List.length_cons, List.length_nil, List.length_append, Zn] <;> omega) | (simp only [List.all_cons, List.all_nil, Value.oneCell', Bool.and_self, Bool.and_true]; done)) [-Option.bind_some, Zb, Zc, Zd, Zh, Ze, Zi, Zt, Zk, Zr, Zs, Yg, Yf, Yh, hlt, hg, hg2, E1.blk, M2.blk]; done))
      · intro b hb h1 h2
        have := hSw b h2
        simp only [In, World.size_alloc, size_setRow, Za] at h1
        rcases h1 with h | h
        · exact this.2.1 h
        · omega
      · intro b hb hS hne hn
        have q2 : ¬ Ss b := fun h => hn (hSs b h).1
        rw [Zd (by omega), Zd hne]
        exact (M2.blk b (by (try simp only [In, World.size_alloc, size_setRow, Za] at *); omega) q2).trans (by first | assumption | rfl | (simp (maxSteps := 1000000) (disch := first | assumption | omega | (simp only [World.size_alloc, size_setRow, Za] <;> omega) | (simp only [List.length_set, Array.length_toList, List.length_cons, List.length_nil, List.length_append, Zn] <;> omega) | (simp only [List.all_cons, List.all_nil, Value.oneCell', Bool.and_self, Bool.and_true]; done)) [-Option.bind_some, Zb, Zc, Zd, Zh, Ze, Zi, Zt, Zk, Zr, Zs, Yg, Yf, Yh, hlt, hg, hg2, E1.blk, M2.blk]; done))
      · intro b hb h
        simp only [In, World.size_alloc, size_setRow, Za] at h
        rcases h with (h | h) | h
        · exact .inl (hSs b h).1
        · exact .inr (by omega)
        · exact .inl (hSw b h).1
      · intro b h hb
        simp only [In, World.size_alloc, size_setRow, Za] at h hb ⊢
        rcases h with h | (h | h) | h
        · exact .inl h
        · exact .inl (hS2 b (hSs b h).1).1
        · exact .inr (by omega)
        · exact .inl (hS2 b (hSw b h).1).1
end Go.Proofs.YtjagkbamkohnoaaGreat.X
