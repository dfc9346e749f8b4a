/- A part of the proof: an evaluator of the model, its laws, and contracts of functions; no condition. -/
import Derived.Test.YtjagkbamkohnoaaGreatS17
set_option linter.unusedVariables false
set_option linter.unusedSimpArgs false
set_option maxRecDepth 100000
set_option maxHeartbeats 1000000
namespace Go.Proofs.YtjagkbamkohnoaaGreat.X
open Go Go.Ev Go.RowKit
theorem slices_Clip_Ver_m {a : Option Addr} {n c : Nat} {w : World} (h : n ≤ c) (hc : c ≤ 9223372036854775807) : Ret (EV P 46 #[.slice a n c] w) fun r => r = (.slice a n n, w) := by
  refine Ret.post fun Q hQ => ?_
  refine Ret.enter plain Yo (slices_Clip_Ver_fn _ _) (by kernel_rfl) (n := 1) (by kernel_rfl) rfl ?_
  simp (maxSteps := 1000000) (disch := first | assumption | omega | (simp only [World.size_alloc, size_setRow, Za] <;> omega) | (simp only [List.length_set, Array.length_toList, List.length_cons, List.length_nil, List.length_append, Zn] <;> omega) | (simp only [List.all_cons, List.all_nil, Value.oneCell', Bool.and_self, Bool.and_true]; done)) [-Option.bind_some, Zb, Zc, Zd, Zh, Ze, Zi, Zt, Zk, Zr, Zs, Yg, Yf, Yh, -Zl, -Zm, Ye, Ya, Yd, Zx, Zz, Zw, Zq, Zj, Zf, Zg, Zy, Yb, Yc, Zv, Zp, Zo, Zu, sl_hm (P := P) el_32]
  exact hQ _ rfl
theorem impl_Chain_apply_n {a : Option Addr} {c i g1 : Nat} {S S1 : Nat → Prop} {ns : List CNode} {cs : List Value} {v : Ver} {x : CNode} {w : World} (ho : O Yr S w [.slice a ns.length c] ns) (X : hp w g1 = some (.cells #[.slice a ns.length c] 25 (0, 0))) (hg1 : ¬ S g1) (hv : D tVer S1 w cs v) (hd : ∀ b, b < w.heap.size → S1 b → ¬ S b)
    (hx : ns[i]? = some x) (h0 : 0 ≤ v.key) (h1 : v.key.toNat < x.store.length) (h6 : x.wait.length ≤ 1000000) (h4 : ns.length ≤ 1000000) :
    Ret (EV P 48 #[pt g1 0, i64 i, .agg cs.toArray] w) fun r => r.1 = .tuple #[] ∧ hp r.2 g1 = some (.cells #[.slice a ns.length c] 25 (0, 0)) ∧ O Yr (fun b => S b ∨ In w.heap.size r.2.heap.size b) r.2 [.slice a ns.length c] (addAt ns i v) ∧ Mod S w r.2 := by
  have hm := ho.n
  have ho' := ho
  have y1 := Yq X
  obtain ⟨av, cv, rfl, hv1, hv2⟩ := D.ver.1 hv
  obtain ⟨u, hu, _⟩ := Yk h1
  have hlt : i < ns.length := (List.getElem?_eq_some_iff.1 hx).1
  obtain ⟨g, cur, ds, S2, rfl, hSg, hgl, hg, hle, hx1, hS2, put⟩ := ho.row (by decide) hx
  obtain ⟨a2, c2, a3, c3, Ss, Sw, rfl, o2, o3, hSs, hSw⟩ := O.node_un hx1
  simp only [Yn] at hg hle put
  have o2' := o2
  obtain ⟨g2, cur2, ds2, S3, rfl, hSg2, hgl2, hg2, hle2, hx2, hS3, put2⟩ := o2.row (by decide) hu
  obtain ⟨au, cu, rfl, hu1, hu2⟩ := O.ver.1 hx2
  simp only [LVer_n] at hg2 hle2 put2
  have hk : v.key < x.store.length := by omega
  have hne : g2 ≠ g := (hS2 g2 (hSs g2 hSg2).1).2.1
  have hn1 : g1 ≠ g := fun h => hg1 (h ▸ hSg)
  have hn2 : g1 ≠ g2 := fun h => hg1 (h ▸ (hS2 g2 (hSs g2 hSg2).1).1)
  have nS : ∀ b, w.heap.size ≤ b → ¬ Ss b := fun b hb h => by have := (hSs b h).2.2; omega
  have nW : ∀ b, w.heap.size ≤ b → ¬ Sw b := fun b hb h => by have := (hSw b h).2.2; omega
  refine Ret.post fun Q hQ => ?_
  refine Ret.enter plain Yo (impl_Chain_apply_fn _ _ _ _) (by kernel_rfl) (n := 3) (by kernel_rfl) rfl ?_
  simp (maxSteps := 1000000) (disch := first | assumption | omega | (simp only [World.size_alloc, size_setRow, Za] <;> omega) | (simp only [List.length_set, Array.length_toList, List.length_cons, List.length_nil, List.length_append, Zn] <;> omega) | (simp only [List.all_cons, List.all_nil, Value.oneCell', Bool.and_self, Bool.and_true]; done)) [-Option.bind_some, Zb, Zc, Zd, Zh, Ze, Zi, Zt, Zk, Zr, Zs, Yg, Yf, Yh, -Zl, -Zm, Ye, Ya, Yd, Zx, Zz, Zw, Zq, Zj, Zf, Zg, Zy, Yb, Yc, Zv, Zp, Zo, Zu, nk_ptr, X, ia_23, hg, hlt, hlt, hg, hg2]
  refine Ret.bind (impl_Store_later_n (o2'.d.ext (by (repeat (first | exact Ext.rfl | assumption | (refine Ext.al ?_ _) | (refine Ext.dw ?_) | (refine Ext.set ?_ (by first | omega | (simp only [World.size_alloc, size_setRow, Za]; omega)) _) | (refine Ext.tr ?_ (by assumption)))))) (hv.ext (by (repeat (first | exact Ext.rfl | assumption | (refine Ext.al ?_ _) | (refine Ext.dw ?_) | (refine Ext.set ?_ (by first | omega | (simp only [World.size_alloc, size_setRow, Za]; omega)) _) | (refine Ext.tr ?_ (by assumption)))))) h0 hu) ?_
  rintro ⟨_, w1⟩ ⟨rfl, E1⟩
  try dsimp only at E1
  have zE1 := E1.size
  try simp only [World.size_alloc, size_setRow, Za] at zE1
  cases hl : tagLess u.tag v.tag
  · have e : addAt ns i v = ns := by rw [addAt, hx]; simp [hu, hl]
    rw [e] at hQ
    simp (maxSteps := 1000000) (disch := first | assumption | omega | (simp only [World.size_alloc, size_setRow, Za] <;> omega) | (simp only [List.length_set, Array.length_toList, List.length_cons, List.length_nil, List.length_append, Zn] <;> omega) | (simp only [List.all_cons, List.all_nil, Value.oneCell', Bool.and_self, Bool.and_true]; done)) [-Option.bind_some, Zb, Zc, Zd, Zh, Ze, Zi, Zt, Zk, Zr, Zs, Yg, Yf, Yh, -Zl, -Zm, Ye, Ya, Yd, Zx, Zz, Zw, Zq, Zj, Zf, Zg, Zy, Yb, Yc, Zv, Zp, Zo, Zu, hlt, hg, hg2, E1.blk]
    exact hQ _ ⟨rfl, (by first | assumption | rfl | (simp (maxSteps := 1000000) (disch := first | assumption | omega | (simp only [World.size_alloc, size_setRow, Za] <;> omega) | (simp only [List.length_set, Array.length_toList, List.length_cons, List.length_nil, List.length_append, Zn] <;> omega) | (simp only [List.all_cons, List.all_nil, Value.oneCell', Bool.and_self, Bool.and_true]; done)) [-Option.bind_some, Zb, Zc, Zd, Zh, Ze, Zi, Zt, Zk, Zr, Zs, Yg, Yf, Yh, -Zl, -Zm, Ye, Ya, Yd, Zx, Zz, Zw, Zq, Zj, Zf, Zg, Zy, Yb, Yc, Zv, Zp, Zo, Zu, X, hlt, hg, hg2, E1.blk]; done)), (ho'.keep (by intro b hS hb; (try dsimp only at hS); (try simp only [In, World.size_alloc, size_setRow, Za] at hS hb); first | rfl | (simp (disch := first | assumption | omega | (simp only [World.size_alloc, size_setRow, Za]; omega) | (simp only [World.size_alloc, size_setRow, Za, In]; omega)) only [E1.blk, Zb, Zd, Ym]; done))).wide (fun b h _ => .inl h), by (repeat (first | exact Mod.rfl | assumption | (refine Mod.al ?_ _) | (refine Mod.dw' ?_) | (refine Mod.set' ?_ (by first | (left; omega) | (left; simp only [World.size_alloc, size_setRow, Za]; omega) | (right; assumption) | (right; simp; done)) _) | (refine Mod.ex ?_ (by assumption))))⟩
  · have e : addAt ns i v = ns.set i (addNode x v (decide (ns.length ≤ i + 1))) := by rw [addAt, hx]; simp [hu, hl]
    rw [e] at hQ
    simp (maxSteps := 1000000) (disch := first | assumption | omega | (simp only [World.size_alloc, size_setRow, Za] <;> omega) | (simp only [List.length_set, Array.length_toList, List.length_cons, List.length_nil, List.length_append, Zn] <;> omega) | (simp only [List.all_cons, List.all_nil, Value.oneCell', Bool.and_self, Bool.and_true]; done)) [-Option.bind_some, Zb, Zc, Zd, Zh, Ze, Zi, Zt, Zk, Zr, Zs, Yg, Yf, Yh, -Zl, -Zm, Ye, Ya, Yd, Zx, Zz, Zw, Zq, Zj, Zf, Zg, Zy, Yb, Yc, Zv, Zp, Zo, Zu, nk_ptr, X, ia_23, hg, hlt, hlt, hg, hg2, E1.blk]
    refine Ret.bind (impl_Ver_copied_n (hv.ext (by (repeat (first | exact Ext.rfl | assumption | (refine Ext.al ?_ _) | (refine Ext.dw ?_) | (refine Ext.set ?_ (by first | omega | (simp only [World.size_alloc, size_setRow, Za]; omega)) _) | (refine Ext.tr ?_ (by assumption))))))) ?_
    rintro ⟨_, w2⟩ ⟨es, rfl, o4, E2⟩
    try dsimp only at es o4 E2
    have zE2 := E2.size
    try simp only [World.size_alloc, size_setRow, Za] at zE2
    have zds := O.ver.1 o4
    obtain ⟨ae, ce, rfl, _, _⟩ := zds
    simp (maxSteps := 1000000) (disch := first | assumption | omega | (simp only [World.size_alloc, size_setRow, Za] <;> omega) | (simp only [List.length_set, Array.length_toList, List.length_cons, List.length_nil, List.length_append, Zn] <;> omega) | (simp only [List.all_cons, List.all_nil, Value.oneCell', Bool.and_self, Bool.and_true]; done)) [-Option.bind_some, Zb, Zc, Zd, Zh, Ze, Zi, Zt, Zk, Zr, Zs, Yg, Yf, Yh, -Zl, -Zm, Ye, Ya, Yd, Zx, Zz, Zw, Zq, Zj, Zf, Zg, Zy, Yb, Yc, Zv, Zp, Zo, Zu, nk_ptr, X, ia_23, ia_32, hg, hg2, hlt, hk, hlt, hg, hg2, E1.blk, E2.blk]
    obtain ⟨W2, hW2⟩ : ∃ W2 : World, W2 = w2.setRow g2 (rowv cur2 (v.key.toNat * 6) [i64 v.key, i64 v.tag.t, i64 v.tag.p, .slice ae v.past.length ce, .string v.text, .bool v.gone]).toArray := ⟨_, rfl⟩
    rw [← hW2]
    have F2 : Ext w w2 := by (repeat (first | exact Ext.rfl | assumption | (refine Ext.al ?_ _) | (refine Ext.dw ?_) | (refine Ext.set ?_ (by first | omega | (simp only [World.size_alloc, size_setRow, Za]; omega)) _) | (refine Ext.tr ?_ (by assumption))))
    have zF2 := F2.size
    have sW : W2.heap.size = w2.heap.size := by rw [hW2, size_setRow]
    have kW : ∀ b, b ≠ g2 → hp W2 b = hp w2 b := fun b q => by rw [hW2, Zd q]
    have gW : hp W2 g2 = some (.cells (rowv cur2 (v.key.toNat * 6) [i64 v.key, i64 v.tag.t, i64 v.tag.p, .slice ae v.past.length ce, .string v.text, .bool v.gone]).toArray 45 (0, 0)) := by
      rw [hW2]
      exact (by first | assumption | rfl | (simp (maxSteps := 1000000) (disch := first | assumption | omega | (simp only [World.size_alloc, size_setRow, Za] <;> omega) | (simp only [List.length_set, Array.length_toList, List.length_cons, List.length_nil, List.length_append, Zn] <;> omega) | (simp only [List.all_cons, List.all_nil, Value.oneCell', Bool.and_self, Bool.and_true]; done)) [-Option.bind_some, Zb, Zc, Zd, Zh, Ze, Zi, Zt, Zk, Zr, Zs, Yg, Yf, Yh, -Zl, -Zm, Ye, Ya, Yd, Zx, Zz, Zw, Zq, Zj, Zf, Zg, Zy, Yb, Yc, Zv, Zp, Zo, Zu, hg2, hlt, hg, hg2, E1.blk, E2.blk]; done))
    have MA : Mod S w W2 := by
      rw [hW2]
      exact (Mod.of F2 S).set' (.inr (hS2 g2 (hSs g2 hSg2).1).1) _
    have g2w : g2 < w.heap.size := hgl2
    have o5 := put2 W2 _ v (In (w.heap.size + 1) W2.heap.size) ((o4.keep (w' := W2) (fun b hS hb => kW b (by simp only [In, World.size_alloc, Za] at hS; omega))).wide (fun b h _ => by simp only [In, World.size_alloc, Za] at *; omega)) gW
      (fun b hb _ hne _ => (kW b hne).trans (F2.blk hb)) (fun b _ h => .inr fun k => by simp only [In] at h; omega)
    have hkw : ∀ b, b < w.heap.size → b ≠ g2 → hp W2 b = hp w b := fun b q1 q2 => (kW b q2).trans (F2.blk q1)
    have XW : hp W2 g1 = some (.cells #[.slice (some ⟨g, 0, none⟩) ns.length c] 25 (0, 0)) := (hkw g1 y1 hn2).trans X
    have gW' : hp W2 g = some (.cells (rowv cur (i * 2) [.slice (some ⟨g2, 0, none⟩) x.store.length c2, .slice a3 x.wait.length c3]).toArray 36 (0, 0)) := (hkw g hgl (Ne.symm hne)).trans hg
    have bW : hp W2 w.heap.size = some (.cells #[i64 v.key, i64 v.tag.t, i64 v.tag.p, .slice av v.past.length cv, .string v.text, .bool v.gone] 45 (0, 0)) := by
      refine (kW _ (by omega)).trans ?_
      exact (by first | assumption | rfl | (simp (maxSteps := 1000000) (disch := first | assumption | omega | (simp only [World.size_alloc, size_setRow, Za] <;> omega) | (simp only [List.length_set, Array.length_toList, List.length_cons, List.length_nil, List.length_append, Zn] <;> omega) | (simp only [List.all_cons, List.all_nil, Value.oneCell', Bool.and_self, Bool.and_true]; done)) [-Option.bind_some, Zb, Zc, Zd, Zh, Ze, Zi, Zt, Zk, Zr, Zs, Yg, Yf, Yh, -Zl, -Zm, Ye, Ya, Yd, Zx, Zz, Zw, Zq, Zj, Zf, Zg, Zy, Yb, Yc, Zv, Zp, Zo, Zu, hlt, hg, hg2, E1.blk, E2.blk]; done))
    have hvW : D tVer S1 W2 [i64 v.key, i64 v.tag.t, i64 v.tag.p, .slice av v.past.length cv, .string v.text, .bool v.gone] v := hv.keep fun b hb hbl => hkw b hbl (fun h => hd b hbl hb (h ▸ (hS2 g2 (hSs g2 hSg2).1).1))
    have o3W : O tVers Sw W2 [.slice a3 x.wait.length c3] x.wait := o3.keep fun b hb hbl => hkw b hbl (fun h => (hSw b hb).2.1 (h ▸ hSg2))
    clear hW2
    refine Ret.bind (impl_Chain_last_m (by omega) (by omega)) ?_
    rintro ⟨_, w3⟩ ⟨rfl, E3⟩
    try dsimp only at E3
    have zE3 := E3.size
    try simp only [World.size_alloc, size_setRow, Za] at zE3
    by_cases hlast : i + 1 < ns.length
    · have hb : ((i : Int) == (ns.length : Int) - 1) = false := by rw [beq_eq_false_iff_ne]; omega
      have hns : decide (ns.length ≤ i + 1) = false := by simp only [decide_eq_false_iff_not]; omega
      rw [hns] at hQ
      simp (maxSteps := 1000000) (disch := first | assumption | omega | (simp only [World.size_alloc, size_setRow, Za] <;> omega) | (simp only [List.length_set, Array.length_toList, List.length_cons, List.length_nil, List.length_append, Zn] <;> omega) | (simp only [List.all_cons, List.all_nil, Value.oneCell', Bool.and_self, Bool.and_true]; done)) [-Option.bind_some, Zb, Zc, Zd, Zh, Ze, Zi, Zt, Zk, Zr, Zs, Yg, Yf, Yh, -Zl, -Zm, Ye, Ya, Yd, Zx, Zz, Zw, Zq, Zj, Zf, Zg, Zy, Yb, Yc, Zv, Zp, Zo, Zu, nk_ptr, hb, XW, gW', bW, hlt, hg, hg2, E1.blk, E2.blk, E3.blk]
      refine Ret.bind (impl_Ver_copied_n (hvW.ext (by (repeat (first | exact Ext.rfl | assumption | (refine Ext.al ?_ _) | (refine Ext.dw ?_) | (refine Ext.set ?_ (by first | omega | (simp only [World.size_alloc, size_setRow, Za]; omega)) _) | (refine Ext.tr ?_ (by assumption))))))) ?_
      rintro ⟨_, w4⟩ ⟨fs, rfl, o6, E4⟩
      try dsimp only at fs o6 E4
      have zE4 := E4.size
      try simp only [World.size_alloc, size_setRow, Za] at zE4
      have zfs := O.ver.1 o6
      obtain ⟨af, cf, rfl, _, _⟩ := zfs
      simp (maxSteps := 1000000) (disch := first | assumption | omega | (simp only [World.size_alloc, size_setRow, Za] <;> omega) | (simp only [List.length_set, Array.length_toList, List.length_cons, List.length_nil, List.length_append, Zn] <;> omega) | (simp only [List.all_cons, List.all_nil, Value.oneCell', Bool.and_self, Bool.and_true]; done)) [-Option.bind_some, Zb, Zc, Zd, Zh, Ze, Zi, Zt, Zk, Zr, Zs, Yg, Yf, Yh, -Zl, -Zm, Ye, Ya, Yd, Zx, Zz, Zw, Zq, Zj, Zf, Zg, Zy, Yb, Yc, Zv, Zp, Zo, Zu, nk_ptr, XW, gW', bW, hlt, hg, hg2, E1.blk, E2.blk, E3.blk, E4.blk]
      have FW : Ext W2 w4 := by (repeat (first | exact Ext.rfl | assumption | (refine Ext.al ?_ _) | (refine Ext.dw ?_) | (refine Ext.set ?_ (by first | omega | (simp only [World.size_alloc, size_setRow, Za]; omega)) _) | (refine Ext.tr ?_ (by assumption))))
      have zFW := FW.size
      refine Ret.bind (O.app (L := tVer) (S := fun b => Sw b) (mx := 1954687338211) (xs := x.wait) (x := v) el_32 zz_45 rfl (by decide) (o3W.keep (by intro b hS hb; (try dsimp only at hS); (try simp only [In, World.size_alloc, size_setRow, Za] at hS hb); first | rfl | (simp (disch := first | assumption | omega | (simp only [World.size_alloc, size_setRow, Za]; omega) | (simp only [World.size_alloc, size_setRow, Za, In]; omega)) only [E1.blk, E2.blk, E3.blk, E4.blk, Zb, Zd, Ym]; done))) (o6.keep (by intro b hS hb; (try dsimp only at hS); (try simp only [In, World.size_alloc, size_setRow, Za] at hS hb); first | rfl | (simp (disch := first | assumption | omega | (simp only [World.size_alloc, size_setRow, Za]; omega) | (simp only [World.size_alloc, size_setRow, Za, In]; omega)) only [E1.blk, E2.blk, E3.blk, E4.blk, Zb, Zd, Ym]; done))) ?_ At.new (by omega) (by decide) (by decide)) ?_
      · intro b hb q1 q2
        have := (hSw b q1).2.2
        simp only [In, World.size_alloc, size_setRow, Za] at q2
        omega
      rintro ⟨_, w5⟩ ⟨a7, c7, rfl, o7, M5⟩
      have zM5 := M5.size
      try simp only [World.size_alloc, size_setRow, Za] at zM5
      try dsimp only at o7 M5
      have zM5 := M5.size
      simp only [World.size_alloc, size_setRow, Za] at zM5
      obtain ⟨k1, k2, o8⟩ := o7.clip
      refine Ret.bind (slices_Clip_Ver_m k1 k2) ?_
      rintro _ rfl
      have hk5 : ∀ b, b < W2.heap.size → ¬ Sw b → hp w5 b = hp W2 b := fun b q1 q2 => (M5.blk b (by (try simp only [In, World.size_alloc, size_setRow, Za] at *); omega) q2).trans ((Zb (by omega)).trans (FW.blk q1))
      have g5 : hp w5 g = some (.cells (rowv cur (i * 2) [.slice (some ⟨g2, 0, none⟩) x.store.length c2, .slice a3 x.wait.length c3]).toArray 36 (0, 0)) := (hk5 g (by omega) (fun h => (hS2 g (hSw g h).1).2.1 rfl)).trans gW'
      have X5 : hp w5 g1 = some (.cells #[.slice (some ⟨g, 0, none⟩) ns.length c] 25 (0, 0)) := (hk5 g1 (by omega) (fun h => hg1 (hS2 g1 (hSw g1 h).1).1)).trans XW
      simp (maxSteps := 1000000) (disch := first | assumption | omega | (simp only [World.size_alloc, size_setRow, Za] <;> omega) | (simp only [List.length_set, Array.length_toList, List.length_cons, List.length_nil, List.length_append, Zn] <;> omega) | (simp only [List.all_cons, List.all_nil, Value.oneCell', Bool.and_self, Bool.and_true]; done)) [-Option.bind_some, Zb, Zc, Zd, Zh, Ze, Zi, Zt, Zk, Zr, Zs, Yg, Yf, Yh, -Zl, -Zm, Ye, Ya, Yd, Zx, Zz, Zw, Zq, Zj, Zf, Zg, Zy, Yb, Yc, Zv, Zp, Zo, Zu, nk_ptr, g5, hlt, hg, hg2, E1.blk, E2.blk, E3.blk, E4.blk, M5.blk, X5]
      have MC : Mod S w w5 := Mod.after' ((MA.ex FW).al _) M5 (fun x _ h => (hS2 x (hSw x h).1).1)
      refine hQ _ ⟨rfl, (Zd hn1).trans X5, (put _ _ (addNode x v false) _ (O.node_mk (v := addNode x v false) (o5.keep ?_) (o8.keep ?_) ?_) (by first | assumption | rfl | (simp (maxSteps := 1000000) (disch := first | assumption | omega | (simp only [World.size_alloc, size_setRow, Za] <;> omega) | (simp only [List.length_set, Array.length_toList, List.length_cons, List.length_nil, List.length_append, Zn] <;> omega) | (simp only [List.all_cons, List.all_nil, Value.oneCell', Bool.and_self, Bool.and_true]; done)) [-Option.bind_some, Zb, Zc, Zd, Zh, Ze, Zi, Zt, Zk, Zr, Zs, Yg, Yf, Yh, -Zl, -Zm, Ye, Ya, Yd, Zx, Zz, Zw, Zq, Zj, Zf, Zg, Zy, Yb, Yc, Zv, Zp, Zo, Zu, g5, hlt, hg, hg2, E1.blk, E2.blk, E3.blk, E4.blk, M5.blk, X5]; done)) ?_ ?_).wide ?_, MC.set' (.inr hSg) _⟩
      · intro b hS hb
        have q1 : b ≠ g ∧ ¬ Sw b := by
          rcases hS with h | h
          · exact ⟨(hS2 b (hSs b h).1).2.1, (hSs b h).2.1⟩
          · simp only [In] at h
            exact ⟨by omega, nW b (by omega)⟩
        rw [Zd q1.1]
        exact hk5 b hb q1.2
      · intro b hS hb
        have q1 : b ≠ g := by
          rcases hS with h | h
          · exact (hS2 b (hSw b h).1).2.1
          · simp only [In, World.size_alloc, size_setRow, Za] at h
            omega
        rw [Zd q1]
      · intro b hb h1 h2
        simp only [In, World.size_alloc, size_setRow, Za] at h1 h2
        rcases h1 with h | h
        · have := hSs b h
          rcases h2 with k | k
          · exact this.2.1 k
          · omega
        · rcases h2 with k | k
          · exact nW b (by omega) k
          · omega
      · intro b hb hS hne' hn
        have q2 : ¬ Ss b := fun h => hn (hSs b h).1
        have q3 : ¬ Sw b := fun h => hn (hSw b h).1
        rw [Zd hne']
        exact (hk5 b (by omega) q3).trans (hkw b hb (fun h => q2 (h ▸ hSg2)))
      · intro b hb h
        simp only [In, World.size_alloc, size_setRow, Za] at h
        rcases h with (h | h) | (h | h)
        · exact .inl (hSs b h).1
        · exact .inr (by omega)
        · exact .inl (hSw b h).1
        · exact .inr (by omega)
      · intro b h hb
        simp only [In, World.size_alloc, size_setRow, Za] at h hb ⊢
        rcases h with h | (h | h) | (h | h)
        · exact .inl h
        · exact .inl (hS2 b (hSs b h).1).1
        · exact .inr (by omega)
        · exact .inl (hS2 b (hSw b h).1).1
        · exact .inr (by omega)
    · have hb : ((i : Int) == (ns.length : Int) - 1) = true := by rw [beq_iff_eq]; omega
      have hns : decide (ns.length ≤ i + 1) = true := by simp only [decide_eq_true_eq]; omega
      rw [hns] at hQ
      simp (maxSteps := 1000000) (disch := first | assumption | omega | (simp only [World.size_alloc, size_setRow, Za] <;> omega) | (simp only [List.length_set, Array.length_toList, List.length_cons, List.length_nil, List.length_append, Zn] <;> omega) | (simp only [List.all_cons, List.all_nil, Value.oneCell', Bool.and_self, Bool.and_true]; done)) [-Option.bind_some, Zb, Zc, Zd, Zh, Ze, Zi, Zt, Zk, Zr, Zs, Yg, Yf, Yh, -Zl, -Zm, Ye, Ya, Yd, Zx, Zz, Zw, Zq, Zj, Zf, Zg, Zy, Yb, Yc, Zv, Zp, Zo, Zu, nk_ptr, hb, XW, gW', bW, hlt, hg, hg2, E1.blk, E2.blk, E3.blk]
      have zE3 := E3.size
      refine hQ _ ⟨rfl, (E3.blk (by omega)).trans XW, (put w3 _ (addNode x v true) _ (O.node_mk (v := addNode x v true) (o5.keep (by intro b hS hb; (try dsimp only at hS); (try simp only [In, World.size_alloc, size_setRow, Za] at hS hb); first | rfl | (simp (disch := first | assumption | omega | (simp only [World.size_alloc, size_setRow, Za]; omega) | (simp only [World.size_alloc, size_setRow, Za, In]; omega)) only [E1.blk, E2.blk, E3.blk, Zb, Zd, Ym]; done))) (o3W.keep (by intro b hS hb; (try dsimp only at hS); (try simp only [In, World.size_alloc, size_setRow, Za] at hS hb); first | rfl | (simp (disch := first | assumption | omega | (simp only [World.size_alloc, size_setRow, Za]; omega) | (simp only [World.size_alloc, size_setRow, Za, In]; omega)) only [E1.blk, E2.blk, E3.blk, Zb, Zd, Ym]; done))) ?_) ((E3.blk (by omega)).trans gW') ?_ ?_).wide ?_, MA.ex E3⟩
      · intro b hb h1 h2
        simp only [In] at h1
        rcases h1 with h | h
        · exact (hSs b h).2.1 h2
        · exact nW b (by omega) h2
      · intro b hb hS hne' hn
        have q2 : ¬ Ss b := fun h => hn (hSs b h).1
        exact (E3.blk (by omega)).trans (hkw b hb (fun h => q2 (h ▸ hSg2)))
      · intro b hb h
        simp only [In] at h
        rcases h with (h | h) | h
        · exact .inl (hSs b h).1
        · exact .inr (by omega)
        · exact .inl (hSw b h).1
      · intro b h hb
        simp only [In] at h hb ⊢
        rcases h with h | (h | h) | h
        · exact .inl h
        · exact .inl (hS2 b (hSs b h).1).1
        · exact .inr (by omega)
        · exact .inl (hS2 b (hSw b h).1).1
end Go.Proofs.YtjagkbamkohnoaaGreat.X
set_option linter.unusedVariables false
set_option linter.unusedSimpArgs false
set_option maxRecDepth 100000
set_option maxHeartbeats 1000000
namespace Go.Proofs.YtjagkbamkohnoaaGreat.X
open Go Go.Ev Go.RowKit
theorem chainOk_head {ns : List CNode} (h : chainOk ns = true) : ∃ n, ns[0]? = some n ∧ nodeOk n = true ∧ 0 < ns.length ∧ ns.length ≤ 4 := by
  simp only [chainOk, lenOk, Bool.and_eq_true, decide_eq_true_eq, List.all_eq_true] at h
  obtain ⟨n, hn, _⟩ := Yk (l := ns) (k := 0) (by omega)
  exact ⟨n, hn, h.1.2 n (List.mem_of_getElem? hn), by omega, by omega⟩
theorem addAt_length (ns : List CNode) (i : Nat) (v : Ver) : (addAt ns i v).length = ns.length := by
  unfold addAt
  split
  · split
    · split
      · rw [List.length_set]
      · rfl
    · rfl
  · rfl
theorem impl_Chain_full_m {a : Option Addr} {c g1 i : Nat} {S : Nat → Prop} {ns : List CNode} {x : CNode} {w : World} (hx : ns[i]? = some x) (ha : D Yr S w [.slice a ns.length c] ns) (X : hp w g1 = some (.cells #[.slice a ns.length c] 25 (0, 0))) :
    Ret (EV P 45 #[pt g1 0, i64 i] w) fun r => r.1 = .bool (decide (6 ≤ x.wait.length)) ∧ Ext w r.2 := by
  have hm := ha.n
  have hlt : i < ns.length := (List.getElem?_eq_some_iff.1 hx).1
  have y1 := Yq X
  obtain ⟨b1, o1, cs1, rfl, A1, D1, _, l1⟩ := ha.at (by decide) hx
  obtain ⟨a2, c2, a3, c3, rfl, h2, h3⟩ := D.node.1 D1
  have p0 := A1 0 _ rfl
  have p1 := A1 1 _ rfl
  simp only [LVer_n, LTag_n, Yn, Nat.add_zero] at p0 p1
  refine Ret.post fun Q hQ => ?_
  refine Ret.enter plain Yo (impl_Chain_full_fn _ _ _) (by kernel_rfl) (n := 2) (by kernel_rfl) rfl ?_
  cases h6 : decide (6 ≤ x.wait.length)
  · rw [h6] at hQ
    simp only [decide_eq_false_iff_not] at h6
    simp (maxSteps := 1000000) (disch := first | assumption | omega | (simp only [World.size_alloc, size_setRow, Za] <;> omega) | (simp only [List.length_set, Array.length_toList, List.length_cons, List.length_nil, List.length_append, Zn] <;> omega) | (simp only [List.all_cons, List.all_nil, Value.oneCell', Bool.and_self, Bool.and_true]; done)) [-Option.bind_some, Zb, Zc, Zd, Zh, Ze, Zi, Zt, Zk, Zr, Zs, Yg, Yf, Yh, -Zl, -Zm, Ye, Ya, Yd, Zx, Zz, Zw, Zq, Zj, Zf, Zg, Zy, Yb, Yc, Zv, Zp, Zo, Zu, nk_ptr, X, ia_23, hlt, show ¬ (6 : Int) ≤ x.wait.length by omega, hlt, p0, p1]
    exact hQ _ ⟨rfl, by (repeat (first | exact Ext.rfl | assumption | (refine Ext.al ?_ _) | (refine Ext.dw ?_) | (refine Ext.set ?_ (by first | omega | (simp only [World.size_alloc, size_setRow, Za]; omega)) _) | (refine Ext.tr ?_ (by assumption))))⟩
  · rw [h6] at hQ
    simp only [decide_eq_true_eq] at h6
    simp (maxSteps := 1000000) (disch := first | assumption | omega | (simp only [World.size_alloc, size_setRow, Za] <;> omega) | (simp only [List.length_set, Array.length_toList, List.length_cons, List.length_nil, List.length_append, Zn] <;> omega) | (simp only [List.all_cons, List.all_nil, Value.oneCell', Bool.and_self, Bool.and_true]; done)) [-Option.bind_some, Zb, Zc, Zd, Zh, Ze, Zi, Zt, Zk, Zr, Zs, Yg, Yf, Yh, -Zl, -Zm, Ye, Ya, Yd, Zx, Zz, Zw, Zq, Zj, Zf, Zg, Zy, Yb, Yc, Zv, Zp, Zo, Zu, nk_ptr, X, ia_23, hlt, show (6 : Int) ≤ x.wait.length by omega, hlt, p0, p1]
    exact hQ _ ⟨rfl, by (repeat (first | exact Ext.rfl | assumption | (refine Ext.al ?_ _) | (refine Ext.dw ?_) | (refine Ext.set ?_ (by first | omega | (simp only [World.size_alloc, size_setRow, Za]; omega)) _) | (refine Ext.tr ?_ (by assumption))))⟩
end Go.Proofs.YtjagkbamkohnoaaGreat.X
set_option linter.unusedVariables false
set_option linter.unusedSimpArgs false
set_option maxRecDepth 100000
set_option maxHeartbeats 1000000
namespace Go.Proofs.YtjagkbamkohnoaaGreat.X
open Go Go.Ev Go.RowKit
def canPass (ns : List CNode) (i : Int) : Bool := (decide (0 ≤ i) && decide (i ≤ (ns.length : Int) - 2)) && (match ns[i.toNat]?, ns[i.toNat + 1]? with
  | some n, some m => decide (0 < n.wait.length) && decide (m.wait.length < 6)
  | _, _ => false)
theorem canPass_parts {ns : List CNode} {i : Int} (h : canPass ns i = true) : ∃ (k : Nat) (n m : CNode) (v : Ver) (l : List Ver), i = k ∧ k + 1 < ns.length ∧ ns[k]? = some n ∧ ns[k + 1]? = some m ∧ n.wait = v :: l ∧ m.wait.length < 6 := by
  simp only [canPass, Bool.and_eq_true, decide_eq_true_eq] at h
  obtain ⟨⟨h1, h2⟩, h3⟩ := h
  obtain ⟨k, rfl⟩ := Int.eq_ofNat_of_zero_le h1
  simp only [Int.toNat_natCast] at h3
  obtain ⟨n, hn, _⟩ := Yk (l := ns) (k := k) (by omega)
  obtain ⟨m, hm, _⟩ := Yk (l := ns) (k := k + 1) (by omega)
  rw [hn, hm] at h3
  simp only [Bool.and_eq_true, decide_eq_true_eq] at h3
  cases hw : n.wait with
  | nil => rw [hw] at h3; simp at h3
  | cons v l => exact ⟨k, n, m, v, l, rfl, by omega, hn, hm, hw, h3.2⟩
theorem spec_l3Can_m {a : Option Addr} {n c : Nat} {i : Int} {S : Nat → Prop} {ns : List CNode} (h4 : ns.length ≤ 1000000) {w : World} (ha : D Yr S w [.slice a n c] ns) :
    Ret (EV P 20 #[.agg #[.slice a n c], i64 i] w) fun r => r.1 = .bool (canPass ns i) ∧ Ext w r.2 := by
  obtain ⟨rfl, hm, _⟩ := ha.n
  have hw : IntKind.i64.wrap ((ns.length : Int) - 2) = (ns.length : Int) - 2 := w64 (by omega) (by omega)
  refine Ret.post fun Q hQ => ?_
  refine Ret.enter plain Yo (spec_l3Can_fn _ _ _) (by kernel_rfl) (n := 2) (by kernel_rfl) rfl ?_
  simp (maxSteps := 1000000) (disch := first | assumption | omega | (simp only [World.size_alloc, size_setRow, Za] <;> omega) | (simp only [List.length_set, Array.length_toList, List.length_cons, List.length_nil, List.length_append, Zn] <;> omega) | (simp only [List.all_cons, List.all_nil, Value.oneCell', Bool.and_self, Bool.and_true]; done)) [-Option.bind_some, Zb, Zc, Zd, Zh, Ze, Zi, Zt, Zk, Zr, Zs, Yg, Yf, Yh, -Zl, -Zm, Ye, Ya, Yd, Zx, Zz, Zw, Zq, Zj, Zf, Zg, Zy, Yb, Yc, Zv, Zp, Zo, Zu, hw]
  refine Ret.bind (spec_l1In_c _ _ _ _) ?_
  rintro _ rfl
  cases hi : (decide (0 ≤ i) && decide (i ≤ (ns.length : Int) - 2))
  · have h1 : canPass ns i = false := by simp only [canPass, hi, Bool.false_and]
    rw [h1] at hQ
    simp (maxSteps := 1000000) (disch := first | assumption | omega | (simp only [World.size_alloc, size_setRow, Za] <;> omega) | (simp only [List.length_set, Array.length_toList, List.length_cons, List.length_nil, List.length_append, Zn] <;> omega) | (simp only [List.all_cons, List.all_nil, Value.oneCell', Bool.and_self, Bool.and_true]; done)) [-Option.bind_some, Zb, Zc, Zd, Zh, Ze, Zi, Zt, Zk, Zr, Zs, Yg, Yf, Yh, -Zl, -Zm, Ye, Ya, Yd, Zx, Zz, Zw, Zq, Zj, Zf, Zg, Zy, Yb, Yc, Zv, Zp, Zo, Zu, hi]
    exact hQ _ ⟨rfl, by (repeat (first | exact Ext.rfl | assumption | (refine Ext.al ?_ _) | (refine Ext.dw ?_) | (refine Ext.set ?_ (by first | omega | (simp only [World.size_alloc, size_setRow, Za]; omega)) _) | (refine Ext.tr ?_ (by assumption))))⟩
  have hi' := hi
  simp only [Bool.and_eq_true, decide_eq_true_eq] at hi'
  obtain ⟨k, rfl⟩ := Int.eq_ofNat_of_zero_le hi'.1
  obtain ⟨x, hx, _⟩ := Yk (l := ns) (k := k) (by omega)
  obtain ⟨y, hy, _⟩ := Yk (l := ns) (k := k + 1) (by omega)
  have h1 : canPass ns k = (decide (0 < x.wait.length) && decide (y.wait.length < 6)) := by simp only [canPass, hi, Int.toNat_natCast, hx, hy, Bool.true_and]
  rw [h1] at hQ
  obtain ⟨b1, o1, cs1, ha1, A1, D1, _, l1⟩ := ha.at (by decide) hx
  obtain ⟨b2, o2, cs2, ha2, A2, D2, _, l2⟩ := ha.at (by decide) hy
  subst ha1
  cases ha2
  obtain ⟨a2, c2, a3, c3, rfl, h2, h3⟩ := D.node.1 D1
  obtain ⟨a4, c4, a5, c5, rfl, h4, h5⟩ := D.node.1 D2
  have p0 := A1 0 _ rfl
  have p1 := A1 1 _ rfl
  simp only [LVer_n, LTag_n, Yn, Nat.add_zero] at p0 p1
  have q0 := A2 0 _ rfl
  have q1 := A2 1 _ rfl
  simp only [LVer_n, LTag_n, Yn, Nat.add_zero] at q0 q1
  cases hz : decide (0 < x.wait.length)
  · rw [hz] at hQ
    simp only [decide_eq_false_iff_not] at hz
    simp (maxSteps := 1000000) (disch := first | assumption | omega | (simp only [World.size_alloc, size_setRow, Za] <;> omega) | (simp only [List.length_set, Array.length_toList, List.length_cons, List.length_nil, List.length_append, Zn] <;> omega) | (simp only [List.all_cons, List.all_nil, Value.oneCell', Bool.and_self, Bool.and_true]; done)) [-Option.bind_some, Zb, Zc, Zd, Zh, Ze, Zi, Zt, Zk, Zr, Zs, Yg, Yf, Yh, -Zl, -Zm, Ye, Ya, Yd, Zx, Zz, Zw, Zq, Zj, Zf, Zg, Zy, Yb, Yc, Zv, Zp, Zo, Zu, hi, ia_23, show k < ns.length by omega, hz, p0, p1, q0, q1]
    exact hQ _ ⟨rfl, by (repeat (first | exact Ext.rfl | assumption | (refine Ext.al ?_ _) | (refine Ext.dw ?_) | (refine Ext.set ?_ (by first | omega | (simp only [World.size_alloc, size_setRow, Za]; omega)) _) | (refine Ext.tr ?_ (by assumption))))⟩
  · rw [hz] at hQ
    simp only [decide_eq_true_eq] at hz
    simp (maxSteps := 1000000) (disch := first | assumption | omega | (simp only [World.size_alloc, size_setRow, Za] <;> omega) | (simp only [List.length_set, Array.length_toList, List.length_cons, List.length_nil, List.length_append, Zn] <;> omega) | (simp only [List.all_cons, List.all_nil, Value.oneCell', Bool.and_self, Bool.and_true]; done)) [-Option.bind_some, Zb, Zc, Zd, Zh, Ze, Zi, Zt, Zk, Zr, Zs, Yg, Yf, Yh, -Zl, -Zm, Ye, Ya, Yd, Zx, Zz, Zw, Zq, Zj, Zf, Zg, Zy, Yb, Yc, Zv, Zp, Zo, Zu, hi, ia_23, show k < ns.length by omega, hz, show (k : Int) + 1 < ns.length by omega, show (0 : Int) ≤ (k : Int) + 1 by omega, show ((k : Int) + 1).toNat = k + 1 by omega, p0, p1, q0, q1]
    refine hQ _ ⟨?_, by (repeat (first | exact Ext.rfl | assumption | (refine Ext.al ?_ _) | (refine Ext.dw ?_) | (refine Ext.set ?_ (by first | omega | (simp only [World.size_alloc, size_setRow, Za]; omega)) _) | (refine Ext.tr ?_ (by assumption))))⟩
    show Value.bool _ = Value.bool _
    congr 1
    rw [Bool.eq_iff_iff]
    simp
    omega
end Go.Proofs.YtjagkbamkohnoaaGreat.X
