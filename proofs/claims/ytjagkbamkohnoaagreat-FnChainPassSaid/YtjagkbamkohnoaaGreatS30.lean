/- A part of the proof: an evaluator of the model, its laws, and contracts of functions; no condition. -/
import Derived.Test.YtjagkbamkohnoaaGreatEvU
import Derived.Test.YtjagkbamkohnoaaGreatS27
set_option linter.unusedVariables false
set_option linter.unusedSimpArgs false
set_option maxRecDepth 100000
set_option maxHeartbeats 1000000
namespace Go.Proofs.YtjagkbamkohnoaaGreat.X
open Go Go.Ev Go.RowKit
theorem spec_l20Store_n1 {B g b2 b3 c W0 : Nat} {a : Option Addr} (h23 : b2 ≠ b3) (hg2 : g < b2) (hg3 : g < b3) (h0 : W0 ≤ b2) (h03 : W0 ≤ b3) (hW0 : g < W0) :
    ∀ (n : Nat) (e : Env) (w : World) (p : Nat) (st : List Ver) (S : Nat → Prop), n ≤ 6 → p + 50 * n ≤ 700000000000 → st.length = 4 → e 0 = pt g 0 → e 2 = pt b2 0 → e 3 = pt b3 0 → e 4 = i64 n →
      hp w b2 = some (.cells #[.slice none 0 0] 34 (0, 0)) →
      hp w b3 = some (.cells #[.slice a 4 c] 34 (0, 0)) → O tVers S w [.slice a 4 c] st → (∀ b, S b → W0 ≤ b ∧ b ≠ b2 ∧ b ≠ b3) → R w B g p →
      Ret (spec_l20Store_l1 e w) fun r => ∃ (st' : List Ver) (p' : Nat), r.1 = .agg #[.slice a 4 c] ∧ O tVers (fun b => W0 ≤ b) r.2 [.slice a 4 c] st' ∧ st'.length = 4 ∧ p' ≤ p + 50 * n ∧ R r.2 B g p' ∧ Mod (fun b => b = g ∨ W0 ≤ b) w r.2 := by
  intro n
  induction n with
  | zero =>
    intro e w p st S hn hp0 hst e0 e2 e3 e4 X2 X3 ho hS hr
    rw [spec_l20Store_l1_eq]
    have hl := hr.lt
    have y2 := Yq X2
    have y3 := Yq X3
    refine Ret.post fun Q hQ => ?_
    simp (maxSteps := 1000000) (disch := first | assumption | omega | (simp only [World.size_alloc, size_setRow, Za] <;> omega) | (simp only [List.length_set, Array.length_toList, List.length_cons, List.length_nil, List.length_append, Zn] <;> omega) | (simp only [List.all_cons, List.all_nil, Value.oneCell', Bool.and_self, Bool.and_true]; done)) [-Option.bind_some, Zb, Zc, Zd, Zh, Ze, Zi, Zt, Zk, Zr, Zs, Yg, Yf, Yh, -Zl, -Zm, Ye, Ya, Yd, Zx, Zz, Zw, Zq, Zj, Zf, Zg, Zy, Yb, Yc, Zv, Zp, Zo, Zu, e0, e2, e3, e4, X2, X3, e0, e2, e3, e4, X2, X3]
    refine hQ _ ⟨st, p, rfl, (ho.keep ?_).wide (fun b h _ => (hS b h).1), hst, by omega, hr.keep (fun b h hb => (Zd (by omega)).trans (Ym _ _)), (Mod.of (by (repeat (first | exact Ext.rfl | assumption | (refine Ext.al ?_ _) | (refine Ext.dw ?_) | (refine Ext.set ?_ (by first | omega | (simp only [World.size_alloc, size_setRow, Za]; omega)) _) | (refine Ext.tr ?_ (by assumption))))) _).set' (.inr (.inr h0)) _⟩
    intro b hb _
    exact (Zd (hS b hb).2.1).trans (Ym _ _)
  | succ n ih =>
    intro e w p st S hn hp0 hst e0 e2 e3 e4 X2 X3 ho hS hr
    rw [spec_l20Store_l1_eq]
    have hl := hr.lt
    have y2 := Yq X2
    have y3 := Yq X3
    refine Ret.post fun Q hQ => ?_
    simp (maxSteps := 1000000) (disch := first | assumption | omega | (simp only [World.size_alloc, size_setRow, Za] <;> omega) | (simp only [List.length_set, Array.length_toList, List.length_cons, List.length_nil, List.length_append, Zn] <;> omega) | (simp only [List.all_cons, List.all_nil, Value.oneCell', Bool.and_self, Bool.and_true]; done)) [-Option.bind_some, Zb, Zc, Zd, Zh, Ze, Zi, Zt, Zk, Zr, Zs, Yg, Yf, Yh, -Zl, -Zm, Ye, Ya, Yd, Zx, Zz, Zw, Zq, Zj, Zf, Zg, Zy, Yb, Yc, Zv, Zp, Zo, Zu, e0, e2, e3, e4, X2, X3, show (0 : Int) < ((n + 1 : Nat) : Int) by omega, e0, e2, e3, e4, X2, X3]
    refine Ret.bind (spec_l20Ver_m (by omega) (hr.ext (by (repeat (first | exact Ext.rfl | assumption | (refine Ext.al ?_ _) | (refine Ext.dw ?_) | (refine Ext.set ?_ (by first | omega | (simp only [World.size_alloc, size_setRow, Za]; omega)) _) | (refine Ext.tr ?_ (by assumption))))))) ?_
    rintro ⟨_, w1⟩ ⟨v, ds, p1, rfl, o1, k0, k3, hp4, hp1, R1, M1⟩
    have zM1 := M1.size
    try simp only [World.size_alloc, size_setRow, Za] at zM1
    try dsimp only at o1 R1 M1
    have zM1 := M1.size
    simp only [World.size_alloc, Za] at zM1
    have Y2 : hp w1 b2 = hp w b2 := (M1.blk b2 (by (try simp only [In, World.size_alloc, size_setRow, Za] at *); omega) (by omega)).trans (by first | assumption | rfl | (simp (maxSteps := 1000000) (disch := first | assumption | omega | (simp only [World.size_alloc, size_setRow, Za] <;> omega) | (simp only [List.length_set, Array.length_toList, List.length_cons, List.length_nil, List.length_append, Zn] <;> omega) | (simp only [List.all_cons, List.all_nil, Value.oneCell', Bool.and_self, Bool.and_true]; done)) [-Option.bind_some, Zb, Zc, Zd, Zh, Ze, Zi, Zt, Zk, Zr, Zs, Yg, Yf, Yh, e0, e2, e3, e4, X2, X3, M1.blk]; done))
    have Y3 : hp w1 b3 = hp w b3 := (M1.blk b3 (by (try simp only [In, World.size_alloc, size_setRow, Za] at *); omega) (by omega)).trans (by first | assumption | rfl | (simp (maxSteps := 1000000) (disch := first | assumption | omega | (simp only [World.size_alloc, size_setRow, Za] <;> omega) | (simp only [List.length_set, Array.length_toList, List.length_cons, List.length_nil, List.length_append, Zn] <;> omega) | (simp only [List.all_cons, List.all_nil, Value.oneCell', Bool.and_self, Bool.and_true]; done)) [-Option.bind_some, Zb, Zc, Zd, Zh, Ze, Zi, Zt, Zk, Zr, Zs, Yg, Yf, Yh, e0, e2, e3, e4, X2, X3, M1.blk]; done))
    have ho1 : O tVers (fun b => S b ∧ b < w.heap.size) w1 [.slice a 4 c] st := ho.lt.keep (fun b hb _ => by
      have q := hS b hb.1
      exact (M1.blk b (by (try simp only [In, World.size_alloc, size_setRow, Za] at *); omega) (by omega)).trans (by first | assumption | rfl | (simp (maxSteps := 1000000) (disch := first | assumption | omega | (simp only [World.size_alloc, size_setRow, Za] <;> omega) | (simp only [List.length_set, Array.length_toList, List.length_cons, List.length_nil, List.length_append, Zn] <;> omega) | (simp only [List.all_cons, List.all_nil, Value.oneCell', Bool.and_self, Bool.and_true]; done)) [-Option.bind_some, Zb, Zc, Zd, Zh, Ze, Zi, Zt, Zk, Zr, Zs, Yg, Yf, Yh, e0, e2, e3, e4, X2, X3, M1.blk]; done)))
    simp (maxSteps := 1000000) (disch := first | assumption | omega | (simp only [World.size_alloc, size_setRow, Za] <;> omega) | (simp only [List.length_set, Array.length_toList, List.length_cons, List.length_nil, List.length_append, Zn] <;> omega) | (simp only [List.all_cons, List.all_nil, Value.oneCell', Bool.and_self, Bool.and_true]; done)) [-Option.bind_some, Zb, Zc, Zd, Zh, Ze, Zi, Zt, Zk, Zr, Zs, Yg, Yf, Yh, -Zl, -Zm, Ye, Ya, Yd, Zx, Zz, Zw, Zq, Zj, Zf, Zg, Zy, Yb, Yc, Zv, Zp, Zo, Zu, e0, e2, e3, e4, Y2, Y3, X2, X3, e0, e2, e3, e4, X2, X3, M1.blk]
    refine Ret.bind (spec_l2Add_n ho1 o1.d k0 (by omega)) ?_
    rintro ⟨_, w2⟩ ⟨rfl, o2, M2⟩
    have zM2 := M2.size
    try simp only [World.size_alloc, size_setRow, Za] at zM2
    try dsimp only at o2 M2
    have zM2 := M2.size
    rw [hst] at o2
    rw [hst]
    have V2 : hp w2 b2 = hp w b2 := (M2.blk b2 (by (try simp only [In, World.size_alloc, size_setRow, Za] at *); omega) (fun h => (hS b2 h.1).2.1 rfl)).trans Y2
    have V3 : hp w2 b3 = hp w b3 := (M2.blk b3 (by (try simp only [In, World.size_alloc, size_setRow, Za] at *); omega) (fun h => (hS b3 h.1).2.2 rfl)).trans Y3
    simp (maxSteps := 1000000) (disch := first | assumption | omega | (simp only [World.size_alloc, size_setRow, Za] <;> omega) | (simp only [List.length_set, Array.length_toList, List.length_cons, List.length_nil, List.length_append, Zn] <;> omega) | (simp only [List.all_cons, List.all_nil, Value.oneCell', Bool.and_self, Bool.and_true]; done)) [-Option.bind_some, Zb, Zc, Zd, Zh, Ze, Zi, Zt, Zk, Zr, Zs, Yg, Yf, Yh, -Zl, -Zm, Ye, Ya, Yd, Zx, Zz, Zw, Zq, Zj, Zf, Zg, Zy, Yb, Yc, Zv, Zp, Zo, Zu, e0, e2, e3, e4, V2, V3, X2, X3, e0, e2, e3, e4, X2, X3, M1.blk, M2.blk]
    have en : ((n + 1 : Nat) : Int) - 1 = (n : Int) := by omega
    refine Ret.mono (ih _ (w2.setRow b3 #[.slice a 4 c]) p1 (storeAdd st v) (fun b => (S b ∧ b < w.heap.size) ∨ In w1.heap.size w2.heap.size b) (by omega) (by omega) (by rw [storeAdd_length]; exact hst) (by first | omega | assumption | rfl | exact congrArg i64 (by omega) | (simp; done) | (simp; omega)) (by first | omega | assumption | rfl | exact congrArg i64 (by omega) | (simp; done) | (simp; omega)) (by first | omega | assumption | rfl | exact congrArg i64 (by omega) | (simp; done) | (simp; omega)) (by first | rfl | (simp [en]; done) | exact congrArg i64 en) ((Zd (by omega)).trans (V2.trans X2)) ?_ (o2.keep (fun b hb _ => Zd (by rcases hb with h | h; exact (hS b h.1).2.2; simp only [In] at h; omega))) ?_ ?_) ?_
    · exact (by first | assumption | rfl | (simp (maxSteps := 1000000) (disch := first | assumption | omega | (simp only [World.size_alloc, size_setRow, Za] <;> omega) | (simp only [List.length_set, Array.length_toList, List.length_cons, List.length_nil, List.length_append, Zn] <;> omega) | (simp only [List.all_cons, List.all_nil, Value.oneCell', Bool.and_self, Bool.and_true]; done)) [-Option.bind_some, Zb, Zc, Zd, Zh, Ze, Zi, Zt, Zk, Zr, Zs, Yg, Yf, Yh, -Zl, -Zm, Ye, Ya, Yd, Zx, Zz, Zw, Zq, Zj, Zf, Zg, Zy, Yb, Yc, Zv, Zp, Zo, Zu, V3, X3, e0, e2, e3, e4, X2, X3, M1.blk, M2.blk]; done))
    · intro b hb
      rcases hb with h | h
      · exact hS b h.1
      · simp only [In] at h
        omega
    · refine R1.keep (fun b h hb => (Zd (by omega)).trans (M2.blk b hb (fun h' => by have := (hS b h'.1).1; omega)))
    · rintro r ⟨st', p', h1, h2, h3, h4, h5, h6⟩
      refine hQ _ ⟨st', p', h1, h2, h3, by omega, h5, ?_⟩
      refine Mod.tr ?_ h6
      exact ((((Mod.of (by (repeat (first | exact Ext.rfl | assumption | (refine Ext.al ?_ _) | (refine Ext.dw ?_) | (refine Ext.set ?_ (by first | omega | (simp only [World.size_alloc, size_setRow, Za]; omega)) _) | (refine Ext.tr ?_ (by assumption))))) (fun b => b = g ∨ W0 ≤ b)).tr (M1.weak (fun b _ h => .inl h))).tr (M2.weak (fun b _ h => .inr (hS b h.1).1))).set' (.inr (.inr h03)) _)
theorem spec_l20Store_m {B g p : Nat} (hp0 : p ≤ 600000000000) {w : World} (hr : R w B g p) :
    Ret (EV P 74 #[pt g 0] w) fun r => ∃ (st : List Ver) (a : Option Addr) (c p' : Nat), r.1 = .agg #[.slice a 4 c] ∧ O tVers (fun b => w.heap.size ≤ b) r.2 [.slice a 4 c] st ∧ st.length = 4 ∧ p' ≤ p + 310 ∧ R r.2 B g p' ∧ Mod (fun b => b = g) w r.2 := by
  have hl := hr.lt
  refine Ret.post fun Q hQ => ?_
  refine Ret.enter plain Yo (spec_l20Store_fn _ _) (by kernel_rfl) (n := 1) (by kernel_rfl) rfl ?_
  simp (maxSteps := 1000000) (disch := first | assumption | omega | (simp only [World.size_alloc, size_setRow, Za] <;> omega) | (simp only [List.length_set, Array.length_toList, List.length_cons, List.length_nil, List.length_append, Zn] <;> omega) | (simp only [List.all_cons, List.all_nil, Value.oneCell', Bool.and_self, Bool.and_true]; done)) [-Option.bind_some, Zb, Zc, Zd, Zh, Ze, Zi, Zt, Zk, Zr, Zs, Yg, Yf, Yh, -Zl, -Zm, Ye, Ya, Yd, Zx, Zz, Zw, Zq, Zj, Zf, Zg, Zy, Yb, Yc, Zv, Zp, Zo, Zu]
  refine Ret.bind (spec_l2New_n _) ?_
  rintro ⟨_, w1⟩ ⟨a1, c1, rfl, o1, E1⟩
  try dsimp only at a1 c1 o1 E1
  have zE1 := E1.size
  try simp only [World.size_alloc, size_setRow, Za] at zE1
  simp (maxSteps := 1000000) (disch := first | assumption | omega | (simp only [World.size_alloc, size_setRow, Za] <;> omega) | (simp only [List.length_set, Array.length_toList, List.length_cons, List.length_nil, List.length_append, Zn] <;> omega) | (simp only [List.all_cons, List.all_nil, Value.oneCell', Bool.and_self, Bool.and_true]; done)) [-Option.bind_some, Zb, Zc, Zd, Zh, Ze, Zi, Zt, Zk, Zr, Zs, Yg, Yf, Yh, -Zl, -Zm, Ye, Ya, Yd, Zx, Zz, Zw, Zq, Zj, Zf, Zg, Zy, Yb, Yc, Zv, Zp, Zo, Zu, E1.blk]
  have N1 : Mod (fun b => b = g) w ((w1.alloc (.cells #[.slice none 0 0] 34)).setRow w1.heap.size #[.slice a1 4 c1]) := Mod.of (by (repeat (first | exact Ext.rfl | assumption | (refine Ext.al ?_ _) | (refine Ext.dw ?_) | (refine Ext.set ?_ (by first | omega | (simp only [World.size_alloc, size_setRow, Za]; omega)) _) | (refine Ext.tr ?_ (by assumption))))) _
  have R0 : R ((w1.alloc (.cells #[.slice none 0 0] 34)).setRow w1.heap.size #[.slice a1 4 c1]) B g p := hr.ext (by (repeat (first | exact Ext.rfl | assumption | (refine Ext.al ?_ _) | (refine Ext.dw ?_) | (refine Ext.set ?_ (by first | omega | (simp only [World.size_alloc, size_setRow, Za]; omega)) _) | (refine Ext.tr ?_ (by assumption)))))
  have X2 : hp ((w1.alloc (.cells #[.slice none 0 0] 34)).setRow w1.heap.size #[.slice a1 4 c1]) w.heap.size = some (.cells #[.slice none 0 0] 34 (0, 0)) := (by first | assumption | rfl | (simp (maxSteps := 1000000) (disch := first | assumption | omega | (simp only [World.size_alloc, size_setRow, Za] <;> omega) | (simp only [List.length_set, Array.length_toList, List.length_cons, List.length_nil, List.length_append, Zn] <;> omega) | (simp only [List.all_cons, List.all_nil, Value.oneCell', Bool.and_self, Bool.and_true]; done)) [-Option.bind_some, Zb, Zc, Zd, Zh, Ze, Zi, Zt, Zk, Zr, Zs, Yg, Yf, Yh, -Zl, -Zm, Ye, Ya, Yd, Zx, Zz, Zw, Zq, Zj, Zf, Zg, Zy, Yb, Yc, Zv, Zp, Zo, Zu, E1.blk]; done))
  have X3 : hp ((w1.alloc (.cells #[.slice none 0 0] 34)).setRow w1.heap.size #[.slice a1 4 c1]) w1.heap.size = some (.cells #[.slice a1 4 c1] 34 (0, 0)) := (by first | assumption | rfl | (simp (maxSteps := 1000000) (disch := first | assumption | omega | (simp only [World.size_alloc, size_setRow, Za] <;> omega) | (simp only [List.length_set, Array.length_toList, List.length_cons, List.length_nil, List.length_append, Zn] <;> omega) | (simp only [List.all_cons, List.all_nil, Value.oneCell', Bool.and_self, Bool.and_true]; done)) [-Option.bind_some, Zb, Zc, Zd, Zh, Ze, Zi, Zt, Zk, Zr, Zs, Yg, Yf, Yh, -Zl, -Zm, Ye, Ya, Yd, Zx, Zz, Zw, Zq, Zj, Zf, Zg, Zy, Yb, Yc, Zv, Zp, Zo, Zu, E1.blk, X2]; done))
  have o2 := o1.keep (w' := (w1.alloc (.cells #[.slice none 0 0] 34)).setRow w1.heap.size #[.slice a1 4 c1]) (by intro b hS hb; (try dsimp only at hS); (try simp only [In, World.size_alloc, size_setRow, Za] at hS hb); first | rfl | (simp (disch := first | assumption | omega | (simp only [World.size_alloc, size_setRow, Za]; omega) | (simp only [World.size_alloc, size_setRow, Za, In]; omega)) only [E1.blk, Zb, Zd, Ym]; done))
  generalize hW : (w1.alloc (.cells #[.slice none 0 0] 34)).setRow w1.heap.size #[.slice a1 4 c1] = W at *
  have sW : W.heap.size = w1.heap.size + 1 := by rw [← hW, size_setRow, World.size_alloc]
  refine Ret.bind (Yl (k := 7) (by omega) (by omega) (by omega) R0) ?_
  rintro ⟨_, w2⟩ ⟨m, rfl, hm, R2, M2⟩
  have zM2 := M2.size
  try simp only [World.size_alloc, size_setRow, Za] at zM2
  try dsimp only at R2 M2
  have zM2 := M2.size
  simp (maxSteps := 1000000) (disch := first | assumption | omega | (simp only [World.size_alloc, size_setRow, Za] <;> omega) | (simp only [List.length_set, Array.length_toList, List.length_cons, List.length_nil, List.length_append, Zn] <;> omega) | (simp only [List.all_cons, List.all_nil, Value.oneCell', Bool.and_self, Bool.and_true]; done)) [-Option.bind_some, Zb, Zc, Zd, Zh, Ze, Zi, Zt, Zk, Zr, Zs, Yg, Yf, Yh, -Zl, -Zm, Ye, Ya, Yd, Zx, Zz, Zw, Zq, Zj, Zf, Zg, Zy, Yb, Yc, Zv, Zp, Zo, Zu, E1.blk, X2, X3, M2.blk]
  refine Ret.mono (spec_l20Store_n1 (B := B) (g := g) (b2 := w.heap.size) (b3 := w1.heap.size) (W0 := w.heap.size) (a := a1) (c := c1) (by omega) (by omega) (by omega) (by omega) (by omega) (by omega) m _ w2 (p + 1) _ _ (by omega) (by omega) (by rfl) (by first | omega | assumption | rfl | exact congrArg i64 (by omega) | (simp; done) | (simp; omega)) (by first | omega | assumption | rfl | exact congrArg i64 (by omega) | (simp; done) | (simp; omega)) (by first | omega | assumption | rfl | exact congrArg i64 (by omega) | (simp; done) | (simp; omega)) (by first | omega | assumption | rfl | exact congrArg i64 (by omega) | (simp; done) | (simp; omega)) ((M2.blk _ (by omega) (by omega)).trans X2) ((M2.blk _ (by omega) (by omega)).trans X3) (o2.keep (fun b hb hs => M2.blk b hs (by simp only [In, World.size_alloc] at hb; omega))) ?_ R2) ?_
  · intro b h
    simp only [In, World.size_alloc, size_setRow, Za] at *
    omega
  · rintro r ⟨st', p', h1, h2, h3, h6, h7, h8⟩
    refine hQ _ ⟨st', a1, c1, p', h1, h2, h3, by omega, h7, ?_⟩
    exact (((N1.tr M2).weak (fun b hb h => Or.inl h)).tr h8).weak (fun b hb h => h.resolve_right (by omega))
end Go.Proofs.YtjagkbamkohnoaaGreat.X
set_option linter.unusedVariables false
set_option linter.unusedSimpArgs false
set_option maxRecDepth 100000
set_option maxHeartbeats 1000000
namespace Go.Proofs.YtjagkbamkohnoaaGreat.X
open Go Go.Ev Go.RowKit
theorem spec_l20AnyStore_m {B g p : Nat} (hp0 : p ≤ 500000000000) {w : World} (hr : R w B g p) :
    Ret (EV P 41 #[pt g 0] w) fun r => ∃ (st : List Ver) (a : Option Addr) (c p' : Nat), r.1 = .agg #[.slice a st.length c] ∧ D tVers (fun b => w.heap.size ≤ b) r.2 [.slice a st.length c] st ∧ p' ≤ p + 500 ∧ R r.2 B g p' ∧ Mod (fun b => b = g) w r.2 := by
  have hl := hr.lt
  refine Ret.post fun Q hQ => ?_
  refine Ret.enter plain Yo (spec_l20AnyStore_fn _ _) (by kernel_rfl) (n := 1) (by kernel_rfl) rfl ?_
  simp (maxSteps := 1000000) (disch := first | assumption | omega | (simp only [World.size_alloc, size_setRow, Za] <;> omega) | (simp only [List.length_set, Array.length_toList, List.length_cons, List.length_nil, List.length_append, Zn] <;> omega) | (simp only [List.all_cons, List.all_nil, Value.oneCell', Bool.and_self, Bool.and_true]; done)) [-Option.bind_some, Zb, Zc, Zd, Zh, Ze, Zi, Zt, Zk, Zr, Zs, Yg, Yf, Yh, -Zl, -Zm, Ye, Ya, Yd, Zx, Zz, Zw, Zq, Zj, Zf, Zg, Zy, Yb, Yc, Zv, Zp, Zo, Zu]
  refine Ret.bind (spec_l20Store_m (by omega) (hr.ext (by (repeat (first | exact Ext.rfl | assumption | (refine Ext.al ?_ _) | (refine Ext.dw ?_) | (refine Ext.set ?_ (by first | omega | (simp only [World.size_alloc, size_setRow, Za]; omega)) _) | (refine Ext.tr ?_ (by assumption))))))) ?_
  rintro ⟨_, w1⟩ ⟨st, a, c, p1, rfl, o1, hst, hp1, R1, M1⟩
  have zM1 := M1.size
  try simp only [World.size_alloc, size_setRow, Za] at zM1
  try dsimp only at o1 R1 M1
  have zM1 := M1.size
  simp only [World.size_alloc, Za] at zM1 o1
  have X1 : hp w1 w.heap.size = some (.cells #[.slice none 0 0] 34 (0, 0)) := (M1.blk w.heap.size (by (try simp only [In, World.size_alloc, size_setRow, Za] at *); omega) (by omega)).trans (by first | assumption | rfl | (simp (maxSteps := 1000000) (disch := first | assumption | omega | (simp only [World.size_alloc, size_setRow, Za] <;> omega) | (simp only [List.length_set, Array.length_toList, List.length_cons, List.length_nil, List.length_append, Zn] <;> omega) | (simp only [List.all_cons, List.all_nil, Value.oneCell', Bool.and_self, Bool.and_true]; done)) [-Option.bind_some, Zb, Zc, Zd, Zh, Ze, Zi, Zt, Zk, Zr, Zs, Yg, Yf, Yh, -Zl, -Zm, Ye, Ya, Yd, Zx, Zz, Zw, Zq, Zj, Zf, Zg, Zy, Yb, Yc, Zv, Zp, Zo, Zu, M1.blk]; done))
  have N1 : Mod (fun b => b = g) w w1 := (Mod.of (by (repeat (first | exact Ext.rfl | assumption | (refine Ext.al ?_ _) | (refine Ext.dw ?_) | (refine Ext.set ?_ (by first | omega | (simp only [World.size_alloc, size_setRow, Za]; omega)) _) | (refine Ext.tr ?_ (by assumption))))) _).tr M1
  simp (maxSteps := 1000000) (disch := first | assumption | omega | (simp only [World.size_alloc, size_setRow, Za] <;> omega) | (simp only [List.length_set, Array.length_toList, List.length_cons, List.length_nil, List.length_append, Zn] <;> omega) | (simp only [List.all_cons, List.all_nil, Value.oneCell', Bool.and_self, Bool.and_true]; done)) [-Option.bind_some, Zb, Zc, Zd, Zh, Ze, Zi, Zt, Zk, Zr, Zs, Yg, Yf, Yh, -Zl, -Zm, Ye, Ya, Yd, Zx, Zz, Zw, Zq, Zj, Zf, Zg, Zy, Yb, Yc, Zv, Zp, Zo, Zu, M1.blk, X1]
  have o1b : O tVers (fun b => w.heap.size < b ∧ b < w1.heap.size) w1 [.slice a 4 c] st := o1.wide (fun b h q => ⟨h, q⟩)
  have N2 : Mod (fun b => b = g) w ((w1.alloc (.cells #[.slice none 0 0] 34)).setRow w1.heap.size #[.slice a 4 c]) := (N1.al _).set' (.inl (by omega)) _
  have R2 : R ((w1.alloc (.cells #[.slice none 0 0] 34)).setRow w1.heap.size #[.slice a 4 c]) B g p1 := R1.ext (by (repeat (first | exact Ext.rfl | assumption | (refine Ext.al ?_ _) | (refine Ext.dw ?_) | (refine Ext.set ?_ (by first | omega | (simp only [World.size_alloc, size_setRow, Za]; omega)) _) | (refine Ext.tr ?_ (by assumption)))))
  have X2 : hp ((w1.alloc (.cells #[.slice none 0 0] 34)).setRow w1.heap.size #[.slice a 4 c]) w.heap.size = some (.cells #[.slice none 0 0] 34 (0, 0)) := (Zd (by omega)).trans ((Zb (by omega)).trans X1)
  have X3 : hp ((w1.alloc (.cells #[.slice none 0 0] 34)).setRow w1.heap.size #[.slice a 4 c]) w1.heap.size = some (.cells #[.slice a 4 c] 34 (0, 0)) := (by first | assumption | rfl | (simp (maxSteps := 1000000) (disch := first | assumption | omega | (simp only [World.size_alloc, size_setRow, Za] <;> omega) | (simp only [List.length_set, Array.length_toList, List.length_cons, List.length_nil, List.length_append, Zn] <;> omega) | (simp only [List.all_cons, List.all_nil, Value.oneCell', Bool.and_self, Bool.and_true]; done)) [-Option.bind_some, Zb, Zc, Zd, Zh, Ze, Zi, Zt, Zk, Zr, Zs, Yg, Yf, Yh, -Zl, -Zm, Ye, Ya, Yd, Zx, Zz, Zw, Zq, Zj, Zf, Zg, Zy, Yb, Yc, Zv, Zp, Zo, Zu, M1.blk, X1, X2]; done))
  have o2 := o1b.keep (w' := (w1.alloc (.cells #[.slice none 0 0] 34)).setRow w1.heap.size #[.slice a 4 c]) (by intro b hS hb; (try dsimp only at hS); (try simp only [In, World.size_alloc, size_setRow, Za] at hS hb); first | rfl | (simp (disch := first | assumption | omega | (simp only [World.size_alloc, size_setRow, Za]; omega) | (simp only [World.size_alloc, size_setRow, Za, In]; omega)) only [M1.blk, Zb, Zd, Ym]; done))
  generalize hW : (w1.alloc (.cells #[.slice none 0 0] 34)).setRow w1.heap.size #[.slice a 4 c] = W at *
  have sW : W.heap.size = w1.heap.size + 1 := by rw [← hW, size_setRow, World.size_alloc]
  have hl2 := R2.lt
  have fin : ∀ (e : Env) (U : World) (a' : Option Addr) (c' : Nat) (st' : List Ver) (p' : Nat), e 2 = pt w.heap.size 0 → e 3 = pt w1.heap.size 0 → hp U w.heap.size = some (.cells #[.slice none 0 0] 34 (0, 0)) → hp U w1.heap.size = some (.cells #[.slice a' st'.length c'] 34 (0, 0)) →
      D tVers (fun b => w.heap.size < b) U [.slice a' st'.length c'] st' → p' ≤ p + 500 → R U B g p' → Mod (fun b => b = g) w U → Ret (spec_l20AnyStore_j1 e U) Q := by
    intro e U a' c' st' p' e2 e3 Z2 Z3 hd hp' hR hM
    rw [spec_l20AnyStore_j1_eq]
    simp (maxSteps := 1000000) (disch := first | assumption | omega | (simp only [World.size_alloc, size_setRow, Za] <;> omega) | (simp only [List.length_set, Array.length_toList, List.length_cons, List.length_nil, List.length_append, Zn] <;> omega) | (simp only [List.all_cons, List.all_nil, Value.oneCell', Bool.and_self, Bool.and_true]; done)) [-Option.bind_some, Zb, Zc, Zd, Zh, Ze, Zi, Zt, Zk, Zr, Zs, Yg, Yf, Yh, -Zl, -Zm, Ye, Ya, Yd, Zx, Zz, Zw, Zq, Zj, Zf, Zg, Zy, Yb, Yc, Zv, Zp, Zo, Zu, e2, e3, Z2, Z3, M1.blk, X1, X2, X3, e2, e3]
    exact hQ _ ⟨st', a', c', p', rfl, (hd.keep (fun b hS hb => Zd (by omega))).wide (fun b h _ => by omega), by omega, hR.keep (fun b h hb => Zd (by omega)), hM.set' (.inl (by omega)) _⟩
  refine Ret.bind (Yl (k := 10) (by omega) (by omega) (by omega) R2) ?_
  rintro ⟨_, w3⟩ ⟨m, rfl, hm, R3, M3⟩
  have zM3 := M3.size
  try simp only [World.size_alloc, size_setRow, Za] at zM3
  try dsimp only at R3 M3
  have zM3 := M3.size
  have N3 := N2.tr M3
  have Z2 : hp w3 w.heap.size = _ := (M3.blk w.heap.size (by omega) (by omega)).trans X2
  have Z3 : hp w3 w1.heap.size = _ := (M3.blk w1.heap.size (by omega) (by omega)).trans X3
  have o3 : O tVers (fun b => w.heap.size < b ∧ b < w1.heap.size) w3 [.slice a 4 c] st := o2.keep (fun b hb hs => M3.blk b hs (by omega))
  by_cases h0 : m = 0
  · subst h0
    obtain ⟨v0, tl, rfl⟩ : ∃ v0 tl, st = v0 :: tl := by
      cases st with
      | nil => simp at hst
      | cons v0 tl => exact ⟨v0, tl, rfl⟩
    have htl : tl.length = 3 := by simpa using hst
    obtain ⟨gp, cur, cs, S1, rfl, hSg, hgl, hg, hle, hx1, hS1, put⟩ := o3.row (by decide) (i := 0) (x := v0) rfl
    have hc4 := o3.clip
    simp (maxSteps := 1000000) (disch := first | assumption | omega | (simp only [World.size_alloc, size_setRow, Za] <;> omega) | (simp only [List.length_set, Array.length_toList, List.length_cons, List.length_nil, List.length_append, Zn] <;> omega) | (simp only [List.all_cons, List.all_nil, Value.oneCell', Bool.and_self, Bool.and_true]; done)) [-Option.bind_some, Zb, Zc, Zd, Zh, Ze, Zi, Zt, Zk, Zr, Zs, Yg, Yf, Yh, -Zl, -Zm, Ye, Ya, Yd, Zx, Zz, Zw, Zq, Zj, Zf, Zg, Zy, Yb, Yc, Zv, Zp, Zo, Zu, Z3, sl_l (P := P) el_32, show (1 : Int).toNat ≠ c by have := hc4.1; omega, M1.blk, X1, X2, X3, M3.blk, hg]
    refine fin _ _ (some ⟨gp, 6, none⟩) (c - 1) tl (p1 + 1) (by first | omega | assumption | rfl | exact congrArg i64 (by omega) | (simp; done) | (simp; omega)) (by first | omega | assumption | rfl | exact congrArg i64 (by omega) | (simp; done) | (simp; omega)) ((Zd (by omega)).trans Z2) ?_ ?_ (by omega) (R3.keep (fun b h hb => Zd (by omega))) (N3.set' (.inl (by omega)) _)
    · rw [htl]
      exact (by first | assumption | rfl | (simp (maxSteps := 1000000) (disch := first | assumption | omega | (simp only [World.size_alloc, size_setRow, Za] <;> omega) | (simp only [List.length_set, Array.length_toList, List.length_cons, List.length_nil, List.length_append, Zn] <;> omega) | (simp only [List.all_cons, List.all_nil, Value.oneCell', Bool.and_self, Bool.and_true]; done)) [-Option.bind_some, Zb, Zc, Zd, Zh, Ze, Zi, Zt, Zk, Zr, Zs, Yg, Yf, Yh, -Zl, -Zm, Ye, Ya, Yd, Zx, Zz, Zw, Zq, Zj, Zf, Zg, Zy, Yb, Yc, Zv, Zp, Zo, Zu, Z3, M1.blk, X1, X2, X3, M3.blk, hg]; done))
    · exact ((D.tail (by decide) o3.d).keep (fun b hS hb => Zd (by omega))).wide (fun b h _ => by omega)
  have f0 : ((m : Int) == 0) = false := by rw [beq_eq_false_iff_ne]; omega
  by_cases h1 : m = 1
  · subst h1
    simp (maxSteps := 1000000) (disch := first | assumption | omega | (simp only [World.size_alloc, size_setRow, Za] <;> omega) | (simp only [List.length_set, Array.length_toList, List.length_cons, List.length_nil, List.length_append, Zn] <;> omega) | (simp only [List.all_cons, List.all_nil, Value.oneCell', Bool.and_self, Bool.and_true]; done)) [-Option.bind_some, Zb, Zc, Zd, Zh, Ze, Zi, Zt, Zk, Zr, Zs, Yg, Yf, Yh, -Zl, -Zm, Ye, Ya, Yd, Zx, Zz, Zw, Zq, Zj, Zf, Zg, Zy, Yb, Yc, Zv, Zp, Zo, Zu, Z3, M1.blk, X1, X2, X3, M3.blk]
    refine Ret.bind (Yl (k := 4) (by omega) (by omega) (by omega) (R3.ext (by (repeat (first | exact Ext.rfl | assumption | (refine Ext.al ?_ _) | (refine Ext.dw ?_) | (refine Ext.set ?_ (by first | omega | (simp only [World.size_alloc, size_setRow, Za]; omega)) _) | (refine Ext.tr ?_ (by assumption))))))) ?_
    rintro ⟨_, w4⟩ ⟨k, rfl, hk, R4, M4⟩
    have zM4 := M4.size
    try simp only [World.size_alloc, size_setRow, Za] at zM4
    try dsimp only at R4 M4
    have zM4 := M4.size
    simp only [Za] at zM4
    have U3 : hp w4 w1.heap.size = _ := (M4.blk w1.heap.size (by (try simp only [In, World.size_alloc, size_setRow, Za] at *); omega) (by omega)).trans ((Ym _ _).trans Z3)
    have U2 : hp w4 w.heap.size = _ := (M4.blk w.heap.size (by (try simp only [In, World.size_alloc, size_setRow, Za] at *); omega) (by omega)).trans ((Ym _ _).trans Z2)
    simp (maxSteps := 1000000) (disch := first | assumption | omega | (simp only [World.size_alloc, size_setRow, Za] <;> omega) | (simp only [List.length_set, Array.length_toList, List.length_cons, List.length_nil, List.length_append, Zn] <;> omega) | (simp only [List.all_cons, List.all_nil, Value.oneCell', Bool.and_self, Bool.and_true]; done)) [-Option.bind_some, Zb, Zc, Zd, Zh, Ze, Zi, Zt, Zk, Zr, Zs, Yg, Yf, Yh, -Zl, -Zm, Ye, Ya, Yd, Zx, Zz, Zw, Zq, Zj, Zf, Zg, Zy, Yb, Yc, Zv, Zp, Zo, Zu, U3, M1.blk, X1, X2, X3, M3.blk, M4.blk]
    refine Ret.bind (spec_l20AnyVer_m (by omega) R4) ?_
    rintro ⟨_, w5⟩ ⟨v, ds, p5, rfl, d5, hp5, R5, M5⟩
    have zM5 := M5.size
    try simp only [World.size_alloc, size_setRow, Za] at zM5
    try dsimp only at d5 R5 M5
    have zM5 := M5.size
    have V3 : hp w5 w1.heap.size = _ := (M5.blk w1.heap.size (by omega) (by omega)).trans U3
    have V2 : hp w5 w.heap.size = _ := (M5.blk w.heap.size (by omega) (by omega)).trans U2
    have o5 : O tVers (fun b => w.heap.size < b ∧ b < w1.heap.size) w5 [.slice a 4 c] st := o3.keep (fun b hb hs => (M5.blk b (by omega) (by omega)).trans ((M4.blk b (by (try simp only [In, World.size_alloc, size_setRow, Za] at *); omega) (by omega)).trans (Ym _ _)))
    obtain ⟨v0, hv0, _⟩ := Yk (l := st) (k := k) (by omega)
    obtain ⟨gp, _, _, _, rfl, hSg, hgl, _⟩ := o5.row (by decide) hv0
    obtain ⟨cur, cs, hg, hle, hcs, hd, put⟩ := (o5.row1.wide (S' := fun b => (w.heap.size < b ∧ b < w1.heap.size ∨ w4.heap.size ≤ b) ∧ b ≠ gp) (fun b h _ => ⟨.inl h.1, h.2⟩) (fun b h => h.2)).row hv0
    simp only [LVer_n] at hg hle hcs put
    have hds := d5.len
    rw [LVer_n] at hds
    obtain ⟨x1, x2, rfl, _⟩ := D.ver.1 hd
    obtain ⟨y1, y2, rfl, _⟩ := D.ver.1 d5
    simp (maxSteps := 1000000) (disch := first | assumption | omega | (simp only [World.size_alloc, size_setRow, Za] <;> omega) | (simp only [List.length_set, Array.length_toList, List.length_cons, List.length_nil, List.length_append, Zn] <;> omega) | (simp only [List.all_cons, List.all_nil, Value.oneCell', Bool.and_self, Bool.and_true]; done)) [-Option.bind_some, Zb, Zc, Zd, Zh, Ze, Zi, Zt, Zk, Zr, Zs, Yg, Yf, Yh, -Zl, -Zm, Ye, Ya, Yd, Zx, Zz, Zw, Zq, Zj, Zf, Zg, Zy, Yb, Yc, Zv, Zp, Zo, Zu, V3, hg, ia_32, hk, show (k : Int) < 4 by omega, M1.blk, X1, X2, X3, M3.blk, M4.blk, M5.blk, hg]
    have rw1 := put (w5.setRow gp (rowv cur (k * 6) [i64 v.key, i64 v.tag.t, i64 v.tag.p, .slice y1 v.past.length y2, .string v.text, .bool v.gone]).toArray) [i64 v.key, i64 v.tag.t, i64 v.tag.p, .slice y1 v.past.length y2, .string v.text, .bool v.gone] v ((d5.keep (fun b hb hs => Zd (by omega))).wide (fun b h _ => ⟨.inr h, by omega⟩)) (by first | assumption | rfl | (simp (maxSteps := 1000000) (disch := first | assumption | omega | (simp only [World.size_alloc, size_setRow, Za] <;> omega) | (simp only [List.length_set, Array.length_toList, List.length_cons, List.length_nil, List.length_append, Zn] <;> omega) | (simp only [List.all_cons, List.all_nil, Value.oneCell', Bool.and_self, Bool.and_true]; done)) [-Option.bind_some, Zb, Zc, Zd, Zh, Ze, Zi, Zt, Zk, Zr, Zs, Yg, Yf, Yh, -Zl, -Zm, Ye, Ya, Yd, Zx, Zz, Zw, Zq, Zj, Zf, Zg, Zy, Yb, Yc, Zv, Zp, Zo, Zu, hg, M1.blk, X1, X2, X3, M3.blk, M4.blk, M5.blk, hg]; done)) (fun b hb hSb => Zd hSb.2)
    have hs4 : (st.set k v).length = 4 := by rw [List.length_set]; exact hst
    refine fin _ _ (some ⟨gp, 0, none⟩) c (st.set k v) p5 (by first | omega | assumption | rfl | exact congrArg i64 (by omega) | (simp; done) | (simp; omega)) (by first | omega | assumption | rfl | exact congrArg i64 (by omega) | (simp; done) | (simp; omega)) ((Zd (by omega)).trans V2) ?_ ((rw1.d (mx := 1954687338211) (by omega) (by omega) c).wide (fun b h _ => by omega)) (by omega) (R5.keep (fun b h hb => Zd (by omega))) ?_
    · rw [hs4]
      exact (Zd (by omega)).trans V3
    · exact (((N3.tr (Mod.of (by (repeat (first | exact Ext.rfl | assumption | (refine Ext.al ?_ _) | (refine Ext.dw ?_) | (refine Ext.set ?_ (by first | omega | (simp only [World.size_alloc, size_setRow, Za]; omega)) _) | (refine Ext.tr ?_ (by assumption))))) _)).tr M4).tr M5).set' (.inl (by omega)) _
  have f1 : ((m : Int) == 1) = false := by rw [beq_eq_false_iff_ne]; omega
  by_cases h2 : m = 2
  · subst h2
    simp (maxSteps := 1000000) (disch := first | assumption | omega | (simp only [World.size_alloc, size_setRow, Za] <;> omega) | (simp only [List.length_set, Array.length_toList, List.length_cons, List.length_nil, List.length_append, Zn] <;> omega) | (simp only [List.all_cons, List.all_nil, Value.oneCell', Bool.and_self, Bool.and_true]; done)) [-Option.bind_some, Zb, Zc, Zd, Zh, Ze, Zi, Zt, Zk, Zr, Zs, Yg, Yf, Yh, -Zl, -Zm, Ye, Ya, Yd, Zx, Zz, Zw, Zq, Zj, Zf, Zg, Zy, Yb, Yc, Zv, Zp, Zo, Zu, Z3, M1.blk, X1, X2, X3, M3.blk]
    refine Ret.bind (Yl (k := 4) (by omega) (by omega) (by omega) (R3.ext (by (repeat (first | exact Ext.rfl | assumption | (refine Ext.al ?_ _) | (refine Ext.dw ?_) | (refine Ext.set ?_ (by first | omega | (simp only [World.size_alloc, size_setRow, Za]; omega)) _) | (refine Ext.tr ?_ (by assumption))))))) ?_
    rintro ⟨_, w4⟩ ⟨k, rfl, hk, R4, M4⟩
    have zM4 := M4.size
    try simp only [World.size_alloc, size_setRow, Za] at zM4
    try dsimp only at R4 M4
    have zM4 := M4.size
    simp only [Za] at zM4
    have U3 : hp w4 w1.heap.size = _ := (M4.blk w1.heap.size (by (try simp only [In, World.size_alloc, size_setRow, Za] at *); omega) (by omega)).trans ((Ym _ _).trans Z3)
    have U2 : hp w4 w.heap.size = _ := (M4.blk w.heap.size (by (try simp only [In, World.size_alloc, size_setRow, Za] at *); omega) (by omega)).trans ((Ym _ _).trans Z2)
    have o4 : O tVers (fun b => w.heap.size < b ∧ b < w1.heap.size) w4 [.slice a 4 c] st := o3.keep (fun b hb hs => ((M4.blk b (by (try simp only [In, World.size_alloc, size_setRow, Za] at *); omega) (by omega)).trans (Ym _ _)))
    obtain ⟨v0, hv0, _⟩ := Yk (l := st) (k := k) (by omega)
    obtain ⟨gp, _, _, _, rfl, hSg, hgl, _⟩ := o4.row (by decide) hv0
    obtain ⟨cur, cs, hg, hle, hcs, hd, put⟩ := o4.row1.row hv0
    simp only [LVer_n] at hg hle hcs put
    obtain ⟨x1, x2, rfl, _⟩ := D.ver.1 hd
    simp (maxSteps := 1000000) (disch := first | assumption | omega | (simp only [World.size_alloc, size_setRow, Za] <;> omega) | (simp only [List.length_set, Array.length_toList, List.length_cons, List.length_nil, List.length_append, Zn] <;> omega) | (simp only [List.all_cons, List.all_nil, Value.oneCell', Bool.and_self, Bool.and_true]; done)) [-Option.bind_some, Zb, Zc, Zd, Zh, Ze, Zi, Zt, Zk, Zr, Zs, Yg, Yf, Yh, -Zl, -Zm, Ye, Ya, Yd, Zx, Zz, Zw, Zq, Zj, Zf, Zg, Zy, Yb, Yc, Zv, Zp, Zo, Zu, U3, hg, ia_32, hk, show (k : Int) < 4 by omega, M1.blk, X1, X2, X3, M3.blk, M4.blk, hg]
    have rw1 := put (w4.setRow gp (rowv cur (k * 6) [i64 0, i64 0, i64 0, .slice none 0 0, .string ⟨#[120]⟩, .bool false]).toArray) [i64 0, i64 0, i64 0, .slice none 0 0, .string ⟨#[120]⟩, .bool false] ⟨0, ⟨0, 0⟩, [], ⟨#[120]⟩, false⟩ (D.ver.2 ⟨none, 0, rfl, D.nil _ _, by decide⟩) (by first | assumption | rfl | (simp (maxSteps := 1000000) (disch := first | assumption | omega | (simp only [World.size_alloc, size_setRow, Za] <;> omega) | (simp only [List.length_set, Array.length_toList, List.length_cons, List.length_nil, List.length_append, Zn] <;> omega) | (simp only [List.all_cons, List.all_nil, Value.oneCell', Bool.and_self, Bool.and_true]; done)) [-Option.bind_some, Zb, Zc, Zd, Zh, Ze, Zi, Zt, Zk, Zr, Zs, Yg, Yf, Yh, -Zl, -Zm, Ye, Ya, Yd, Zx, Zz, Zw, Zq, Zj, Zf, Zg, Zy, Yb, Yc, Zv, Zp, Zo, Zu, hg, M1.blk, X1, X2, X3, M3.blk, M4.blk, hg]; done)) (fun b hb hSb => Zd hSb.2)
    have hs4 : (st.set k ⟨0, ⟨0, 0⟩, [], ⟨#[120]⟩, false⟩).length = 4 := by rw [List.length_set]; exact hst
    refine fin _ _ (some ⟨gp, 0, none⟩) c (st.set k ⟨0, ⟨0, 0⟩, [], ⟨#[120]⟩, false⟩) (p1 + 1 + 1) (by first | omega | assumption | rfl | exact congrArg i64 (by omega) | (simp; done) | (simp; omega)) (by first | omega | assumption | rfl | exact congrArg i64 (by omega) | (simp; done) | (simp; omega)) ((Zd (by omega)).trans U2) ?_ ((rw1.d (mx := 1954687338211) (by omega) (by omega) c).wide (fun b h _ => by omega)) (by omega) (R4.keep (fun b h hb => Zd (by omega))) ?_
    · rw [hs4]
      exact (Zd (by omega)).trans U3
    · exact ((N3.tr (Mod.of (by (repeat (first | exact Ext.rfl | assumption | (refine Ext.al ?_ _) | (refine Ext.dw ?_) | (refine Ext.set ?_ (by first | omega | (simp only [World.size_alloc, size_setRow, Za]; omega)) _) | (refine Ext.tr ?_ (by assumption))))) _)).tr M4).set' (.inl (by omega)) _
  have f2 : ((m : Int) == 2) = false := by rw [beq_eq_false_iff_ne]; omega
  simp (maxSteps := 1000000) (disch := first | assumption | omega | (simp only [World.size_alloc, size_setRow, Za] <;> omega) | (simp only [List.length_set, Array.length_toList, List.length_cons, List.length_nil, List.length_append, Zn] <;> omega) | (simp only [List.all_cons, List.all_nil, Value.oneCell', Bool.and_self, Bool.and_true]; done)) [-Option.bind_some, Zb, Zc, Zd, Zh, Ze, Zi, Zt, Zk, Zr, Zs, Yg, Yf, Yh, -Zl, -Zm, Ye, Ya, Yd, Zx, Zz, Zw, Zq, Zj, Zf, Zg, Zy, Yb, Yc, Zv, Zp, Zo, Zu, f0, f1, f2, M1.blk, X1, X2, X3, M3.blk]
  refine fin _ _ a c st (p1 + 1) (by first | omega | assumption | rfl | exact congrArg i64 (by omega) | (simp; done) | (simp; omega)) (by first | omega | assumption | rfl | exact congrArg i64 (by omega) | (simp; done) | (simp; omega)) Z2 ?_ (by rw [hst]; exact o3.d.wide (fun b h _ => h.1)) (by omega) R3 N3
  rw [hst]
  exact Z3
end Go.Proofs.YtjagkbamkohnoaaGreat.X
