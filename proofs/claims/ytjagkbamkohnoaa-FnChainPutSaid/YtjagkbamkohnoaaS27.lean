/- A part of the proof: an evaluator of the model, its laws, and contracts of functions; no condition. -/
import Derived.Test.YtjagkbamkohnoaaS26
set_option linter.unusedVariables false
set_option linter.unusedSimpArgs false
set_option maxRecDepth 100000
set_option maxHeartbeats 1000000
namespace Go.Proofs.Ytjagkbamkohnoaa.X
open Go Go.Ev Go.RowKit
theorem tags_tail {w : World} {b c : Nat} {t : Tag} {ts : List Tag} {S : Nat → Prop} (h : D tTags S w [.slice (some ⟨b, 0, none⟩) (t :: ts).length c] (t :: ts)) : D tTags (fun x => x = b) w [.slice (some ⟨b, 2, none⟩) ts.length (c - 1)] ts := by
  obtain ⟨⟨a', c', h1, h2, h3⟩, h4⟩ := D.rTags h
  simp only [Value.slice.injEq, List.length_cons] at h1 h2 h4
  obtain ⟨rfl, _, rfl⟩ := h1
  refine (tags_d (s := .slice (some ⟨b, 2, none⟩) ts.length (c - 1)) ⟨⟨some ⟨b, 2, none⟩, c - 1, rfl, by omega, .inr ⟨b, 2, rfl, ?_⟩⟩, by omega⟩).wide (fun x h _ => by simpa [blkOf] using h.1)
  rcases h3 with h3 | ⟨b', o', h5, h6⟩
  · simp [tagCs, tagC] at h3
  · simp only [Option.some.injEq, Addr.mk.injEq, and_true] at h5
    obtain ⟨rfl, rfl⟩ := h5
    intro j u hu
    have := h6 (2 + j) u (by
      show (tagC t ++ tagCs ts)[2 + j]? = some u
      rw [List.getElem?_append_right (by simp [tagC])]
      simpa [tagC] using hu)
    rwa [Nat.zero_add] at this
theorem spec_l20AnyVer_m {B g p : Nat} (hp0 : p ≤ 700000000000) {w : World} (hr : R w B g p) :
    Ret (EV P 40 #[pt g 0] w) fun r => ∃ (v : Ver) (ds : List Value) (p' : Nat), r.1 = .agg ds.toArray ∧ D tVer (fun b => w.heap.size ≤ b) r.2 ds v ∧ p' ≤ p + 50 ∧ R r.2 B g p' ∧ Mod (fun b => b = g) w r.2 := by
  have hl := hr.lt
  refine Ret.post fun Q hQ => ?_
  refine Ret.enter plain Yo (spec_l20AnyVer_fn _ _) (by kernel_rfl) (n := 1) (by kernel_rfl) rfl ?_
  simp (maxSteps := 1000000) (disch := first | assumption | omega | (simp only [World.size_alloc, size_setRow, Za] <;> omega) | (simp only [List.length_set, Array.length_toList, List.length_cons, List.length_nil, List.length_append, Zn] <;> omega) | (simp only [List.all_cons, List.all_nil, Value.oneCell', Bool.and_self, Bool.and_true]; done)) [-Option.bind_some, Zb, Zc, Zd, Zh, Ze, Zi, Zr, Zk, Zt, Zs, Yg, Yf, Yh, -Zl, -Zm, Ye, Yc, Yd, Ya, Zx, Zw, Zo, Zj, Zg, Zf, Zz, Zy, Yb, Zv, Zq, Zp, Zu]
  refine Ret.bind (spec_l20Ver_m (by omega) (hr.ext (by (repeat (first | exact Ext.rfl | assumption | (refine Ext.al ?_ _) | (refine Ext.dw ?_) | (refine Ext.set ?_ (by first | omega | (simp only [World.size_alloc, size_setRow, Za]; omega)) _) | (refine Ext.tr ?_ (by assumption))))))) ?_
  rintro ⟨_, w1⟩ ⟨v, ds, p1, rfl, o1, k0, k3, hp4, hp1, R1, M1⟩
  have zM1 := M1.size
  try simp only [World.size_alloc, size_setRow, Za] at zM1
  try dsimp only at o1 R1 M1
  have zM1 := M1.size
  simp only [World.size_alloc, Za] at zM1
  have zo := O.ver.1 o1
  obtain ⟨a, c, rfl, op, htx⟩ := zo
  have X1 : hp w1 w.heap.size = some (.cells #[i64 0, i64 0, i64 0, .slice none 0 0, .string ⟨#[]⟩, .bool false] 32 (0, 0)) := (M1.blk w.heap.size (by (try simp only [In, World.size_alloc, size_setRow, Za] at *); omega) (by omega)).trans (by first | assumption | rfl | (simp (maxSteps := 1000000) (disch := first | assumption | omega | (simp only [World.size_alloc, size_setRow, Za] <;> omega) | (simp only [List.length_set, Array.length_toList, List.length_cons, List.length_nil, List.length_append, Zn] <;> omega) | (simp only [List.all_cons, List.all_nil, Value.oneCell', Bool.and_self, Bool.and_true]; done)) [-Option.bind_some, Zb, Zc, Zd, Zh, Ze, Zi, Zr, Zk, Zt, Zs, Yg, Yf, Yh, -Zl, -Zm, Ye, Yc, Yd, Ya, Zx, Zw, Zo, Zj, Zg, Zf, Zz, Zy, Yb, Zv, Zq, Zp, Zu, M1.blk]; done))
  have N1 : Mod (fun b => b = g) w w1 := (Mod.of (by (repeat (first | exact Ext.rfl | assumption | (refine Ext.al ?_ _) | (refine Ext.dw ?_) | (refine Ext.set ?_ (by first | omega | (simp only [World.size_alloc, size_setRow, Za]; omega)) _) | (refine Ext.tr ?_ (by assumption))))) _).tr M1
  rw [hp4] at op
  have hpl : v.past.length = 4 := hp4
  simp (maxSteps := 1000000) (disch := first | assumption | omega | (simp only [World.size_alloc, size_setRow, Za] <;> omega) | (simp only [List.length_set, Array.length_toList, List.length_cons, List.length_nil, List.length_append, Zn] <;> omega) | (simp only [List.all_cons, List.all_nil, Value.oneCell', Bool.and_self, Bool.and_true]; done)) [-Option.bind_some, Zb, Zc, Zd, Zh, Ze, Zi, Zr, Zk, Zt, Zs, Yg, Yf, Yh, -Zl, -Zm, Ye, Yc, Yd, Ya, Zx, Zw, Zo, Zj, Zg, Zf, Zz, Zy, Yb, Zv, Zq, Zp, Zu, hp4, M1.blk, X1]
  have fin : ∀ (e : Env) (W : World) (cs : List Value) (u : Ver) (p' : Nat), e 2 = pt w.heap.size 0 → e 3 = pt w1.heap.size 0 → hp W w.heap.size = some (.cells #[i64 0, i64 0, i64 0, .slice none 0 0, .string ⟨#[]⟩, .bool false] 32 (0, 0)) → hp W w1.heap.size = some (.cells cs.toArray 32 (0, 0)) →
      D tVer (fun b => w.heap.size < b ∧ b ≠ w1.heap.size) W cs u → p' ≤ p + 50 → R W B g p' → Mod (fun b => b = g) w W → Ret (spec_l20AnyVer_j1 e W) Q := by
    intro e W cs u p' e2 e3 Z2 Z3 hd hp' hR hM
    have y3 := Yq Z3
    have hd' := hd
    obtain ⟨a', c', rfl, _, _⟩ := D.ver.1 hd
    rw [spec_l20AnyVer_j1_eq]
    simp (maxSteps := 1000000) (disch := first | assumption | omega | (simp only [World.size_alloc, size_setRow, Za] <;> omega) | (simp only [List.length_set, Array.length_toList, List.length_cons, List.length_nil, List.length_append, Zn] <;> omega) | (simp only [List.all_cons, List.all_nil, Value.oneCell', Bool.and_self, Bool.and_true]; done)) [-Option.bind_some, Zb, Zc, Zd, Zh, Ze, Zi, Zr, Zk, Zt, Zs, Yg, Yf, Yh, -Zl, -Zm, Ye, Yc, Yd, Ya, Zx, Zw, Zo, Zj, Zg, Zf, Zz, Zy, Yb, Zv, Zq, Zp, Zu, e2, e3, Z2, Z3, M1.blk, X1, e2, e3]
    exact hQ _ ⟨u, [_, _, _, _, _, _], p', rfl, (hd'.keep (fun b hS hb => Zd (by omega))).wide (fun b h _ => by omega), hp', hR.keep (fun b h hb => Zd (by omega)), hM.set' (.inl (by omega)) _⟩
  obtain ⟨W1, hW1⟩ : ∃ W1 : World, W1 = (w1.alloc (.cells #[i64 0, i64 0, i64 0, .slice none 0 0, .string ⟨#[]⟩, .bool false] 32)).setRow w1.heap.size #[i64 v.key, i64 v.tag.t, i64 v.tag.p, .slice a 4 c, .string v.text, .bool v.gone] := ⟨_, rfl⟩
  rw [← hW1]
  have sW : W1.heap.size = w1.heap.size + 1 := by rw [hW1, size_setRow, World.size_alloc]
  have kW : ∀ b, b < w1.heap.size → hp W1 b = hp w1 b := fun b q => by rw [hW1, Zd (by omega), Zb q]
  have gW : hp W1 w1.heap.size = some (.cells #[i64 v.key, i64 v.tag.t, i64 v.tag.p, .slice a 4 c, .string v.text, .bool v.gone] 32 (0, 0)) := by
    rw [hW1]
    exact (by first | assumption | rfl | (simp (maxSteps := 1000000) (disch := first | assumption | omega | (simp only [World.size_alloc, size_setRow, Za] <;> omega) | (simp only [List.length_set, Array.length_toList, List.length_cons, List.length_nil, List.length_append, Zn] <;> omega) | (simp only [List.all_cons, List.all_nil, Value.oneCell', Bool.and_self, Bool.and_true]; done)) [-Option.bind_some, Zb, Zc, Zd, Zh, Ze, Zi, Zr, Zk, Zt, Zs, Yg, Yf, Yh, -Zl, -Zm, Ye, Yc, Yd, Ya, Zx, Zw, Zo, Zj, Zg, Zf, Zz, Zy, Yb, Zv, Zq, Zp, Zu, M1.blk, X1]; done))
  have N2 : Mod (fun b => b = g) w W1 := by
    rw [hW1]
    exact (N1.al _).set' (.inl (by omega)) _
  have oW : O tTags (fun b => w.heap.size < b ∧ b < w1.heap.size) W1 [.slice a 4 c] v.past := (op.keep (w' := W1) (fun b hS hb => kW b hb)).wide (fun b h _ => by simp only [In, World.size_alloc, Za] at h; omega)
  have l1 := R1.lt
  refine Ret.bind (Yk (k := 10) (by omega) (by omega) (by omega) (R1.keep (fun b h hb => kW b hb))) ?_
  rintro ⟨_, w2⟩ ⟨m, rfl, hm, R2, M2⟩
  have zM2 := M2.size
  try simp only [World.size_alloc, size_setRow, Za] at zM2
  try dsimp only at R2 M2
  have zM2 := M2.size
  have Z2 : hp w2 w.heap.size = some (.cells #[i64 0, i64 0, i64 0, .slice none 0 0, .string ⟨#[]⟩, .bool false] 32 (0, 0)) := (M2.blk w.heap.size (by (try simp only [In, World.size_alloc, size_setRow, Za] at *); omega) (by omega)).trans ((kW _ (by omega)).trans X1)
  have Z3 := (M2.blk w1.heap.size (by (try simp only [In, World.size_alloc, size_setRow, Za] at *); omega) (by omega)).trans gW
  have o2 : O tTags (fun b => w.heap.size < b ∧ b < w1.heap.size) w2 [.slice a 4 c] v.past := oW.keep (fun b hS hb => M2.blk b hb (by omega))
  have N3 := N2.tr M2
  have y2 := R2.lt
  have dv : ∀ (W : World) (key : Int) (tg : Tag) (tx : ByteArray) (gn : Bool) (ts : List Tag), ts.length = 4 → O tTags (fun b => w.heap.size < b ∧ b < w1.heap.size) W [.slice a 4 c] ts → tx.size ≤ 140737488351232 → D tVer (fun b => w.heap.size < b ∧ b ≠ w1.heap.size) W [i64 key, i64 tg.t, i64 tg.p, .slice a 4 c, .string tx, .bool gn] ⟨key, tg, ts, tx, gn⟩ := by
    intro W key tg tx gn ts h4 ho htx
    refine D.ver.2 ⟨a, c, by dsimp only; rw [h4], ?_, htx⟩
    show D _ _ _ [.slice a ts.length c] ts
    rw [h4]
    exact ho.d.wide (fun b h _ => by omega)
  by_cases h0 : m = 0
  · subst h0
    simp (maxSteps := 1000000) (disch := first | assumption | omega | (simp only [World.size_alloc, size_setRow, Za] <;> omega) | (simp only [List.length_set, Array.length_toList, List.length_cons, List.length_nil, List.length_append, Zn] <;> omega) | (simp only [List.all_cons, List.all_nil, Value.oneCell', Bool.and_self, Bool.and_true]; done)) [-Option.bind_some, Zb, Zc, Zd, Zh, Ze, Zi, Zr, Zk, Zt, Zs, Yg, Yf, Yh, -Zl, -Zm, Ye, Yc, Yd, Ya, Zx, Zw, Zo, Zj, Zg, Zf, Zz, Zy, Yb, Zv, Zq, Zp, Zu, M1.blk, X1, M2.blk]
    refine Ret.bind (spec_l20Rd_one_m (ints := [-1, 4]) (k := 2) (by omega) (by omega) (by omega) rfl (At.new (cs := [i64 (-1), i64 4])) (by omega) (R2.ext (by (repeat (first | exact Ext.rfl | assumption | (refine Ext.al ?_ _) | (refine Ext.dw ?_) | (refine Ext.set ?_ (by first | omega | (simp only [World.size_alloc, size_setRow, Za]; omega)) _) | (refine Ext.tr ?_ (by assumption))))))) ?_
    rintro ⟨_, w3⟩ ⟨n, _, rfl, R3, M3⟩
    have zM3 := M3.size
    try simp only [World.size_alloc, size_setRow, Za] at zM3
    try dsimp only at R3 M3
    have zM3 := M3.size
    simp only [World.size_alloc] at zM3
    have Y3 := (M3.blk w1.heap.size (by (try simp only [In, World.size_alloc, size_setRow, Za] at *); omega) (by omega)).trans ((Zb (by omega)).trans Z3)
    have Y2 := (M3.blk w.heap.size (by (try simp only [In, World.size_alloc, size_setRow, Za] at *); omega) (by omega)).trans ((Zb (by omega)).trans Z2)
    simp (maxSteps := 1000000) (disch := first | assumption | omega | (simp only [World.size_alloc, size_setRow, Za] <;> omega) | (simp only [List.length_set, Array.length_toList, List.length_cons, List.length_nil, List.length_append, Zn] <;> omega) | (simp only [List.all_cons, List.all_nil, Value.oneCell', Bool.and_self, Bool.and_true]; done)) [-Option.bind_some, Zb, Zc, Zd, Zh, Ze, Zi, Zr, Zk, Zt, Zs, Yg, Yf, Yh, -Zl, -Zm, Ye, Yc, Yd, Ya, Zx, Zw, Zo, Zj, Zg, Zf, Zz, Zy, Yb, Zv, Zq, Zp, Zu, Y3, M1.blk, X1, M2.blk, M3.blk]
    refine fin _ _ _ ⟨n, v.tag, v.past, v.text, v.gone⟩ (p1 + 1 + 1) rfl rfl ((Zd (by omega)).trans Y2) (by first | assumption | rfl | (simp (maxSteps := 1000000) (disch := first | assumption | omega | (simp only [World.size_alloc, size_setRow, Za] <;> omega) | (simp only [List.length_set, Array.length_toList, List.length_cons, List.length_nil, List.length_append, Zn] <;> omega) | (simp only [List.all_cons, List.all_nil, Value.oneCell', Bool.and_self, Bool.and_true]; done)) [-Option.bind_some, Zb, Zc, Zd, Zh, Ze, Zi, Zr, Zk, Zt, Zs, Yg, Yf, Yh, -Zl, -Zm, Ye, Yc, Yd, Ya, Zx, Zw, Zo, Zj, Zg, Zf, Zz, Zy, Yb, Zv, Zq, Zp, Zu, Y3, M1.blk, X1, M2.blk, M3.blk]; done)) (dv _ n v.tag v.text v.gone v.past hp4 (o2.keep (fun b hS hb => (Zd (by omega)).trans ((M3.blk b (by (try simp only [In, World.size_alloc, size_setRow, Za] at *); omega) (by omega)).trans (Zb hb)))) htx) (by omega) (R3.keep (fun b h hb => Zd (by omega))) (((N3.al _).tr M3).set' (.inl (by omega)) _)
  have e0 : ((m : Int) == 0) = false := by rw [beq_eq_false_iff_ne]; omega
  by_cases h1 : m = 1
  · subst h1
    simp (maxSteps := 1000000) (disch := first | assumption | omega | (simp only [World.size_alloc, size_setRow, Za] <;> omega) | (simp only [List.length_set, Array.length_toList, List.length_cons, List.length_nil, List.length_append, Zn] <;> omega) | (simp only [List.all_cons, List.all_nil, Value.oneCell', Bool.and_self, Bool.and_true]; done)) [-Option.bind_some, Zb, Zc, Zd, Zh, Ze, Zi, Zr, Zk, Zt, Zs, Yg, Yf, Yh, -Zl, -Zm, Ye, Yc, Yd, Ya, Zx, Zw, Zo, Zj, Zg, Zf, Zz, Zy, Yb, Zv, Zq, Zp, Zu, M1.blk, X1, M2.blk, e0]
    refine Ret.bind (spec_l20Rd_of_m (strs := [⟨#[97, 32, 98]⟩, ⟨#[116, 111, 111, 108, 111, 110, 103, 101, 114]⟩, ⟨#[10]⟩]) (k := 3) (by omega) (by omega) (by omega) rfl (At.new (cs := [.string ⟨#[97, 32, 98]⟩, .string ⟨#[116, 111, 111, 108, 111, 110, 103, 101, 114]⟩, .string ⟨#[10]⟩])) (by omega) (R2.ext (by (repeat (first | exact Ext.rfl | assumption | (refine Ext.al ?_ _) | (refine Ext.dw ?_) | (refine Ext.set ?_ (by first | omega | (simp only [World.size_alloc, size_setRow, Za]; omega)) _) | (refine Ext.tr ?_ (by assumption))))))) ?_
    rintro ⟨_, w3⟩ ⟨n, hn, rfl, R3, M3⟩
    have zM3 := M3.size
    try simp only [World.size_alloc, size_setRow, Za] at zM3
    try dsimp only at R3 M3
    have zM3 := M3.size
    simp only [World.size_alloc] at zM3
    have hns : n.size ≤ 140737488351232 := by
      simp only [List.mem_cons, List.not_mem_nil, or_false] at hn
      rcases hn with rfl | rfl | rfl <;> decide
    have Y3 := (M3.blk w1.heap.size (by (try simp only [In, World.size_alloc, size_setRow, Za] at *); omega) (by omega)).trans ((Zb (by omega)).trans Z3)
    have Y2 := (M3.blk w.heap.size (by (try simp only [In, World.size_alloc, size_setRow, Za] at *); omega) (by omega)).trans ((Zb (by omega)).trans Z2)
    simp (maxSteps := 1000000) (disch := first | assumption | omega | (simp only [World.size_alloc, size_setRow, Za] <;> omega) | (simp only [List.length_set, Array.length_toList, List.length_cons, List.length_nil, List.length_append, Zn] <;> omega) | (simp only [List.all_cons, List.all_nil, Value.oneCell', Bool.and_self, Bool.and_true]; done)) [-Option.bind_some, Zb, Zc, Zd, Zh, Ze, Zi, Zr, Zk, Zt, Zs, Yg, Yf, Yh, -Zl, -Zm, Ye, Yc, Yd, Ya, Zx, Zw, Zo, Zj, Zg, Zf, Zz, Zy, Yb, Zv, Zq, Zp, Zu, Y3, M1.blk, X1, M2.blk, e0, M3.blk]
    refine fin _ _ _ ⟨v.key, v.tag, v.past, n, v.gone⟩ (p1 + 1 + 1) rfl rfl ((Zd (by omega)).trans Y2) (by first | assumption | rfl | (simp (maxSteps := 1000000) (disch := first | assumption | omega | (simp only [World.size_alloc, size_setRow, Za] <;> omega) | (simp only [List.length_set, Array.length_toList, List.length_cons, List.length_nil, List.length_append, Zn] <;> omega) | (simp only [List.all_cons, List.all_nil, Value.oneCell', Bool.and_self, Bool.and_true]; done)) [-Option.bind_some, Zb, Zc, Zd, Zh, Ze, Zi, Zr, Zk, Zt, Zs, Yg, Yf, Yh, -Zl, -Zm, Ye, Yc, Yd, Ya, Zx, Zw, Zo, Zj, Zg, Zf, Zz, Zy, Yb, Zv, Zq, Zp, Zu, Y3, M1.blk, X1, M2.blk, e0, M3.blk]; done)) (dv _ v.key v.tag n v.gone v.past hp4 (o2.keep (fun b hS hb => (Zd (by omega)).trans ((M3.blk b (by (try simp only [In, World.size_alloc, size_setRow, Za] at *); omega) (by omega)).trans (Zb hb)))) hns) (by omega) (R3.keep (fun b h hb => Zd (by omega))) (((N3.al _).tr M3).set' (.inl (by omega)) _)
  have f1 : ((m : Int) == 1) = false := by rw [beq_eq_false_iff_ne]; omega
  by_cases h2 : m = 2
  · subst h2
    obtain ⟨t0, tl, hpt⟩ : ∃ t0 tl, v.past = t0 :: tl := by
      cases hv : v.past with
      | nil => rw [hv] at hp4; simp at hp4
      | cons t0 tl => exact ⟨t0, tl, rfl⟩
    have htl : tl.length = 3 := by rw [hpt] at hp4; simpa using hp4
    obtain ⟨gp, cur, cs, S1, rfl, hSg, hgl, hg, hle, hx1, hS1, put⟩ := o2.row (by decide) (i := 0) (x := t0) (by rw [hpt]; rfl)
    have hc4 := o2.clip
    simp (maxSteps := 1000000) (disch := first | assumption | omega | (simp only [World.size_alloc, size_setRow, Za] <;> omega) | (simp only [List.length_set, Array.length_toList, List.length_cons, List.length_nil, List.length_append, Zn] <;> omega) | (simp only [List.all_cons, List.all_nil, Value.oneCell', Bool.and_self, Bool.and_true]; done)) [-Option.bind_some, Zb, Zc, Zd, Zh, Ze, Zi, Zr, Zk, Zt, Zs, Yg, Yf, Yh, -Zl, -Zm, Ye, Yc, Yd, Ya, Zx, Zw, Zo, Zj, Zg, Zf, Zz, Zy, Yb, Zv, Zq, Zp, Zu, Z3, sl_l (P := P) el_28, show (1 : Int).toNat ≠ c by have := hc4.1; omega, M1.blk, X1, M2.blk, e0, hg]
    refine fin _ _ [i64 v.key, i64 v.tag.t, i64 v.tag.p, .slice (some ⟨gp, 2, none⟩) 3 (c - 1), .string v.text, .bool v.gone] ⟨v.key, v.tag, tl, v.text, v.gone⟩ (p1 + 1) rfl rfl ((Zd (by omega)).trans Z2) (by first | assumption | rfl | (simp (maxSteps := 1000000) (disch := first | assumption | omega | (simp only [World.size_alloc, size_setRow, Za] <;> omega) | (simp only [List.length_set, Array.length_toList, List.length_cons, List.length_nil, List.length_append, Zn] <;> omega) | (simp only [List.all_cons, List.all_nil, Value.oneCell', Bool.and_self, Bool.and_true]; done)) [-Option.bind_some, Zb, Zc, Zd, Zh, Ze, Zi, Zr, Zk, Zt, Zs, Yg, Yf, Yh, -Zl, -Zm, Ye, Yc, Yd, Ya, Zx, Zw, Zo, Zj, Zg, Zf, Zz, Zy, Yb, Zv, Zq, Zp, Zu, Z3, M1.blk, X1, M2.blk, e0, hg]; done)) ?_ (by omega) (R2.keep (fun b h hb => Zd (by omega))) (N3.set' (.inl (by omega)) _)
    refine D.ver.2 ⟨_, c - 1, by dsimp only; rw [htl], ?_, htx⟩
    show D _ _ _ [.slice _ tl.length (c - 1)] tl
    have hd2 : D tTags (fun b => w.heap.size < b ∧ b < w1.heap.size) w2 [.slice (some ⟨gp, 0, none⟩) (t0 :: tl).length c] (t0 :: tl) := by
      rw [hpt] at o2
      exact (by simp [htl] : (t0 :: tl).length = 4) ▸ o2.d
    exact ((tags_tail hd2).keep (fun b hS hb => Zd (by omega))).wide (fun b h _ => by have := hSg; omega)
  have f2 : ((m : Int) == 2) = false := by rw [beq_eq_false_iff_ne]; omega
  by_cases h3 : m = 3
  · subst h3
    simp (maxSteps := 1000000) (disch := first | assumption | omega | (simp only [World.size_alloc, size_setRow, Za] <;> omega) | (simp only [List.length_set, Array.length_toList, List.length_cons, List.length_nil, List.length_append, Zn] <;> omega) | (simp only [List.all_cons, List.all_nil, Value.oneCell', Bool.and_self, Bool.and_true]; done)) [-Option.bind_some, Zb, Zc, Zd, Zh, Ze, Zi, Zr, Zk, Zt, Zs, Yg, Yf, Yh, -Zl, -Zm, Ye, Yc, Yd, Ya, Zx, Zw, Zo, Zj, Zg, Zf, Zz, Zy, Yb, Zv, Zq, Zp, Zu, Z3, M1.blk, X1, M2.blk, e0]
    refine Ret.bind (Yk (k := 4) (by omega) (by omega) (by omega) (R2.ext (by (repeat (first | exact Ext.rfl | assumption | (refine Ext.al ?_ _) | (refine Ext.dw ?_) | (refine Ext.set ?_ (by first | omega | (simp only [World.size_alloc, size_setRow, Za]; omega)) _) | (refine Ext.tr ?_ (by assumption))))))) ?_
    rintro ⟨_, w3⟩ ⟨k, rfl, hk, R3, M3⟩
    have zM3 := M3.size
    try simp only [World.size_alloc, size_setRow, Za] at zM3
    try dsimp only at R3 M3
    have zM3 := M3.size
    simp only [Za] at zM3
    have kM : ∀ b, b < w2.heap.size → b ≠ g → hp w3 b = hp w2 b := fun b q1 q2 => (M3.blk b (by rw [Za]; exact q1) q2).trans (Yl _ _)
    have Y3 := (kM w1.heap.size (by omega) (by omega)).trans Z3
    have Y2 := (kM w.heap.size (by omega) (by omega)).trans Z2
    have o3 : O tTags (fun b => w.heap.size < b ∧ b < w1.heap.size) w3 [.slice a 4 c] v.past := o2.keep (fun b hS hb => kM b hb (by omega))
    obtain ⟨t0, ht0, _⟩ := Ym (l := v.past) (k := k) (by omega)
    obtain ⟨gp, cur, cs, S1, rfl, hSg, hgl, hg, hle, hx1, hS1, put⟩ := o3.row (by decide) ht0
    obtain rfl := O.tag.1 hx1
    simp only [LTag_n] at hg hle put
    simp (maxSteps := 1000000) (disch := first | assumption | omega | (simp only [World.size_alloc, size_setRow, Za] <;> omega) | (simp only [List.length_set, Array.length_toList, List.length_cons, List.length_nil, List.length_append, Zn] <;> omega) | (simp only [List.all_cons, List.all_nil, Value.oneCell', Bool.and_self, Bool.and_true]; done)) [-Option.bind_some, Zb, Zc, Zd, Zh, Ze, Zi, Zr, Zk, Zt, Zs, Yg, Yf, Yh, -Zl, -Zm, Ye, Yc, Yd, Ya, Zx, Zw, Zo, Zj, Zg, Zf, Zz, Zy, Yb, Zv, Zq, Zp, Zu, Y3, hg, ia_28, hk, show (k : Int) < 4 by omega, M1.blk, X1, M2.blk, e0, M3.blk, hg]
    have oP := put (w3.setRow gp (rowv cur (k * 2) [Value.int IntKind.i64 50, Value.int IntKind.i64 1]).toArray) (tagC ⟨50, 1⟩) ⟨50, 1⟩ (fun _ => False) (O.tag.2 rfl |>.wide fun b h _ => h) (by first | assumption | rfl | (simp (maxSteps := 1000000) (disch := first | assumption | omega | (simp only [World.size_alloc, size_setRow, Za] <;> omega) | (simp only [List.length_set, Array.length_toList, List.length_cons, List.length_nil, List.length_append, Zn] <;> omega) | (simp only [List.all_cons, List.all_nil, Value.oneCell', Bool.and_self, Bool.and_true]; done)) [-Option.bind_some, Zb, Zc, Zd, Zh, Ze, Zi, Zr, Zk, Zt, Zs, Yg, Yf, Yh, -Zl, -Zm, Ye, Yc, Yd, Ya, Zx, Zw, Zo, Zj, Zg, Zf, Zz, Zy, Yb, Zv, Zq, Zp, Zu, hg, M1.blk, X1, M2.blk, e0, M3.blk, hg]; done)) (fun b hb hSb hne _ => Zd hne) (fun b _ h => h.elim)
    refine fin _ _ _ ⟨v.key, v.tag, v.past.set k ⟨50, 1⟩, v.text, v.gone⟩ (p1 + 1 + 1) rfl rfl ((Zd (by omega)).trans Y2) ((Zd (by omega)).trans Y3) (dv _ v.key v.tag v.text v.gone _ (by rw [List.length_set]; exact hp4) (oP.wide (fun b h _ => h.elim id (fun h => h.elim))) htx) (by omega) (R3.keep (fun b h hb => Zd (by omega))) (((N3.tr (Mod.of (by (repeat (first | exact Ext.rfl | assumption | (refine Ext.al ?_ _) | (refine Ext.dw ?_) | (refine Ext.set ?_ (by first | omega | (simp only [World.size_alloc, size_setRow, Za]; omega)) _) | (refine Ext.tr ?_ (by assumption))))) _)).tr M3).set' (.inl (by omega)) _)
  have f3 : ((m : Int) == 3) = false := by rw [beq_eq_false_iff_ne]; omega
  by_cases h4 : m = 4
  · subst h4
    simp (maxSteps := 1000000) (disch := first | assumption | omega | (simp only [World.size_alloc, size_setRow, Za] <;> omega) | (simp only [List.length_set, Array.length_toList, List.length_cons, List.length_nil, List.length_append, Zn] <;> omega) | (simp only [List.all_cons, List.all_nil, Value.oneCell', Bool.and_self, Bool.and_true]; done)) [-Option.bind_some, Zb, Zc, Zd, Zh, Ze, Zi, Zr, Zk, Zt, Zs, Yg, Yf, Yh, -Zl, -Zm, Ye, Yc, Yd, Ya, Zx, Zw, Zo, Zj, Zg, Zf, Zz, Zy, Yb, Zv, Zq, Zp, Zu, Z3, M1.blk, X1, M2.blk, e0]
    refine Ret.bind (spec_l20AnyTag_m (by omega) R2) ?_
    rintro ⟨_, w3⟩ ⟨t, p3, rfl, hp3, R3, M3⟩
    have zM3 := M3.size
    try simp only [World.size_alloc, size_setRow, Za] at zM3
    try dsimp only at R3 M3
    have zM3 := M3.size
    have Y3 := (M3.blk w1.heap.size (by (try simp only [In, World.size_alloc, size_setRow, Za] at *); omega) (by omega)).trans Z3
    have Y2 := (M3.blk w.heap.size (by (try simp only [In, World.size_alloc, size_setRow, Za] at *); omega) (by omega)).trans Z2
    simp (maxSteps := 1000000) (disch := first | assumption | omega | (simp only [World.size_alloc, size_setRow, Za] <;> omega) | (simp only [List.length_set, Array.length_toList, List.length_cons, List.length_nil, List.length_append, Zn] <;> omega) | (simp only [List.all_cons, List.all_nil, Value.oneCell', Bool.and_self, Bool.and_true]; done)) [-Option.bind_some, Zb, Zc, Zd, Zh, Ze, Zi, Zr, Zk, Zt, Zs, Yg, Yf, Yh, -Zl, -Zm, Ye, Yc, Yd, Ya, Zx, Zw, Zo, Zj, Zg, Zf, Zz, Zy, Yb, Zv, Zq, Zp, Zu, Y3, M1.blk, X1, M2.blk, e0, M3.blk]
    refine fin _ _ _ ⟨v.key, t, v.past, v.text, v.gone⟩ p3 rfl rfl ((Zd (by omega)).trans Y2) (by first | assumption | rfl | (simp (maxSteps := 1000000) (disch := first | assumption | omega | (simp only [World.size_alloc, size_setRow, Za] <;> omega) | (simp only [List.length_set, Array.length_toList, List.length_cons, List.length_nil, List.length_append, Zn] <;> omega) | (simp only [List.all_cons, List.all_nil, Value.oneCell', Bool.and_self, Bool.and_true]; done)) [-Option.bind_some, Zb, Zc, Zd, Zh, Ze, Zi, Zr, Zk, Zt, Zs, Yg, Yf, Yh, -Zl, -Zm, Ye, Yc, Yd, Ya, Zx, Zw, Zo, Zj, Zg, Zf, Zz, Zy, Yb, Zv, Zq, Zp, Zu, Y3, M1.blk, X1, M2.blk, e0, M3.blk]; done)) (dv _ v.key t v.text v.gone v.past hp4 (o2.keep (fun b hS hb => (Zd (by omega)).trans (M3.blk b hb (by omega)))) htx) (by omega) (R3.keep (fun b h hb => Zd (by omega))) ((N3.tr M3).set' (.inl (by omega)) _)
  have f4 : ((m : Int) == 4) = false := by rw [beq_eq_false_iff_ne]; omega
  by_cases h5 : m = 5
  · subst h5
    simp (maxSteps := 1000000) (disch := first | assumption | omega | (simp only [World.size_alloc, size_setRow, Za] <;> omega) | (simp only [List.length_set, Array.length_toList, List.length_cons, List.length_nil, List.length_append, Zn] <;> omega) | (simp only [List.all_cons, List.all_nil, Value.oneCell', Bool.and_self, Bool.and_true]; done)) [-Option.bind_some, Zb, Zc, Zd, Zh, Ze, Zi, Zr, Zk, Zt, Zs, Yg, Yf, Yh, -Zl, -Zm, Ye, Yc, Yd, Ya, Zx, Zw, Zo, Zj, Zg, Zf, Zz, Zy, Yb, Zv, Zq, Zp, Zu, Z3, M1.blk, X1, M2.blk, e0]
    refine fin _ _ _ ⟨v.key, v.tag, v.past, v.text, true⟩ (p1 + 1) rfl rfl ((Zd (by omega)).trans Z2) (by first | assumption | rfl | (simp (maxSteps := 1000000) (disch := first | assumption | omega | (simp only [World.size_alloc, size_setRow, Za] <;> omega) | (simp only [List.length_set, Array.length_toList, List.length_cons, List.length_nil, List.length_append, Zn] <;> omega) | (simp only [List.all_cons, List.all_nil, Value.oneCell', Bool.and_self, Bool.and_true]; done)) [-Option.bind_some, Zb, Zc, Zd, Zh, Ze, Zi, Zr, Zk, Zt, Zs, Yg, Yf, Yh, -Zl, -Zm, Ye, Yc, Yd, Ya, Zx, Zw, Zo, Zj, Zg, Zf, Zz, Zy, Yb, Zv, Zq, Zp, Zu, Z3, M1.blk, X1, M2.blk, e0]; done)) (dv _ v.key v.tag v.text true v.past hp4 (o2.keep (fun b hS hb => Zd (by omega))) htx) (by omega) (R2.keep (fun b h hb => Zd (by omega))) (N3.set' (.inl (by omega)) _)
  have f5 : ((m : Int) == 5) = false := by rw [beq_eq_false_iff_ne]; omega
  simp (maxSteps := 1000000) (disch := first | assumption | omega | (simp only [World.size_alloc, size_setRow, Za] <;> omega) | (simp only [List.length_set, Array.length_toList, List.length_cons, List.length_nil, List.length_append, Zn] <;> omega) | (simp only [List.all_cons, List.all_nil, Value.oneCell', Bool.and_self, Bool.and_true]; done)) [-Option.bind_some, Zb, Zc, Zd, Zh, Ze, Zi, Zr, Zk, Zt, Zs, Yg, Yf, Yh, -Zl, -Zm, Ye, Yc, Yd, Ya, Zx, Zw, Zo, Zj, Zg, Zf, Zz, Zy, Yb, Zv, Zq, Zp, Zu, e0, f1, f2, f3, f4, f5, M1.blk, X1, M2.blk, e0]
  exact fin _ _ _ ⟨v.key, v.tag, v.past, v.text, v.gone⟩ (p1 + 1) rfl rfl Z2 Z3 (dv _ v.key v.tag v.text v.gone v.past hp4 o2 htx) (by omega) R2 N3
end Go.Proofs.Ytjagkbamkohnoaa.X
