/- A part of the proof: an evaluator of the model, its laws, and contracts of functions; no condition. -/
import Derived.Test.YtjagkbamkohnoaaGreatS33
set_option linter.unusedVariables false
set_option linter.unusedSimpArgs false
set_option maxRecDepth 100000
set_option maxHeartbeats 1000000
namespace Go.Proofs.YtjagkbamkohnoaaGreat.X
open Go Go.Ev Go.RowKit
def fitI (ns : List CNode) : Prop := 0 < ns.length ∧ ns.length ≤ 4 ∧ ∀ x ∈ ns, fitN x
theorem fitN_z : fitN nodeZ := by
  refine ⟨rfl, by decide, fun v hv => ?_, fun v hv => by simp [nodeZ] at hv⟩
  obtain rfl := List.eq_of_mem_replicate hv
  exact ⟨by decide, by decide⟩
theorem fitI_new {m : Nat} (h : m < 4) : fitI (chainNewP (1 + (m : Int))) := by
  have e : chainNewP (1 + (m : Int)) = List.replicate (m + 1) nodeZ := by
    rw [chainNewP, if_pos (by simp only [Bool.and_eq_true, decide_eq_true_eq]; omega)]
    congr 1
    omega
  rw [e]
  refine ⟨by simp, by simp; omega, fun x hx => ?_⟩
  obtain rfl := List.eq_of_mem_replicate hx
  exact fitN_z
theorem fitI_add {ns : List CNode} {i : Nat} {v : Ver} {x : CNode} (h : fitI ns) (hx : ns[i]? = some x) (h6 : x.wait.length < 6) (hv : verK v) : fitI (addAt ns i v) := by
  have q := h.2.2 x (List.mem_of_getElem? hx)
  unfold addAt
  rw [hx]
  dsimp only
  split
  · split
    · refine ⟨by rw [List.length_set]; exact h.1, by rw [List.length_set]; exact h.2.1, fun y hy => ?_⟩
      rcases List.mem_or_eq_of_mem_set hy with hy | rfl
      · exact h.2.2 y hy
      · refine ⟨?_, ?_, ?_, ?_⟩
        · simp only [addNode, List.length_set]
          exact q.1
        · unfold addNode
          dsimp only
          split
          · omega
          · rw [List.length_append]; simp only [List.length_cons, List.length_nil]; omega
        · intro u hu
          simp only [addNode] at hu
          rcases List.mem_or_eq_of_mem_set hu with hu | rfl
          · exact q.2.2.1 u hu
          · exact hv
        · intro u hu
          unfold addNode at hu
          dsimp only at hu
          split at hu
          · exact q.2.2.2 u hu
          · rcases List.mem_append.1 hu with hu | hu
            · exact q.2.2.2 u hu
            · obtain rfl := List.mem_singleton.1 hu
              exact hv
    · exact h
  · exact h
theorem fitI_pass {ns : List CNode} {k : Nat} {x y : CNode} {v : Ver} {l : List Ver} (h : fitI ns) (hx : ns[k]? = some x) (hy : ns[k + 1]? = some y) (hw : x.wait = v :: l) (h6 : y.wait.length < 6) : fitI (passAt ns k) := by
  have q := h.2.2 x (List.mem_of_getElem? hx)
  have qw := q.2.2.2
  rw [hw] at qw
  rw [passAt_eq hx hw]
  refine fitI_add (x := y) ⟨by rw [List.length_set]; exact h.1, by rw [List.length_set]; exact h.2.1, fun z hz => ?_⟩ (by rw [List.getElem?_set_ne (by omega)]; exact hy) h6 (qw v List.mem_cons_self)
  rcases List.mem_or_eq_of_mem_set hz with hz | rfl
  · exact h.2.2 z hz
  · refine ⟨q.1, ?_, q.2.2.1, fun u hu => qw u (List.mem_cons_of_mem _ hu)⟩
    have := q.2.1
    rw [hw] at this
    simp only [List.length_cons] at this
    show l.length ≤ 6
    omega
theorem fitI_join {ns : List CNode} (h : fitI ns) (h4 : ns.length < 4) : fitI (joined ns) := by
  obtain ⟨x, hx, _⟩ := Yk (l := ns) (k := ns.length - 1) (by have := h.1; omega)
  have hj : joined ns = ns ++ [⟨x.store, []⟩] := by rw [joined, lastStore, hx]
  have q := h.2.2 x (List.mem_of_getElem? hx)
  rw [hj]
  refine ⟨by simp, by simp; omega, fun y hy => ?_⟩
  rcases List.mem_append.1 hy with hy | hy
  · exact h.2.2 y hy
  · obtain rfl := List.mem_singleton.1 hy
    exact ⟨q.1, by simp, q.2.2.1, by simp⟩
theorem spec_l3Room_g {a : Option Addr} {n c : Nat} {S : Nat → Prop} {ns : List CNode} {x : CNode} (hx : ns[0]? = some x) {w : World} (ha : D Yr S w [.slice a n c] ns) :
    Ret (EV P 70 #[.agg #[.slice a n c]] w) fun r => r.1 = .bool (decide (x.wait.length < 6)) ∧ Ext w r.2 := by
  have hl0 : 0 < ns.length := (List.getElem?_eq_some_iff.1 hx).1
  obtain ⟨rfl, hm, _⟩ := ha.n
  obtain ⟨b1, o1, cs1, rfl, A1, D1, _, l1⟩ := ha.at (by decide) hx
  obtain ⟨a2, c2, a3, c3, rfl, h2, h3⟩ := D.node.1 D1
  have p0 := A1 0 _ rfl
  have p1 := A1 1 _ rfl
  simp only [LVer_n, LTag_n, Yn, Nat.add_zero] at p0 p1
  refine Ret.post fun Q hQ => ?_
  refine Ret.enter plain Yo (spec_l3Room_fn _ _) (by kernel_rfl) (n := 1) (by kernel_rfl) rfl ?_
  cases h6 : decide (x.wait.length < 6)
  · rw [h6] at hQ
    simp only [decide_eq_false_iff_not] at h6
    simp (maxSteps := 1000000) (disch := first | assumption | omega | (simp only [World.size_alloc, size_setRow, Za] <;> omega) | (simp only [List.length_set, Array.length_toList, List.length_cons, List.length_nil, List.length_append, Zn] <;> omega) | (simp only [List.all_cons, List.all_nil, Value.oneCell', Bool.and_self, Bool.and_true]; done)) [-Option.bind_some, Zb, Zc, Zd, Zh, Ze, Zi, Zt, Zk, Zr, Zs, Yg, Yf, Yh, -Zl, -Zm, Ye, Ya, Yd, Zx, Zz, Zw, Zq, Zj, Zf, Zg, Zy, Yb, Yc, Zv, Zp, Zo, Zu, ia_23, hl0, show ¬ (x.wait.length : Int) < 6 by omega, p0, p1]
    exact hQ _ ⟨rfl, by (repeat (first | exact Ext.rfl | assumption | (refine Ext.al ?_ _) | (refine Ext.dw ?_) | (refine Ext.set ?_ (by first | omega | (simp only [World.size_alloc, size_setRow, Za]; omega)) _) | (refine Ext.tr ?_ (by assumption))))⟩
  · rw [h6] at hQ
    simp only [decide_eq_true_eq] at h6
    simp (maxSteps := 1000000) (disch := first | assumption | omega | (simp only [World.size_alloc, size_setRow, Za] <;> omega) | (simp only [List.length_set, Array.length_toList, List.length_cons, List.length_nil, List.length_append, Zn] <;> omega) | (simp only [List.all_cons, List.all_nil, Value.oneCell', Bool.and_self, Bool.and_true]; done)) [-Option.bind_some, Zb, Zc, Zd, Zh, Ze, Zi, Zt, Zk, Zr, Zs, Yg, Yf, Yh, -Zl, -Zm, Ye, Ya, Yd, Zx, Zz, Zw, Zq, Zj, Zf, Zg, Zy, Yb, Yc, Zv, Zp, Zo, Zu, ia_23, hl0, show (x.wait.length : Int) < 6 by omega, p0, p1]
    exact hQ _ ⟨rfl, by (repeat (first | exact Ext.rfl | assumption | (refine Ext.al ?_ _) | (refine Ext.dw ?_) | (refine Ext.set ?_ (by first | omega | (simp only [World.size_alloc, size_setRow, Za]; omega)) _) | (refine Ext.tr ?_ (by assumption))))⟩
theorem spec_l20Chain_n1 {B g b2 b3 W0 : Nat} (h23 : b2 ≠ b3) (hg2 : g < b2) (hg3 : g < b3) (h0 : W0 ≤ b2) (h03 : W0 ≤ b3) (hW0 : g < W0) :
    ∀ (n : Nat) (e : Env) (w : World) (p : Nat) (ns : List CNode) (a : Option Addr) (c : Nat) (S : Nat → Prop), n ≤ 11 → p + 50 * n ≤ 500000000000 → fitI ns → e 0 = pt g 0 → e 2 = pt b2 0 → e 3 = pt b3 0 → e 4 = i64 n →
      hp w b2 = some (.cells #[.slice none 0 0] 25 (0, 0)) →
      hp w b3 = some (.cells #[.slice a ns.length c] 25 (0, 0)) → O Yr S w [.slice a ns.length c] ns → (∀ b, S b → W0 ≤ b ∧ b ≠ b2 ∧ b ≠ b3) → R w B g p →
      Ret (spec_l20Chain_l1 e w) fun r => ∃ (ns' : List CNode) (a' : Option Addr) (c' p' : Nat), r.1 = .agg #[.slice a' ns'.length c'] ∧ O Yr (fun b => W0 ≤ b) r.2 [.slice a' ns'.length c'] ns' ∧ fitI ns' ∧ p' ≤ p + 50 * n ∧ R r.2 B g p' ∧ Mod (fun b => b = g ∨ W0 ≤ b) w r.2 := by
  intro n
  induction n with
  | zero =>
    intro e w p ns a c S hn hp0 hf e0 e2 e3 e4 X2 X3 ho hS hr
    rw [spec_l20Chain_l1_eq]
    have hl := hr.lt
    have y2 := Yq X2
    have y3 := Yq X3
    refine Ret.post fun Q hQ => ?_
    simp (maxSteps := 1000000) (disch := first | assumption | omega | (simp only [World.size_alloc, size_setRow, Za] <;> omega) | (simp only [List.length_set, Array.length_toList, List.length_cons, List.length_nil, List.length_append, Zn] <;> omega) | (simp only [List.all_cons, List.all_nil, Value.oneCell', Bool.and_self, Bool.and_true]; done)) [-Option.bind_some, Zb, Zc, Zd, Zh, Ze, Zi, Zt, Zk, Zr, Zs, Yg, Yf, Yh, -Zl, -Zm, Ye, Ya, Yd, Zx, Zz, Zw, Zq, Zj, Zf, Zg, Zy, Yb, Yc, Zv, Zp, Zo, Zu, e0, e2, e3, e4, X2, X3, e0, e2, e3, e4, X2, X3]
    refine Ret.bind (spec_l3Copy_n (ho.d.ext (by (repeat (first | exact Ext.rfl | assumption | (refine Ext.al ?_ _) | (refine Ext.dw ?_) | (refine Ext.set ?_ (by first | omega | (simp only [World.size_alloc, size_setRow, Za]; omega)) _) | (refine Ext.tr ?_ (by assumption))))))) ?_
    rintro ⟨_, w1⟩ ⟨a1, c1, rfl, o1, E1⟩
    try dsimp only at a1 c1 o1 E1
    have zE1 := E1.size
    try simp only [World.size_alloc, size_setRow, Za] at zE1
    have Y2 : hp w1 b2 = hp w b2 := (by first | assumption | rfl | (simp (maxSteps := 1000000) (disch := first | assumption | omega | (simp only [World.size_alloc, size_setRow, Za] <;> omega) | (simp only [List.length_set, Array.length_toList, List.length_cons, List.length_nil, List.length_append, Zn] <;> omega) | (simp only [List.all_cons, List.all_nil, Value.oneCell', Bool.and_self, Bool.and_true]; done)) [-Option.bind_some, Zb, Zc, Zd, Zh, Ze, Zi, Zt, Zk, Zr, Zs, Yg, Yf, Yh, e0, e2, e3, e4, X2, X3, E1.blk]; done))
    have Y3 : hp w1 b3 = hp w b3 := (by first | assumption | rfl | (simp (maxSteps := 1000000) (disch := first | assumption | omega | (simp only [World.size_alloc, size_setRow, Za] <;> omega) | (simp only [List.length_set, Array.length_toList, List.length_cons, List.length_nil, List.length_append, Zn] <;> omega) | (simp only [List.all_cons, List.all_nil, Value.oneCell', Bool.and_self, Bool.and_true]; done)) [-Option.bind_some, Zb, Zc, Zd, Zh, Ze, Zi, Zt, Zk, Zr, Zs, Yg, Yf, Yh, e0, e2, e3, e4, X2, X3, E1.blk]; done))
    simp (maxSteps := 1000000) (disch := first | assumption | omega | (simp only [World.size_alloc, size_setRow, Za] <;> omega) | (simp only [List.length_set, Array.length_toList, List.length_cons, List.length_nil, List.length_append, Zn] <;> omega) | (simp only [List.all_cons, List.all_nil, Value.oneCell', Bool.and_self, Bool.and_true]; done)) [-Option.bind_some, Zb, Zc, Zd, Zh, Ze, Zi, Zt, Zk, Zr, Zs, Yg, Yf, Yh, -Zl, -Zm, Ye, Ya, Yd, Zx, Zz, Zw, Zq, Zj, Zf, Zg, Zy, Yb, Yc, Zv, Zp, Zo, Zu, e0, e2, e3, e4, Y2, Y3, X2, X3, e0, e2, e3, e4, X2, X3, E1.blk]
    refine hQ _ ⟨ns, a1, c1, p, rfl, (o1.keep (fun b hb _ => ?_)).wide (fun b h _ => by simp only [In] at h; omega), hf, by omega, hr.keep (fun b h hb => ?_), (Mod.of (by (repeat (first | exact Ext.rfl | assumption | (refine Ext.al ?_ _) | (refine Ext.dw ?_) | (refine Ext.set ?_ (by first | omega | (simp only [World.size_alloc, size_setRow, Za]; omega)) _) | (refine Ext.tr ?_ (by assumption))))) _).set' (.inr (.inr h0)) _⟩
    · simp only [In] at hb
      exact Zd (by omega)
    · rw [Zd (by omega)]
      exact (by first | assumption | rfl | (simp (maxSteps := 1000000) (disch := first | assumption | omega | (simp only [World.size_alloc, size_setRow, Za] <;> omega) | (simp only [List.length_set, Array.length_toList, List.length_cons, List.length_nil, List.length_append, Zn] <;> omega) | (simp only [List.all_cons, List.all_nil, Value.oneCell', Bool.and_self, Bool.and_true]; done)) [-Option.bind_some, Zb, Zc, Zd, Zh, Ze, Zi, Zt, Zk, Zr, Zs, Yg, Yf, Yh, e0, e2, e3, e4, X2, X3, E1.blk]; done))
  | succ n ih =>
    intro e w p ns a c S hn hp0 hf e0 e2 e3 e4 X2 X3 ho hS hr
    rw [spec_l20Chain_l1_eq]
    have hl := hr.lt
    have y2 := Yq X2
    have y3 := Yq X3
    refine Ret.post fun Q hQ => ?_
    have nxt : ∀ (e' : Env) (W : World) (p' : Nat) (ns' : List CNode) (a' : Option Addr) (c' : Nat) (S' : Nat → Prop), e' 0 = pt g 0 → e' 2 = pt b2 0 → e' 3 = pt b3 0 → e' 4 = i64 ((n + 1 : Nat)) → hp W b2 = hp w b2 → hp W b3 = some (.cells #[.slice a' ns'.length c'] 25 (0, 0)) →
        O Yr S' W [.slice a' ns'.length c'] ns' → (∀ b, S' b → b < W.heap.size → W0 ≤ b ∧ b ≠ b2 ∧ b ≠ b3) → R W B g p' → p' ≤ p + 50 → fitI ns' → Mod (fun b => b = g ∨ W0 ≤ b) w W → Ret (spec_l20Chain_j2 e' W) Q := by
      intro e' W p' ns' a' c' S' f0 f2 f3 f4 U2 U3 ho' hS' hR hp' hf' hM
      rw [spec_l20Chain_j2_eq]
      have en : ((n + 1 : Nat) : Int) - 1 = (n : Int) := by omega
      simp (maxSteps := 1000000) (disch := first | assumption | omega | (simp only [World.size_alloc, size_setRow, Za] <;> omega) | (simp only [List.length_set, Array.length_toList, List.length_cons, List.length_nil, List.length_append, Zn] <;> omega) | (simp only [List.all_cons, List.all_nil, Value.oneCell', Bool.and_self, Bool.and_true]; done)) [-Option.bind_some, Zb, Zc, Zd, Zh, Ze, Zi, Zt, Zk, Zr, Zs, Yg, Yf, Yh, -Zl, -Zm, Ye, Ya, Yd, Zx, Zz, Zw, Zq, Zj, Zf, Zg, Zy, Yb, Yc, Zv, Zp, Zo, Zu, f4, en, e0, e2, e3, e4, X2, X3]
      refine Ret.mono (ih _ W p' ns' a' c' _ (by omega) (by omega) hf' (by first | omega | assumption | rfl | exact congrArg i64 (by omega) | (simp; done) | (simp; omega)) (by first | omega | assumption | rfl | exact congrArg i64 (by omega) | (simp; done) | (simp; omega)) (by first | omega | assumption | rfl | exact congrArg i64 (by omega) | (simp; done) | (simp; omega)) (by first | rfl | (simp [en]; done) | exact congrArg i64 (by omega)) (U2.trans X2) U3 ho'.lt (fun b h => hS' b h.1 h.2) hR) ?_
      rintro r ⟨ns2, a2, c2, p2, h1, h2, h3, h4, h5, h6⟩
      exact hQ _ ⟨ns2, a2, c2, p2, h1, h2, h3, by omega, h5, hM.tr h6⟩
    simp (maxSteps := 1000000) (disch := first | assumption | omega | (simp only [World.size_alloc, size_setRow, Za] <;> omega) | (simp only [List.length_set, Array.length_toList, List.length_cons, List.length_nil, List.length_append, Zn] <;> omega) | (simp only [List.all_cons, List.all_nil, Value.oneCell', Bool.and_self, Bool.and_true]; done)) [-Option.bind_some, Zb, Zc, Zd, Zh, Ze, Zi, Zt, Zk, Zr, Zs, Yg, Yf, Yh, -Zl, -Zm, Ye, Ya, Yd, Zx, Zz, Zw, Zq, Zj, Zf, Zg, Zy, Yb, Yc, Zv, Zp, Zo, Zu, e0, e2, e3, e4, X2, X3, show (0 : Int) < ((n + 1 : Nat) : Int) by omega, e0, e2, e3, e4, X2, X3]
    refine Ret.bind (Yl (k := 6) (by omega) (by omega) (by omega) hr) ?_
    rintro ⟨_, w1⟩ ⟨m, rfl, hm, R1, M1⟩
    have zM1 := M1.size
    try simp only [World.size_alloc, size_setRow, Za] at zM1
    try dsimp only at R1 M1
    have zM1 := M1.size
    have N1 : Mod (fun b => b = g ∨ W0 ≤ b) w w1 := M1.weak (fun b _ h => .inl h)
    have Y2 : hp w1 b2 = hp w b2 := M1.blk b2 (by omega) (by omega)
    have Y3 : hp w1 b3 = some (.cells #[.slice a ns.length c] 25 (0, 0)) := (M1.blk b3 (by omega) (by omega)).trans X3
    have o1 : O Yr (fun b => S b ∧ b < w.heap.size) w1 [.slice a ns.length c] ns := ho.lt.keep (fun b hb _ => M1.blk b hb.2 (by have := hS b hb.1; omega))
    have hS1 : ∀ b, S b ∧ b < w.heap.size → W0 ≤ b ∧ b ≠ b2 ∧ b ≠ b3 := fun b h => hS b h.1
    have l1 := R1.lt
    obtain ⟨x0, hx0, _⟩ := Yk (l := ns) (k := 0) hf.1
    have q0 := hf.2.2 x0 (List.mem_of_getElem? hx0)
    have y21 := y2
    have hns4 := hf.2.1
    have J1 : ∀ (e' : Env), e' 0 = pt g 0 → e' 2 = pt b2 0 → e' 3 = pt b3 0 → e' 4 = i64 ((n + 1 : Nat)) → e' 17 = i64 m → e' 26 = .bool (decide (m ≤ 1)) → Ret (spec_l20Chain_j1 e' w1) Q := by
      intro e' f0 f2 f3 f4 f17 f26
      rw [spec_l20Chain_j1_eq]
      by_cases h1 : m ≤ 1
      · simp (maxSteps := 1000000) (disch := first | assumption | omega | (simp only [World.size_alloc, size_setRow, Za] <;> omega) | (simp only [List.length_set, Array.length_toList, List.length_cons, List.length_nil, List.length_append, Zn] <;> omega) | (simp only [List.all_cons, List.all_nil, Value.oneCell', Bool.and_self, Bool.and_true]; done)) [-Option.bind_some, Zb, Zc, Zd, Zh, Ze, Zi, Zt, Zk, Zr, Zs, Yg, Yf, Yh, -Zl, -Zm, Ye, Ya, Yd, Zx, Zz, Zw, Zq, Zj, Zf, Zg, Zy, Yb, Yc, Zv, Zp, Zo, Zu, f0, f2, f3, f4, f17, f26, h1, Y3, e0, e2, e3, e4, X2, X3, M1.blk]
        refine Ret.bind (spec_l3Room_g hx0 o1.d) ?_
        rintro ⟨_, w2⟩ ⟨rfl, E2⟩
        try dsimp only at E2
        have zE2 := E2.size
        try simp only [World.size_alloc, size_setRow, Za] at zE2
        have Y32 : hp w2 b3 = _ := (E2.blk (by omega)).trans Y3
        have Y22 : hp w2 b2 = _ := (E2.blk (by omega)).trans Y2
        by_cases h6 : x0.wait.length < 6
        · simp (maxSteps := 1000000) (disch := first | assumption | omega | (simp only [World.size_alloc, size_setRow, Za] <;> omega) | (simp only [List.length_set, Array.length_toList, List.length_cons, List.length_nil, List.length_append, Zn] <;> omega) | (simp only [List.all_cons, List.all_nil, Value.oneCell', Bool.and_self, Bool.and_true]; done)) [-Option.bind_some, Zb, Zc, Zd, Zh, Ze, Zi, Zt, Zk, Zr, Zs, Yg, Yf, Yh, -Zl, -Zm, Ye, Ya, Yd, Zx, Zz, Zw, Zq, Zj, Zf, Zg, Zy, Yb, Yc, Zv, Zp, Zo, Zu, f0, f2, f3, f4, f17, f26, h6, Y32, e0, e2, e3, e4, X2, X3, M1.blk, E2.blk]
          refine Ret.bind (spec_l20Ver_m (by omega) (R1.ext (by (repeat (first | exact Ext.rfl | assumption | (refine Ext.al ?_ _) | (refine Ext.dw ?_) | (refine Ext.set ?_ (by first | omega | (simp only [World.size_alloc, size_setRow, Za]; omega)) _) | (refine Ext.tr ?_ (by assumption))))))) ?_
          rintro ⟨_, w3⟩ ⟨v, ds, p3, rfl, o3, k0, k3, hp4, hp3, R3, M3⟩
          have zM3 := M3.size
          try simp only [World.size_alloc, size_setRow, Za] at zM3
          try dsimp only at o3 R3 M3
          have zM3 := M3.size
          simp only [Za] at zM3 o3
          have Y33 : hp w3 b3 = _ := (M3.blk b3 (by (try simp only [In, World.size_alloc, size_setRow, Za] at *); omega) (by omega)).trans ((Ym _ _).trans Y32)
          have Y23 : hp w3 b2 = _ := (M3.blk b2 (by (try simp only [In, World.size_alloc, size_setRow, Za] at *); omega) (by omega)).trans ((Ym _ _).trans Y22)
          have oc3 : O Yr (fun b => S b ∧ b < w.heap.size) w3 [.slice a ns.length c] ns := o1.keep (fun b hb hs => (M3.blk b (by (try simp only [In, World.size_alloc, size_setRow, Za] at *); omega) (by have := hS1 b hb; omega)).trans ((Ym _ _).trans (E2.blk hs)))
          have N3 : Mod (fun b => b = g ∨ W0 ≤ b) w w3 := (N1.tr (Mod.of (E2.tr (dw_ext _)) _)).tr (M3.weak (fun b _ h => .inl h))
          simp (maxSteps := 1000000) (disch := first | assumption | omega | (simp only [World.size_alloc, size_setRow, Za] <;> omega) | (simp only [List.length_set, Array.length_toList, List.length_cons, List.length_nil, List.length_append, Zn] <;> omega) | (simp only [List.all_cons, List.all_nil, Value.oneCell', Bool.and_self, Bool.and_true]; done)) [-Option.bind_some, Zb, Zc, Zd, Zh, Ze, Zi, Zt, Zk, Zr, Zs, Yg, Yf, Yh, -Zl, -Zm, Ye, Ya, Yd, Zx, Zz, Zw, Zq, Zj, Zf, Zg, Zy, Yb, Yc, Zv, Zp, Zo, Zu, f0, f2, f3, f4, f17, f26, Y33, e0, e2, e3, e4, X2, X3, M1.blk, E2.blk, M3.blk]
          refine Ret.bind (spec_l3Add_n (i := 0) oc3 o3.d (fun b hb h1 h2 => by simp only [In] at h1; omega) hx0 k0 (by rw [q0.1]; omega) (by omega) (by omega)) ?_
          rintro ⟨_, w4⟩ ⟨rfl, o4, M4⟩
          have zM4 := M4.size
          try simp only [World.size_alloc, size_setRow, Za] at zM4
          try dsimp only at o4 M4
          have zM4 := M4.size
          have Y34 : hp w4 b3 = _ := (M4.blk b3 (by omega) (fun h => by have := hS1 _ h; omega)).trans Y33
          have Y24 : hp w4 b2 = _ := (M4.blk b2 (by omega) (fun h => by have := hS1 _ h; omega)).trans Y23
          have ha4 : (addAt ns 0 v).length = ns.length := addAt_length ns 0 v
          simp (maxSteps := 1000000) (disch := first | assumption | omega | (simp only [World.size_alloc, size_setRow, Za] <;> omega) | (simp only [List.length_set, Array.length_toList, List.length_cons, List.length_nil, List.length_append, Zn] <;> omega) | (simp only [List.all_cons, List.all_nil, Value.oneCell', Bool.and_self, Bool.and_true]; done)) [-Option.bind_some, Zb, Zc, Zd, Zh, Ze, Zi, Zt, Zk, Zr, Zs, Yg, Yf, Yh, -Zl, -Zm, Ye, Ya, Yd, Zx, Zz, Zw, Zq, Zj, Zf, Zg, Zy, Yb, Yc, Zv, Zp, Zo, Zu, f0, f2, f3, f4, f17, f26, Y34, e0, e2, e3, e4, X2, X3, M1.blk, E2.blk, M3.blk, M4.blk]
          refine nxt _ _ p3 (addAt ns 0 v) a c (fun b => (S b ∧ b < w.heap.size) ∨ In w3.heap.size w4.heap.size b) (by first | omega | assumption | rfl | exact congrArg i64 (by omega) | (simp; done) | (simp; omega)) (by first | omega | assumption | rfl | exact congrArg i64 (by omega) | (simp; done) | (simp; omega)) (by first | omega | assumption | rfl | exact congrArg i64 (by omega) | (simp; done) | (simp; omega)) (by first | omega | assumption | rfl | exact congrArg i64 (by omega) | (simp; done) | (simp; omega)) ((Zd (by omega)).trans Y24) ?_ ?_ ?_ (R3.keep (fun b h hb => (Zd (by omega)).trans (M4.blk b hb (fun h' => by have := hS1 b h'; omega)))) (by omega) (fitI_add hf hx0 h6 ⟨k0, k3⟩) ((N3.tr (M4.weak (fun b _ h => .inr (hS1 b h).1))).set' (.inr (.inr h03)) _)
          · rw [ha4]
            exact (by first | assumption | rfl | (simp (maxSteps := 1000000) (disch := first | assumption | omega | (simp only [World.size_alloc, size_setRow, Za] <;> omega) | (simp only [List.length_set, Array.length_toList, List.length_cons, List.length_nil, List.length_append, Zn] <;> omega) | (simp only [List.all_cons, List.all_nil, Value.oneCell', Bool.and_self, Bool.and_true]; done)) [-Option.bind_some, Zb, Zc, Zd, Zh, Ze, Zi, Zt, Zk, Zr, Zs, Yg, Yf, Yh, -Zl, -Zm, Ye, Ya, Yd, Zx, Zz, Zw, Zq, Zj, Zf, Zg, Zy, Yb, Yc, Zv, Zp, Zo, Zu, Y34, e0, e2, e3, e4, X2, X3, M1.blk, E2.blk, M3.blk, M4.blk]; done))
          · rw [ha4]
            exact o4.keep (fun b hb _ => Zd (by rcases hb with h | h; exact (hS1 b h).2.2; simp only [In] at h; omega))
          · intro b hb _
            rcases hb with h | h
            · exact hS1 b h
            · simp only [In] at h
              omega
        · simp (maxSteps := 1000000) (disch := first | assumption | omega | (simp only [World.size_alloc, size_setRow, Za] <;> omega) | (simp only [List.length_set, Array.length_toList, List.length_cons, List.length_nil, List.length_append, Zn] <;> omega) | (simp only [List.all_cons, List.all_nil, Value.oneCell', Bool.and_self, Bool.and_true]; done)) [-Option.bind_some, Zb, Zc, Zd, Zh, Ze, Zi, Zt, Zk, Zr, Zs, Yg, Yf, Yh, -Zl, -Zm, Ye, Ya, Yd, Zx, Zz, Zw, Zq, Zj, Zf, Zg, Zy, Yb, Yc, Zv, Zp, Zo, Zu, f0, f2, f3, f4, f17, f26, h6, Y32, e0, e2, e3, e4, X2, X3, M1.blk, E2.blk]
          exact nxt _ _ (p + 1) ns a c _ (by first | omega | assumption | rfl | exact congrArg i64 (by omega) | (simp; done) | (simp; omega)) (by first | omega | assumption | rfl | exact congrArg i64 (by omega) | (simp; done) | (simp; omega)) (by first | omega | assumption | rfl | exact congrArg i64 (by omega) | (simp; done) | (simp; omega)) (by first | omega | assumption | rfl | exact congrArg i64 (by omega) | (simp; done) | (simp; omega)) Y22 Y32 (o1.keep (fun b hb hs => E2.blk hs)) (fun b h _ => hS1 b h) (R1.ext E2) (by omega) hf (N1.tr (Mod.of E2 _))
      have g1 : ¬ m ≤ 1 := h1
      by_cases h2 : m = 2
      · subst h2
        by_cases hl1 : 1 < ns.length
        · simp (maxSteps := 1000000) (disch := first | assumption | omega | (simp only [World.size_alloc, size_setRow, Za] <;> omega) | (simp only [List.length_set, Array.length_toList, List.length_cons, List.length_nil, List.length_append, Zn] <;> omega) | (simp only [List.all_cons, List.all_nil, Value.oneCell', Bool.and_self, Bool.and_true]; done)) [-Option.bind_some, Zb, Zc, Zd, Zh, Ze, Zi, Zt, Zk, Zr, Zs, Yg, Yf, Yh, -Zl, -Zm, Ye, Ya, Yd, Zx, Zz, Zw, Zq, Zj, Zf, Zg, Zy, Yb, Yc, Zv, Zp, Zo, Zu, f0, f2, f3, f4, f17, f26, Y3, hl1, show (1 : Int) < ns.length by omega, e0, e2, e3, e4, X2, X3, M1.blk]
          refine Ret.bind (Yl (k := ns.length) (by omega) (by omega) (by omega) (R1.ext (by (repeat (first | exact Ext.rfl | assumption | (refine Ext.al ?_ _) | (refine Ext.dw ?_) | (refine Ext.set ?_ (by first | omega | (simp only [World.size_alloc, size_setRow, Za]; omega)) _) | (refine Ext.tr ?_ (by assumption))))))) ?_
          rintro ⟨_, w2⟩ ⟨k, rfl, hk, R2, M2⟩
          have zM2 := M2.size
          try simp only [World.size_alloc, size_setRow, Za] at zM2
          try dsimp only at R2 M2
          have zM2 := M2.size
          simp only [Za] at zM2
          have Y32 : hp w2 b3 = _ := (M2.blk b3 (by (try simp only [In, World.size_alloc, size_setRow, Za] at *); omega) (by omega)).trans ((Ym _ _).trans Y3)
          have Y22 : hp w2 b2 = _ := (M2.blk b2 (by (try simp only [In, World.size_alloc, size_setRow, Za] at *); omega) (by omega)).trans ((Ym _ _).trans Y2)
          have oc2 : O Yr (fun b => S b ∧ b < w.heap.size) w2 [.slice a ns.length c] ns := o1.keep (fun b hb hs => (M2.blk b (by (try simp only [In, World.size_alloc, size_setRow, Za] at *); omega) (by have := hS1 b hb; omega)).trans (Ym _ _))
          have N2 : Mod (fun b => b = g ∨ W0 ≤ b) w w2 := (N1.tr (Mod.of (dw_ext _) _)).tr (M2.weak (fun b _ h => .inl h))
          simp (maxSteps := 1000000) (disch := first | assumption | omega | (simp only [World.size_alloc, size_setRow, Za] <;> omega) | (simp only [List.length_set, Array.length_toList, List.length_cons, List.length_nil, List.length_append, Zn] <;> omega) | (simp only [List.all_cons, List.all_nil, Value.oneCell', Bool.and_self, Bool.and_true]; done)) [-Option.bind_some, Zb, Zc, Zd, Zh, Ze, Zi, Zt, Zk, Zr, Zs, Yg, Yf, Yh, -Zl, -Zm, Ye, Ya, Yd, Zx, Zz, Zw, Zq, Zj, Zf, Zg, Zy, Yb, Yc, Zv, Zp, Zo, Zu, f0, f2, f3, f4, f17, f26, Y32, e0, e2, e3, e4, X2, X3, M1.blk, M2.blk]
          refine Ret.bind (spec_l3Fall_m hl1 (by omega) hk hf.2.2 oc2) ?_
          rintro ⟨_, w4⟩ ⟨ms, a4, c4, rfl, o4, hml, hmf, M4⟩
          have zM4 := M4.size
          try simp only [World.size_alloc, size_setRow, Za] at zM4
          try dsimp only at o4 M4
          have zM4 := M4.size
          have Y34 : hp w4 b3 = _ := (M4.blk b3 (by omega) (fun h => by have := hS1 _ h; omega)).trans Y32
          have Y24 : hp w4 b2 = _ := (M4.blk b2 (by omega) (fun h => by have := hS1 _ h; omega)).trans Y22
          simp (maxSteps := 1000000) (disch := first | assumption | omega | (simp only [World.size_alloc, size_setRow, Za] <;> omega) | (simp only [List.length_set, Array.length_toList, List.length_cons, List.length_nil, List.length_append, Zn] <;> omega) | (simp only [List.all_cons, List.all_nil, Value.oneCell', Bool.and_self, Bool.and_true]; done)) [-Option.bind_some, Zb, Zc, Zd, Zh, Ze, Zi, Zt, Zk, Zr, Zs, Yg, Yf, Yh, -Zl, -Zm, Ye, Ya, Yd, Zx, Zz, Zw, Zq, Zj, Zf, Zg, Zy, Yb, Yc, Zv, Zp, Zo, Zu, f0, f2, f3, f4, f17, f26, Y34, e0, e2, e3, e4, X2, X3, M1.blk, M2.blk, M4.blk]
          refine nxt _ _ (p + 1 + 1) ms a4 c4 (fun b => (S b ∧ b < w.heap.size) ∨ In w2.heap.size w4.heap.size b) (by first | omega | assumption | rfl | exact congrArg i64 (by omega) | (simp; done) | (simp; omega)) (by first | omega | assumption | rfl | exact congrArg i64 (by omega) | (simp; done) | (simp; omega)) (by first | omega | assumption | rfl | exact congrArg i64 (by omega) | (simp; done) | (simp; omega)) (by first | omega | assumption | rfl | exact congrArg i64 (by omega) | (simp; done) | (simp; omega)) ((Zd (by omega)).trans Y24) (by first | assumption | rfl | (simp (maxSteps := 1000000) (disch := first | assumption | omega | (simp only [World.size_alloc, size_setRow, Za] <;> omega) | (simp only [List.length_set, Array.length_toList, List.length_cons, List.length_nil, List.length_append, Zn] <;> omega) | (simp only [List.all_cons, List.all_nil, Value.oneCell', Bool.and_self, Bool.and_true]; done)) [-Option.bind_some, Zb, Zc, Zd, Zh, Ze, Zi, Zt, Zk, Zr, Zs, Yg, Yf, Yh, -Zl, -Zm, Ye, Ya, Yd, Zx, Zz, Zw, Zq, Zj, Zf, Zg, Zy, Yb, Yc, Zv, Zp, Zo, Zu, Y34, e0, e2, e3, e4, X2, X3, M1.blk, M2.blk, M4.blk]; done)) (o4.keep (fun b hb _ => Zd (by rcases hb with h | h; exact (hS1 b h).2.2; simp only [In] at h; omega))) ?_ (R2.keep (fun b h hb => (Zd (by omega)).trans (M4.blk b hb (fun h' => by have := hS1 b h'; omega)))) (by omega) ⟨by omega, by omega, hmf⟩ ((N2.tr (M4.weak (fun b _ h => .inr (hS1 b h).1))).set' (.inr (.inr h03)) _)
          intro b hb _
          rcases hb with h | h
          · exact hS1 b h
          · simp only [In] at h
            omega
        · simp (maxSteps := 1000000) (disch := first | assumption | omega | (simp only [World.size_alloc, size_setRow, Za] <;> omega) | (simp only [List.length_set, Array.length_toList, List.length_cons, List.length_nil, List.length_append, Zn] <;> omega) | (simp only [List.all_cons, List.all_nil, Value.oneCell', Bool.and_self, Bool.and_true]; done)) [-Option.bind_some, Zb, Zc, Zd, Zh, Ze, Zi, Zt, Zk, Zr, Zs, Yg, Yf, Yh, -Zl, -Zm, Ye, Ya, Yd, Zx, Zz, Zw, Zq, Zj, Zf, Zg, Zy, Yb, Yc, Zv, Zp, Zo, Zu, f0, f2, f3, f4, f17, f26, Y3, hl1, show ¬ (1 : Int) < ns.length by omega, e0, e2, e3, e4, X2, X3, M1.blk]
          exact nxt _ _ (p + 1) ns a c _ (by first | omega | assumption | rfl | exact congrArg i64 (by omega) | (simp; done) | (simp; omega)) (by first | omega | assumption | rfl | exact congrArg i64 (by omega) | (simp; done) | (simp; omega)) (by first | omega | assumption | rfl | exact congrArg i64 (by omega) | (simp; done) | (simp; omega)) (by first | omega | assumption | rfl | exact congrArg i64 (by omega) | (simp; done) | (simp; omega)) Y2 Y3 o1 (fun b h _ => hS1 b h) R1 (by omega) hf N1
      have g2 : ((m : Int) == 2) = false := by rw [beq_eq_false_iff_ne]; omega
      by_cases h3 : m = 3
      · subst h3
        by_cases hl4 : ns.length < 4
        · simp (maxSteps := 1000000) (disch := first | assumption | omega | (simp only [World.size_alloc, size_setRow, Za] <;> omega) | (simp only [List.length_set, Array.length_toList, List.length_cons, List.length_nil, List.length_append, Zn] <;> omega) | (simp only [List.all_cons, List.all_nil, Value.oneCell', Bool.and_self, Bool.and_true]; done)) [-Option.bind_some, Zb, Zc, Zd, Zh, Ze, Zi, Zt, Zk, Zr, Zs, Yg, Yf, Yh, -Zl, -Zm, Ye, Ya, Yd, Zx, Zz, Zw, Zq, Zj, Zf, Zg, Zy, Yb, Yc, Zv, Zp, Zo, Zu, f0, f2, f3, f4, f17, f26, Y3, hl4, show (ns.length : Int) < 4 by omega, e0, e2, e3, e4, X2, X3, M1.blk]
          refine Ret.bind (spec_l3Join_n hf.1 hl4 o1) ?_
          rintro ⟨_, w4⟩ ⟨a4, c4, rfl, o4, M4⟩
          have zM4 := M4.size
          try simp only [World.size_alloc, size_setRow, Za] at zM4
          try dsimp only at o4 M4
          have zM4 := M4.size
          have Y34 : hp w4 b3 = _ := (M4.blk b3 (by omega) (fun h => by have := hS1 _ h; omega)).trans Y3
          have Y24 : hp w4 b2 = _ := (M4.blk b2 (by omega) (fun h => by have := hS1 _ h; omega)).trans Y2
          simp (maxSteps := 1000000) (disch := first | assumption | omega | (simp only [World.size_alloc, size_setRow, Za] <;> omega) | (simp only [List.length_set, Array.length_toList, List.length_cons, List.length_nil, List.length_append, Zn] <;> omega) | (simp only [List.all_cons, List.all_nil, Value.oneCell', Bool.and_self, Bool.and_true]; done)) [-Option.bind_some, Zb, Zc, Zd, Zh, Ze, Zi, Zt, Zk, Zr, Zs, Yg, Yf, Yh, -Zl, -Zm, Ye, Ya, Yd, Zx, Zz, Zw, Zq, Zj, Zf, Zg, Zy, Yb, Yc, Zv, Zp, Zo, Zu, f0, f2, f3, f4, f17, f26, Y34, e0, e2, e3, e4, X2, X3, M1.blk, M4.blk]
          refine nxt _ _ (p + 1) (joined ns) a4 c4 (fun b => (S b ∧ b < w.heap.size) ∨ In w1.heap.size w4.heap.size b) (by first | omega | assumption | rfl | exact congrArg i64 (by omega) | (simp; done) | (simp; omega)) (by first | omega | assumption | rfl | exact congrArg i64 (by omega) | (simp; done) | (simp; omega)) (by first | omega | assumption | rfl | exact congrArg i64 (by omega) | (simp; done) | (simp; omega)) (by first | omega | assumption | rfl | exact congrArg i64 (by omega) | (simp; done) | (simp; omega)) ((Zd (by omega)).trans Y24) (by first | assumption | rfl | (simp (maxSteps := 1000000) (disch := first | assumption | omega | (simp only [World.size_alloc, size_setRow, Za] <;> omega) | (simp only [List.length_set, Array.length_toList, List.length_cons, List.length_nil, List.length_append, Zn] <;> omega) | (simp only [List.all_cons, List.all_nil, Value.oneCell', Bool.and_self, Bool.and_true]; done)) [-Option.bind_some, Zb, Zc, Zd, Zh, Ze, Zi, Zt, Zk, Zr, Zs, Yg, Yf, Yh, -Zl, -Zm, Ye, Ya, Yd, Zx, Zz, Zw, Zq, Zj, Zf, Zg, Zy, Yb, Yc, Zv, Zp, Zo, Zu, Y34, e0, e2, e3, e4, X2, X3, M1.blk, M4.blk]; done)) (o4.keep (fun b hb _ => Zd (by rcases hb with h | h; exact (hS1 b h).2.2; simp only [In] at h; omega))) ?_ (R1.keep (fun b h hb => (Zd (by omega)).trans (M4.blk b hb (fun h' => by have := hS1 b h'; omega)))) (by omega) (fitI_join hf hl4) ((N1.tr (M4.weak (fun b _ h => .inr (hS1 b h).1))).set' (.inr (.inr h03)) _)
          intro b hb _
          rcases hb with h | h
          · exact hS1 b h
          · simp only [In] at h
            omega
        · simp (maxSteps := 1000000) (disch := first | assumption | omega | (simp only [World.size_alloc, size_setRow, Za] <;> omega) | (simp only [List.length_set, Array.length_toList, List.length_cons, List.length_nil, List.length_append, Zn] <;> omega) | (simp only [List.all_cons, List.all_nil, Value.oneCell', Bool.and_self, Bool.and_true]; done)) [-Option.bind_some, Zb, Zc, Zd, Zh, Ze, Zi, Zt, Zk, Zr, Zs, Yg, Yf, Yh, -Zl, -Zm, Ye, Ya, Yd, Zx, Zz, Zw, Zq, Zj, Zf, Zg, Zy, Yb, Yc, Zv, Zp, Zo, Zu, f0, f2, f3, f4, f17, f26, Y3, hl4, show ¬ (ns.length : Int) < 4 by omega, e0, e2, e3, e4, X2, X3, M1.blk]
          exact nxt _ _ (p + 1) ns a c _ (by first | omega | assumption | rfl | exact congrArg i64 (by omega) | (simp; done) | (simp; omega)) (by first | omega | assumption | rfl | exact congrArg i64 (by omega) | (simp; done) | (simp; omega)) (by first | omega | assumption | rfl | exact congrArg i64 (by omega) | (simp; done) | (simp; omega)) (by first | omega | assumption | rfl | exact congrArg i64 (by omega) | (simp; done) | (simp; omega)) Y2 Y3 o1 (fun b h _ => hS1 b h) R1 (by omega) hf N1
      have g3 : ((m : Int) == 3) = false := by rw [beq_eq_false_iff_ne]; omega
      simp (maxSteps := 1000000) (disch := first | assumption | omega | (simp only [World.size_alloc, size_setRow, Za] <;> omega) | (simp only [List.length_set, Array.length_toList, List.length_cons, List.length_nil, List.length_append, Zn] <;> omega) | (simp only [List.all_cons, List.all_nil, Value.oneCell', Bool.and_self, Bool.and_true]; done)) [-Option.bind_some, Zb, Zc, Zd, Zh, Ze, Zi, Zt, Zk, Zr, Zs, Yg, Yf, Yh, -Zl, -Zm, Ye, Ya, Yd, Zx, Zz, Zw, Zq, Zj, Zf, Zg, Zy, Yb, Yc, Zv, Zp, Zo, Zu, f0, f2, f3, f4, f17, f26, Y3, g1, g2, g3, e0, e2, e3, e4, X2, X3, M1.blk]
      refine Ret.bind (Yl (k := 4) (by omega) (by omega) (by omega) R1) ?_
      rintro ⟨_, w2⟩ ⟨k, rfl, hk, R2, M2⟩
      have zM2 := M2.size
      try simp only [World.size_alloc, size_setRow, Za] at zM2
      try dsimp only at R2 M2
      have zM2 := M2.size
      have Y32 : hp w2 b3 = _ := (M2.blk b3 (by omega) (by omega)).trans Y3
      have Y22 : hp w2 b2 = _ := (M2.blk b2 (by omega) (by omega)).trans Y2
      have oc2 : O Yr (fun b => S b ∧ b < w.heap.size) w2 [.slice a ns.length c] ns := o1.keep (fun b hb hs => M2.blk b (by omega) (by have := hS1 b hb; omega))
      have N2 : Mod (fun b => b = g ∨ W0 ≤ b) w w2 := N1.tr (M2.weak (fun b _ h => .inl h))
      simp (maxSteps := 1000000) (disch := first | assumption | omega | (simp only [World.size_alloc, size_setRow, Za] <;> omega) | (simp only [List.length_set, Array.length_toList, List.length_cons, List.length_nil, List.length_append, Zn] <;> omega) | (simp only [List.all_cons, List.all_nil, Value.oneCell', Bool.and_self, Bool.and_true]; done)) [-Option.bind_some, Zb, Zc, Zd, Zh, Ze, Zi, Zt, Zk, Zr, Zs, Yg, Yf, Yh, -Zl, -Zm, Ye, Ya, Yd, Zx, Zz, Zw, Zq, Zj, Zf, Zg, Zy, Yb, Yc, Zv, Zp, Zo, Zu, f0, f2, f3, f4, f17, f26, Y32, e0, e2, e3, e4, X2, X3, M1.blk, M2.blk]
      refine Ret.bind (spec_l3Can_m (i := (k : Int)) (by omega) oc2.d) ?_
      rintro ⟨_, w3⟩ ⟨rfl, E3⟩
      try dsimp only at E3
      have zE3 := E3.size
      try simp only [World.size_alloc, size_setRow, Za] at zE3
      have Y33 : hp w3 b3 = _ := (E3.blk (by omega)).trans Y32
      have Y23 : hp w3 b2 = _ := (E3.blk (by omega)).trans Y22
      have oc3 := oc2.keep (w' := w3) (fun b hb hs => E3.blk hs)
      cases hc : canPass ns k
      · simp (maxSteps := 1000000) (disch := first | assumption | omega | (simp only [World.size_alloc, size_setRow, Za] <;> omega) | (simp only [List.length_set, Array.length_toList, List.length_cons, List.length_nil, List.length_append, Zn] <;> omega) | (simp only [List.all_cons, List.all_nil, Value.oneCell', Bool.and_self, Bool.and_true]; done)) [-Option.bind_some, Zb, Zc, Zd, Zh, Ze, Zi, Zt, Zk, Zr, Zs, Yg, Yf, Yh, -Zl, -Zm, Ye, Ya, Yd, Zx, Zz, Zw, Zq, Zj, Zf, Zg, Zy, Yb, Yc, Zv, Zp, Zo, Zu, f0, f2, f3, f4, f17, f26, Y33, e0, e2, e3, e4, X2, X3, M1.blk, M2.blk, E3.blk]
        exact nxt _ _ (p + 1 + 1) ns a c _ (by first | omega | assumption | rfl | exact congrArg i64 (by omega) | (simp; done) | (simp; omega)) (by first | omega | assumption | rfl | exact congrArg i64 (by omega) | (simp; done) | (simp; omega)) (by first | omega | assumption | rfl | exact congrArg i64 (by omega) | (simp; done) | (simp; omega)) (by first | omega | assumption | rfl | exact congrArg i64 (by omega) | (simp; done) | (simp; omega)) Y23 Y33 oc3 (fun b h _ => hS1 b h) (R2.ext E3) (by omega) hf (N2.tr (Mod.of E3 _))
      · simp (maxSteps := 1000000) (disch := first | assumption | omega | (simp only [World.size_alloc, size_setRow, Za] <;> omega) | (simp only [List.length_set, Array.length_toList, List.length_cons, List.length_nil, List.length_append, Zn] <;> omega) | (simp only [List.all_cons, List.all_nil, Value.oneCell', Bool.and_self, Bool.and_true]; done)) [-Option.bind_some, Zb, Zc, Zd, Zh, Ze, Zi, Zt, Zk, Zr, Zs, Yg, Yf, Yh, -Zl, -Zm, Ye, Ya, Yd, Zx, Zz, Zw, Zq, Zj, Zf, Zg, Zy, Yb, Yc, Zv, Zp, Zo, Zu, f0, f2, f3, f4, f17, f26, Y33, e0, e2, e3, e4, X2, X3, M1.blk, M2.blk, E3.blk]
        obtain ⟨k', x, y, v, l, hkk, hk1, hx, hy, hxw, hy6⟩ := canPass_parts hc
        obtain rfl : k = k' := by omega
        have qx := hf.2.2 x (List.mem_of_getElem? hx)
        have qy := hf.2.2 y (List.mem_of_getElem? hy)
        refine Ret.bind (spec_l3Pass_g (by omega) (qx.2.2.2 v (by rw [hxw]; exact List.mem_cons_self)) qy.1 hx hy hxw hy6 oc3) ?_
        rintro ⟨_, w4⟩ ⟨rfl, o4, M4⟩
        have zM4 := M4.size
        try simp only [World.size_alloc, size_setRow, Za] at zM4
        try dsimp only at o4 M4
        have zM4 := M4.size
        have zE3' := E3.size
        have Y34 : hp w4 b3 = _ := (M4.blk b3 (by omega) (fun h => by have := hS1 _ h; omega)).trans Y33
        have Y24 : hp w4 b2 = _ := (M4.blk b2 (by omega) (fun h => by have := hS1 _ h; omega)).trans Y23
        have ha4 : (passAt ns k).length = ns.length := by rw [passAt_eq hx hxw, addAt_length, List.length_set]
        simp (maxSteps := 1000000) (disch := first | assumption | omega | (simp only [World.size_alloc, size_setRow, Za] <;> omega) | (simp only [List.length_set, Array.length_toList, List.length_cons, List.length_nil, List.length_append, Zn] <;> omega) | (simp only [List.all_cons, List.all_nil, Value.oneCell', Bool.and_self, Bool.and_true]; done)) [-Option.bind_some, Zb, Zc, Zd, Zh, Ze, Zi, Zt, Zk, Zr, Zs, Yg, Yf, Yh, -Zl, -Zm, Ye, Ya, Yd, Zx, Zz, Zw, Zq, Zj, Zf, Zg, Zy, Yb, Yc, Zv, Zp, Zo, Zu, f0, f2, f3, f4, f17, f26, Y34, e0, e2, e3, e4, X2, X3, M1.blk, M2.blk, E3.blk, M4.blk]
        refine nxt _ _ (p + 1 + 1) (passAt ns k) a c (fun b => (S b ∧ b < w.heap.size) ∨ In w3.heap.size w4.heap.size b) (by first | omega | assumption | rfl | exact congrArg i64 (by omega) | (simp; done) | (simp; omega)) (by first | omega | assumption | rfl | exact congrArg i64 (by omega) | (simp; done) | (simp; omega)) (by first | omega | assumption | rfl | exact congrArg i64 (by omega) | (simp; done) | (simp; omega)) (by first | omega | assumption | rfl | exact congrArg i64 (by omega) | (simp; done) | (simp; omega)) ((Zd (by omega)).trans Y24) ?_ ?_ ?_ (R2.keep (fun b h hb => (Zd (by omega)).trans ((M4.blk b (by omega) (fun h' => by have := hS1 b h'; omega)).trans (E3.blk hb)))) (by omega) (fitI_pass hf hx hy hxw hy6) (((N2.tr (Mod.of E3 _)).tr (M4.weak (fun b _ h => .inr (hS1 b h).1))).set' (.inr (.inr h03)) _)
        · rw [ha4]
          exact (by first | assumption | rfl | (simp (maxSteps := 1000000) (disch := first | assumption | omega | (simp only [World.size_alloc, size_setRow, Za] <;> omega) | (simp only [List.length_set, Array.length_toList, List.length_cons, List.length_nil, List.length_append, Zn] <;> omega) | (simp only [List.all_cons, List.all_nil, Value.oneCell', Bool.and_self, Bool.and_true]; done)) [-Option.bind_some, Zb, Zc, Zd, Zh, Ze, Zi, Zt, Zk, Zr, Zs, Yg, Yf, Yh, -Zl, -Zm, Ye, Ya, Yd, Zx, Zz, Zw, Zq, Zj, Zf, Zg, Zy, Yb, Yc, Zv, Zp, Zo, Zu, Y34, e0, e2, e3, e4, X2, X3, M1.blk, M2.blk, E3.blk, M4.blk]; done))
        · rw [ha4]
          exact o4.keep (fun b hb _ => Zd (by rcases hb with h | h; exact (hS1 b h).2.2; simp only [In] at h; omega))
        · intro b hb _
          rcases hb with h | h
          · exact hS1 b h
          · simp only [In] at h
            omega
    by_cases m0 : m = 0
    · subst m0
      simp (maxSteps := 1000000) (disch := first | assumption | omega | (simp only [World.size_alloc, size_setRow, Za] <;> omega) | (simp only [List.length_set, Array.length_toList, List.length_cons, List.length_nil, List.length_append, Zn] <;> omega) | (simp only [List.all_cons, List.all_nil, Value.oneCell', Bool.and_self, Bool.and_true]; done)) [-Option.bind_some, Zb, Zc, Zd, Zh, Ze, Zi, Zt, Zk, Zr, Zs, Yg, Yf, Yh, -Zl, -Zm, Ye, Ya, Yd, Zx, Zz, Zw, Zq, Zj, Zf, Zg, Zy, Yb, Yc, Zv, Zp, Zo, Zu, e0, e0, e2, e3, e4, X2, X3, M1.blk]
      exact J1 _ (by first | omega | assumption | rfl | exact congrArg i64 (by omega) | (simp; done) | (simp; omega)) (by first | omega | assumption | rfl | exact congrArg i64 (by omega) | (simp; done) | (simp; omega)) (by first | omega | assumption | rfl | exact congrArg i64 (by omega) | (simp; done) | (simp; omega)) (by first | omega | assumption | rfl | exact congrArg i64 (by omega) | (simp; done) | (simp; omega)) (by first | omega | assumption | rfl | exact congrArg i64 (by omega) | (simp; done) | (simp; omega)) (by first | omega | assumption | rfl | exact congrArg i64 (by omega) | (simp; done) | (simp; omega))
    have g0 : ((m : Int) == 0) = false := by rw [beq_eq_false_iff_ne]; omega
    by_cases m1 : m = 1
    · subst m1
      simp (maxSteps := 1000000) (disch := first | assumption | omega | (simp only [World.size_alloc, size_setRow, Za] <;> omega) | (simp only [List.length_set, Array.length_toList, List.length_cons, List.length_nil, List.length_append, Zn] <;> omega) | (simp only [List.all_cons, List.all_nil, Value.oneCell', Bool.and_self, Bool.and_true]; done)) [-Option.bind_some, Zb, Zc, Zd, Zh, Ze, Zi, Zt, Zk, Zr, Zs, Yg, Yf, Yh, -Zl, -Zm, Ye, Ya, Yd, Zx, Zz, Zw, Zq, Zj, Zf, Zg, Zy, Yb, Yc, Zv, Zp, Zo, Zu, e0, e0, e2, e3, e4, X2, X3, M1.blk]
      exact J1 _ (by first | omega | assumption | rfl | exact congrArg i64 (by omega) | (simp; done) | (simp; omega)) (by first | omega | assumption | rfl | exact congrArg i64 (by omega) | (simp; done) | (simp; omega)) (by first | omega | assumption | rfl | exact congrArg i64 (by omega) | (simp; done) | (simp; omega)) (by first | omega | assumption | rfl | exact congrArg i64 (by omega) | (simp; done) | (simp; omega)) (by first | omega | assumption | rfl | exact congrArg i64 (by omega) | (simp; done) | (simp; omega)) (by first | omega | assumption | rfl | exact congrArg i64 (by omega) | (simp; done) | (simp; omega))
    have g1 : ((m : Int) == 1) = false := by rw [beq_eq_false_iff_ne]; omega
    simp (maxSteps := 1000000) (disch := first | assumption | omega | (simp only [World.size_alloc, size_setRow, Za] <;> omega) | (simp only [List.length_set, Array.length_toList, List.length_cons, List.length_nil, List.length_append, Zn] <;> omega) | (simp only [List.all_cons, List.all_nil, Value.oneCell', Bool.and_self, Bool.and_true]; done)) [-Option.bind_some, Zb, Zc, Zd, Zh, Ze, Zi, Zt, Zk, Zr, Zs, Yg, Yf, Yh, -Zl, -Zm, Ye, Ya, Yd, Zx, Zz, Zw, Zq, Zj, Zf, Zg, Zy, Yb, Yc, Zv, Zp, Zo, Zu, e0, g0, g1, e0, e2, e3, e4, X2, X3, M1.blk]
    exact J1 _ (by first | omega | assumption | rfl | exact congrArg i64 (by omega) | (simp; done) | (simp; omega)) (by first | omega | assumption | rfl | exact congrArg i64 (by omega) | (simp; done) | (simp; omega)) (by first | omega | assumption | rfl | exact congrArg i64 (by omega) | (simp; done) | (simp; omega)) (by first | omega | assumption | rfl | exact congrArg i64 (by omega) | (simp; done) | (simp; omega)) (by first | omega | assumption | rfl | exact congrArg i64 (by omega) | (simp; done) | (simp; omega)) (by show Value.bool false = _; simp; omega)
end Go.Proofs.YtjagkbamkohnoaaGreat.X
set_option linter.unusedVariables false
set_option linter.unusedSimpArgs false
set_option maxRecDepth 100000
set_option maxHeartbeats 1000000
namespace Go.Proofs.YtjagkbamkohnoaaGreat.X
open Go Go.Ev Go.RowKit
theorem spec_l20Chain_m {B g p : Nat} (hp0 : p ≤ 400000000000) {w : World} (hr : R w B g p) :
    Ret (EV P 39 #[pt g 0] w) fun r => ∃ (ns : List CNode) (a : Option Addr) (c p' : Nat), r.1 = .agg #[.slice a ns.length c] ∧ O Yr (fun b => w.heap.size ≤ b) r.2 [.slice a ns.length c] ns ∧ fitI ns ∧ p' ≤ p + 1000 ∧ R r.2 B g p' ∧ Mod (fun b => b = g) w r.2 := by
  have hl := hr.lt
  refine Ret.post fun Q hQ => ?_
  refine Ret.enter plain Yo (spec_l20Chain_fn _ _) (by kernel_rfl) (n := 1) (by kernel_rfl) rfl ?_
  simp (maxSteps := 1000000) (disch := first | assumption | omega | (simp only [World.size_alloc, size_setRow, Za] <;> omega) | (simp only [List.length_set, Array.length_toList, List.length_cons, List.length_nil, List.length_append, Zn] <;> omega) | (simp only [List.all_cons, List.all_nil, Value.oneCell', Bool.and_self, Bool.and_true]; done)) [-Option.bind_some, Zb, Zc, Zd, Zh, Ze, Zi, Zt, Zk, Zr, Zs, Yg, Yf, Yh, -Zl, -Zm, Ye, Ya, Yd, Zx, Zz, Zw, Zq, Zj, Zf, Zg, Zy, Yb, Yc, Zv, Zp, Zo, Zu]
  refine Ret.bind (Yl (k := 4) (by omega) (by omega) (by omega) (hr.ext (by (repeat (first | exact Ext.rfl | assumption | (refine Ext.al ?_ _) | (refine Ext.dw ?_) | (refine Ext.set ?_ (by first | omega | (simp only [World.size_alloc, size_setRow, Za]; omega)) _) | (refine Ext.tr ?_ (by assumption))))))) ?_
  rintro ⟨_, w1⟩ ⟨m, rfl, hm, R1, M1⟩
  have zM1 := M1.size
  try simp only [World.size_alloc, size_setRow, Za] at zM1
  try dsimp only at R1 M1
  have zM1 := M1.size
  simp only [World.size_alloc] at zM1
  have l1 := R1.lt
  have X1 : hp w1 w.heap.size = some (.cells #[.slice none 0 0] 25 (0, 0)) := (M1.blk w.heap.size (by (try simp only [In, World.size_alloc, size_setRow, Za] at *); omega) (by omega)).trans (by first | assumption | rfl | (simp (maxSteps := 1000000) (disch := first | assumption | omega | (simp only [World.size_alloc, size_setRow, Za] <;> omega) | (simp only [List.length_set, Array.length_toList, List.length_cons, List.length_nil, List.length_append, Zn] <;> omega) | (simp only [List.all_cons, List.all_nil, Value.oneCell', Bool.and_self, Bool.and_true]; done)) [-Option.bind_some, Zb, Zc, Zd, Zh, Ze, Zi, Zt, Zk, Zr, Zs, Yg, Yf, Yh, -Zl, -Zm, Ye, Ya, Yd, Zx, Zz, Zw, Zq, Zj, Zf, Zg, Zy, Yb, Yc, Zv, Zp, Zo, Zu, M1.blk]; done))
  have N1 : Mod (fun b => b = g) w w1 := (Mod.of (by (repeat (first | exact Ext.rfl | assumption | (refine Ext.al ?_ _) | (refine Ext.dw ?_) | (refine Ext.set ?_ (by first | omega | (simp only [World.size_alloc, size_setRow, Za]; omega)) _) | (refine Ext.tr ?_ (by assumption))))) _).tr M1
  simp (maxSteps := 1000000) (disch := first | assumption | omega | (simp only [World.size_alloc, size_setRow, Za] <;> omega) | (simp only [List.length_set, Array.length_toList, List.length_cons, List.length_nil, List.length_append, Zn] <;> omega) | (simp only [List.all_cons, List.all_nil, Value.oneCell', Bool.and_self, Bool.and_true]; done)) [-Option.bind_some, Zb, Zc, Zd, Zh, Ze, Zi, Zt, Zk, Zr, Zs, Yg, Yf, Yh, -Zl, -Zm, Ye, Ya, Yd, Zx, Zz, Zw, Zq, Zj, Zf, Zg, Zy, Yb, Yc, Zv, Zp, Zo, Zu, show IntKind.i64.wrap (1 + (m : Int)) = 1 + (m : Int) from w64 (by omega) (by omega), M1.blk, X1]
  refine Ret.bind (spec_ChainNew_n (1 + (m : Int))) ?_
  rintro ⟨_, w2⟩ ⟨a2, c2, rfl, o2, E2⟩
  try dsimp only at a2 c2 o2 E2
  have zE2 := E2.size
  try simp only [World.size_alloc, size_setRow, Za] at zE2
  have hfi := fitI_new (m := m) hm
  obtain ⟨ns, hns⟩ : ∃ ns, ns = chainNewP (1 + (m : Int)) := ⟨_, rfl⟩
  rw [← hns] at hfi o2
  rw [← hns]
  simp (maxSteps := 1000000) (disch := first | assumption | omega | (simp only [World.size_alloc, size_setRow, Za] <;> omega) | (simp only [List.length_set, Array.length_toList, List.length_cons, List.length_nil, List.length_append, Zn] <;> omega) | (simp only [List.all_cons, List.all_nil, Value.oneCell', Bool.and_self, Bool.and_true]; done)) [-Option.bind_some, Zb, Zc, Zd, Zh, Ze, Zi, Zt, Zk, Zr, Zs, Yg, Yf, Yh, -Zl, -Zm, Ye, Ya, Yd, Zx, Zz, Zw, Zq, Zj, Zf, Zg, Zy, Yb, Yc, Zv, Zp, Zo, Zu, M1.blk, X1, E2.blk]
  have X2 : hp ((w2.alloc (.cells #[.slice none 0 0] 25)).setRow w2.heap.size #[.slice a2 ns.length c2]) w.heap.size = some (.cells #[.slice none 0 0] 25 (0, 0)) := (Zd (by omega)).trans ((Zb (by omega)).trans ((E2.blk (by omega)).trans X1))
  have X3 : hp ((w2.alloc (.cells #[.slice none 0 0] 25)).setRow w2.heap.size #[.slice a2 ns.length c2]) w2.heap.size = some (.cells #[.slice a2 ns.length c2] 25 (0, 0)) := (by first | assumption | rfl | (simp (maxSteps := 1000000) (disch := first | assumption | omega | (simp only [World.size_alloc, size_setRow, Za] <;> omega) | (simp only [List.length_set, Array.length_toList, List.length_cons, List.length_nil, List.length_append, Zn] <;> omega) | (simp only [List.all_cons, List.all_nil, Value.oneCell', Bool.and_self, Bool.and_true]; done)) [-Option.bind_some, Zb, Zc, Zd, Zh, Ze, Zi, Zt, Zk, Zr, Zs, Yg, Yf, Yh, -Zl, -Zm, Ye, Ya, Yd, Zx, Zz, Zw, Zq, Zj, Zf, Zg, Zy, Yb, Yc, Zv, Zp, Zo, Zu, M1.blk, X1, E2.blk, X2]; done))
  have R2 : R ((w2.alloc (.cells #[.slice none 0 0] 25)).setRow w2.heap.size #[.slice a2 ns.length c2]) B g (p + 1) := R1.ext (by (repeat (first | exact Ext.rfl | assumption | (refine Ext.al ?_ _) | (refine Ext.dw ?_) | (refine Ext.set ?_ (by first | omega | (simp only [World.size_alloc, size_setRow, Za]; omega)) _) | (refine Ext.tr ?_ (by assumption)))))
  have N2 : Mod (fun b => b = g) w ((w2.alloc (.cells #[.slice none 0 0] 25)).setRow w2.heap.size #[.slice a2 ns.length c2]) := N1.ex (by (repeat (first | exact Ext.rfl | assumption | (refine Ext.al ?_ _) | (refine Ext.dw ?_) | (refine Ext.set ?_ (by first | omega | (simp only [World.size_alloc, size_setRow, Za]; omega)) _) | (refine Ext.tr ?_ (by assumption)))))
  have oc := o2.keep (w' := (w2.alloc (.cells #[.slice none 0 0] 25)).setRow w2.heap.size #[.slice a2 ns.length c2]) (by intro b hS hb; (try dsimp only at hS); (try simp only [In, World.size_alloc, size_setRow, Za] at hS hb); first | rfl | (simp (disch := first | assumption | omega | (simp only [World.size_alloc, size_setRow, Za]; omega) | (simp only [World.size_alloc, size_setRow, Za, In]; omega)) only [M1.blk, E2.blk, Zb, Zd, Ym]; done))
  generalize hW : (w2.alloc (.cells #[.slice none 0 0] 25)).setRow w2.heap.size #[.slice a2 ns.length c2] = W at *
  have sW : W.heap.size = w2.heap.size + 1 := by rw [← hW, size_setRow, World.size_alloc]
  refine Ret.bind (Yl (k := 12) (by omega) (by omega) (by omega) R2) ?_
  rintro ⟨_, w3⟩ ⟨n, rfl, hn, R3, M3⟩
  have zM3 := M3.size
  try simp only [World.size_alloc, size_setRow, Za] at zM3
  try dsimp only at R3 M3
  have zM3 := M3.size
  simp (maxSteps := 1000000) (disch := first | assumption | omega | (simp only [World.size_alloc, size_setRow, Za] <;> omega) | (simp only [List.length_set, Array.length_toList, List.length_cons, List.length_nil, List.length_append, Zn] <;> omega) | (simp only [List.all_cons, List.all_nil, Value.oneCell', Bool.and_self, Bool.and_true]; done)) [-Option.bind_some, Zb, Zc, Zd, Zh, Ze, Zi, Zt, Zk, Zr, Zs, Yg, Yf, Yh, -Zl, -Zm, Ye, Ya, Yd, Zx, Zz, Zw, Zq, Zj, Zf, Zg, Zy, Yb, Yc, Zv, Zp, Zo, Zu, M1.blk, X1, E2.blk, X2, X3, M3.blk]
  refine Ret.mono (spec_l20Chain_n1 (B := B) (g := g) (b2 := w.heap.size) (b3 := w2.heap.size) (W0 := w.heap.size) (by omega) (by omega) (by omega) (by omega) (by omega) (by omega) n _ w3 (p + 1 + 1) ns a2 c2 _ (by omega) (by omega) hfi (by first | omega | assumption | rfl | exact congrArg i64 (by omega) | (simp; done) | (simp; omega)) (by first | omega | assumption | rfl | exact congrArg i64 (by omega) | (simp; done) | (simp; omega)) (by first | omega | assumption | rfl | exact congrArg i64 (by omega) | (simp; done) | (simp; omega)) (by first | omega | assumption | rfl | exact congrArg i64 (by omega) | (simp; done) | (simp; omega)) ((M3.blk _ (by omega) (by omega)).trans X2) ((M3.blk _ (by omega) (by omega)).trans X3) (oc.keep (fun b hb hs => M3.blk b hs (by simp only [In] at hb; omega))) ?_ R3) ?_
  · intro b h
    simp only [In] at h
    omega
  · rintro r ⟨ns', a', c', p', h1, h2, h3, h6, h7, h8⟩
    refine hQ _ ⟨ns', a', c', p', h1, h2, h3, by omega, h7, ?_⟩
    exact (((N2.tr M3).weak (fun b hb h => Or.inl h)).tr h8).weak (fun b hb h => h.resolve_right (by omega))
theorem spec_l20AnyChain_m {B g p : Nat} (hp0 : p ≤ 300000000000) {w : World} (hr : R w B g p) :
    Ret (EV P 14 #[pt g 0] w) fun r => ∃ (ns : List CNode) (a : Option Addr) (c p' : Nat), r.1 = .agg #[.slice a ns.length c] ∧ D Yr (fun b => w.heap.size ≤ b) r.2 [.slice a ns.length c] ns ∧ p' ≤ p + 2000 ∧ R r.2 B g p' ∧ Mod (fun b => b = g) w r.2 := by
  have hl := hr.lt
  refine Ret.post fun Q hQ => ?_
  refine Ret.enter plain Yo (spec_l20AnyChain_fn _ _) (by kernel_rfl) (n := 1) (by kernel_rfl) rfl ?_
  simp (maxSteps := 1000000) (disch := first | assumption | omega | (simp only [World.size_alloc, size_setRow, Za] <;> omega) | (simp only [List.length_set, Array.length_toList, List.length_cons, List.length_nil, List.length_append, Zn] <;> omega) | (simp only [List.all_cons, List.all_nil, Value.oneCell', Bool.and_self, Bool.and_true]; done)) [-Option.bind_some, Zb, Zc, Zd, Zh, Ze, Zi, Zt, Zk, Zr, Zs, Yg, Yf, Yh, -Zl, -Zm, Ye, Ya, Yd, Zx, Zz, Zw, Zq, Zj, Zf, Zg, Zy, Yb, Yc, Zv, Zp, Zo, Zu]
  refine Ret.bind (spec_l20Chain_m (by omega) (hr.ext (by (repeat (first | exact Ext.rfl | assumption | (refine Ext.al ?_ _) | (refine Ext.dw ?_) | (refine Ext.set ?_ (by first | omega | (simp only [World.size_alloc, size_setRow, Za]; omega)) _) | (refine Ext.tr ?_ (by assumption))))))) ?_
  rintro ⟨_, w1⟩ ⟨ns, a, c, p1, rfl, o1, hfi, hp1, R1, M1⟩
  have zM1 := M1.size
  try simp only [World.size_alloc, size_setRow, Za] at zM1
  try dsimp only at o1 R1 M1
  have zM1 := M1.size
  simp only [World.size_alloc, Za] at zM1 o1
  have l1 := R1.lt
  have X1 : hp w1 w.heap.size = some (.cells #[.slice none 0 0] 25 (0, 0)) := (M1.blk w.heap.size (by (try simp only [In, World.size_alloc, size_setRow, Za] at *); omega) (by omega)).trans (by first | assumption | rfl | (simp (maxSteps := 1000000) (disch := first | assumption | omega | (simp only [World.size_alloc, size_setRow, Za] <;> omega) | (simp only [List.length_set, Array.length_toList, List.length_cons, List.length_nil, List.length_append, Zn] <;> omega) | (simp only [List.all_cons, List.all_nil, Value.oneCell', Bool.and_self, Bool.and_true]; done)) [-Option.bind_some, Zb, Zc, Zd, Zh, Ze, Zi, Zt, Zk, Zr, Zs, Yg, Yf, Yh, -Zl, -Zm, Ye, Ya, Yd, Zx, Zz, Zw, Zq, Zj, Zf, Zg, Zy, Yb, Yc, Zv, Zp, Zo, Zu, M1.blk]; done))
  have N1 : Mod (fun b => b = g) w w1 := (Mod.of (by (repeat (first | exact Ext.rfl | assumption | (refine Ext.al ?_ _) | (refine Ext.dw ?_) | (refine Ext.set ?_ (by first | omega | (simp only [World.size_alloc, size_setRow, Za]; omega)) _) | (refine Ext.tr ?_ (by assumption))))) _).tr M1
  simp (maxSteps := 1000000) (disch := first | assumption | omega | (simp only [World.size_alloc, size_setRow, Za] <;> omega) | (simp only [List.length_set, Array.length_toList, List.length_cons, List.length_nil, List.length_append, Zn] <;> omega) | (simp only [List.all_cons, List.all_nil, Value.oneCell', Bool.and_self, Bool.and_true]; done)) [-Option.bind_some, Zb, Zc, Zd, Zh, Ze, Zi, Zt, Zk, Zr, Zs, Yg, Yf, Yh, -Zl, -Zm, Ye, Ya, Yd, Zx, Zz, Zw, Zq, Zj, Zf, Zg, Zy, Yb, Yc, Zv, Zp, Zo, Zu, M1.blk, X1]
  have o1b : O Yr (fun b => w.heap.size < b ∧ b < w1.heap.size) w1 [.slice a ns.length c] ns := o1.wide (fun b h q => ⟨h, q⟩)
  have N2 : Mod (fun b => b = g) w ((w1.alloc (.cells #[.slice none 0 0] 25)).setRow w1.heap.size #[.slice a ns.length c]) := (N1.al _).set' (.inl (by omega)) _
  have R2 : R ((w1.alloc (.cells #[.slice none 0 0] 25)).setRow w1.heap.size #[.slice a ns.length c]) B g p1 := R1.ext (by (repeat (first | exact Ext.rfl | assumption | (refine Ext.al ?_ _) | (refine Ext.dw ?_) | (refine Ext.set ?_ (by first | omega | (simp only [World.size_alloc, size_setRow, Za]; omega)) _) | (refine Ext.tr ?_ (by assumption)))))
  have X2 : hp ((w1.alloc (.cells #[.slice none 0 0] 25)).setRow w1.heap.size #[.slice a ns.length c]) w.heap.size = some (.cells #[.slice none 0 0] 25 (0, 0)) := (Zd (by omega)).trans ((Zb (by omega)).trans X1)
  have X3 : hp ((w1.alloc (.cells #[.slice none 0 0] 25)).setRow w1.heap.size #[.slice a ns.length c]) w1.heap.size = some (.cells #[.slice a ns.length c] 25 (0, 0)) := (by first | assumption | rfl | (simp (maxSteps := 1000000) (disch := first | assumption | omega | (simp only [World.size_alloc, size_setRow, Za] <;> omega) | (simp only [List.length_set, Array.length_toList, List.length_cons, List.length_nil, List.length_append, Zn] <;> omega) | (simp only [List.all_cons, List.all_nil, Value.oneCell', Bool.and_self, Bool.and_true]; done)) [-Option.bind_some, Zb, Zc, Zd, Zh, Ze, Zi, Zt, Zk, Zr, Zs, Yg, Yf, Yh, -Zl, -Zm, Ye, Ya, Yd, Zx, Zz, Zw, Zq, Zj, Zf, Zg, Zy, Yb, Yc, Zv, Zp, Zo, Zu, M1.blk, X1, X2]; done))
  have o2 := o1b.keep (w' := (w1.alloc (.cells #[.slice none 0 0] 25)).setRow w1.heap.size #[.slice a ns.length c]) (by intro b hS hb; (try dsimp only at hS); (try simp only [In, World.size_alloc, size_setRow, Za] at hS hb); first | rfl | (simp (disch := first | assumption | omega | (simp only [World.size_alloc, size_setRow, Za]; omega) | (simp only [World.size_alloc, size_setRow, Za, In]; omega)) only [M1.blk, Zb, Zd, Ym]; done))
  generalize hW : (w1.alloc (.cells #[.slice none 0 0] 25)).setRow w1.heap.size #[.slice a ns.length c] = W at *
  have sW : W.heap.size = w1.heap.size + 1 := by rw [← hW, size_setRow, World.size_alloc]
  have hl2 := R2.lt
  have hn1 := hfi.1
  have hn4 := hfi.2.1
  have fin : ∀ (e : Env) (U : World) (a' : Option Addr) (c' : Nat) (ls : List CNode) (p' : Nat), e 2 = pt w.heap.size 0 → e 3 = pt w1.heap.size 0 → hp U w.heap.size = some (.cells #[.slice none 0 0] 25 (0, 0)) → hp U w1.heap.size = some (.cells #[.slice a' ls.length c'] 25 (0, 0)) →
      D Yr (fun b => w.heap.size < b) U [.slice a' ls.length c'] ls → p' ≤ p + 2000 → R U B g p' → Mod (fun b => b = g) w U → Ret (spec_l20AnyChain_j1 e U) Q := by
    intro e U a' c' ls p' e2 e3 Z2 Z3 hd hp' hR hM
    rw [spec_l20AnyChain_j1_eq]
    simp (maxSteps := 1000000) (disch := first | assumption | omega | (simp only [World.size_alloc, size_setRow, Za] <;> omega) | (simp only [List.length_set, Array.length_toList, List.length_cons, List.length_nil, List.length_append, Zn] <;> omega) | (simp only [List.all_cons, List.all_nil, Value.oneCell', Bool.and_self, Bool.and_true]; done)) [-Option.bind_some, Zb, Zc, Zd, Zh, Ze, Zi, Zt, Zk, Zr, Zs, Yg, Yf, Yh, -Zl, -Zm, Ye, Ya, Yd, Zx, Zz, Zw, Zq, Zj, Zf, Zg, Zy, Yb, Yc, Zv, Zp, Zo, Zu, e2, e3, Z2, Z3, M1.blk, X1, X2, X3, e2, e3]
    exact hQ _ ⟨ls, a', c', p', rfl, (hd.keep (fun b hS hb => Zd (by omega))).wide (fun b h _ => by omega), by omega, hR.keep (fun b h hb => Zd (by omega)), hM.set' (.inl (by omega)) _⟩
  refine Ret.bind (Yl (k := ns.length) (by omega) (by omega) (by omega) R2) ?_
  rintro ⟨_, w2⟩ ⟨k, rfl, hk, R2', M2⟩
  have zM2 := M2.size
  try simp only [World.size_alloc, size_setRow, Za] at zM2
  try dsimp only at R2' M2
  have zM2 := M2.size
  simp (maxSteps := 1000000) (disch := first | assumption | omega | (simp only [World.size_alloc, size_setRow, Za] <;> omega) | (simp only [List.length_set, Array.length_toList, List.length_cons, List.length_nil, List.length_append, Zn] <;> omega) | (simp only [List.all_cons, List.all_nil, Value.oneCell', Bool.and_self, Bool.and_true]; done)) [-Option.bind_some, Zb, Zc, Zd, Zh, Ze, Zi, Zt, Zk, Zr, Zs, Yg, Yf, Yh, -Zl, -Zm, Ye, Ya, Yd, Zx, Zz, Zw, Zq, Zj, Zf, Zg, Zy, Yb, Yc, Zv, Zp, Zo, Zu, M1.blk, X1, X2, X3, M2.blk]
  refine Ret.bind (Yl (k := 10) (by omega) (by omega) (by omega) R2') ?_
  rintro ⟨_, w3⟩ ⟨m, rfl, hm, R3, M3⟩
  have zM3 := M3.size
  try simp only [World.size_alloc, size_setRow, Za] at zM3
  try dsimp only at R3 M3
  have zM3 := M3.size
  have N3 := (N2.tr M2).tr M3
  have Z2 : hp w3 w.heap.size = _ := (M3.blk w.heap.size (by omega) (by omega)).trans ((M2.blk w.heap.size (by omega) (by omega)).trans X2)
  have Z3 : hp w3 w1.heap.size = _ := (M3.blk w1.heap.size (by omega) (by omega)).trans ((M2.blk w1.heap.size (by omega) (by omega)).trans X3)
  have o3 : O Yr (fun b => w.heap.size < b ∧ b < w1.heap.size) w3 [.slice a ns.length c] ns := o2.keep (fun b hb hs => (M3.blk b (by omega) (by omega)).trans (M2.blk b hs (by omega)))
  obtain ⟨x, hx, _⟩ := Yk (l := ns) (k := k) hk
  by_cases h0 : m = 0
  · subst h0
    simp (maxSteps := 1000000) (disch := first | assumption | omega | (simp only [World.size_alloc, size_setRow, Za] <;> omega) | (simp only [List.length_set, Array.length_toList, List.length_cons, List.length_nil, List.length_append, Zn] <;> omega) | (simp only [List.all_cons, List.all_nil, Value.oneCell', Bool.and_self, Bool.and_true]; done)) [-Option.bind_some, Zb, Zc, Zd, Zh, Ze, Zi, Zt, Zk, Zr, Zs, Yg, Yf, Yh, -Zl, -Zm, Ye, Ya, Yd, Zx, Zz, Zw, Zq, Zj, Zf, Zg, Zy, Yb, Yc, Zv, Zp, Zo, Zu, Z3, M1.blk, X1, X2, X3, M2.blk, M3.blk]
    refine Ret.bind (spec_l20AnyStore_m (by omega) (R3.ext (by (repeat (first | exact Ext.rfl | assumption | (refine Ext.al ?_ _) | (refine Ext.dw ?_) | (refine Ext.set ?_ (by first | omega | (simp only [World.size_alloc, size_setRow, Za]; omega)) _) | (refine Ext.tr ?_ (by assumption))))))) ?_
    rintro ⟨_, w5⟩ ⟨st, a5, c5, p5, rfl, d5, hp5, R5, M5⟩
    have zM5 := M5.size
    try simp only [World.size_alloc, size_setRow, Za] at zM5
    try dsimp only at d5 R5 M5
    have zM5 := M5.size
    simp only [Za] at zM5 d5
    have V3 : hp w5 w1.heap.size = _ := (M5.blk w1.heap.size (by (try simp only [In, World.size_alloc, size_setRow, Za] at *); omega) (by omega)).trans ((Ym _ _).trans Z3)
    have V2 : hp w5 w.heap.size = _ := (M5.blk w.heap.size (by (try simp only [In, World.size_alloc, size_setRow, Za] at *); omega) (by omega)).trans ((Ym _ _).trans Z2)
    have o5 : O Yr (fun b => w.heap.size < b ∧ b < w1.heap.size) w5 [.slice a ns.length c] ns := o3.keep (fun b hb hs => (M5.blk b (by (try simp only [In, World.size_alloc, size_setRow, Za] at *); omega) (by omega)).trans (Ym _ _))
    obtain ⟨gp, cur, cs, S1, rfl, hSg, hgl, hg, hle, ox, hS1, put⟩ := o5.rowD (by decide) hx
    obtain ⟨a6, c6, a7, c7, Ss, Sw, rfl, o6, o7, hSs, hSw⟩ := O.node_un ox
    simp only [Yn] at hg hle put
    simp (maxSteps := 1000000) (disch := first | assumption | omega | (simp only [World.size_alloc, size_setRow, Za] <;> omega) | (simp only [List.length_set, Array.length_toList, List.length_cons, List.length_nil, List.length_append, Zn] <;> omega) | (simp only [List.all_cons, List.all_nil, Value.oneCell', Bool.and_self, Bool.and_true]; done)) [-Option.bind_some, Zb, Zc, Zd, Zh, Ze, Zi, Zt, Zk, Zr, Zs, Yg, Yf, Yh, -Zl, -Zm, Ye, Ya, Yd, Zx, Zz, Zw, Zq, Zj, Zf, Zg, Zy, Yb, Yc, Zv, Zp, Zo, Zu, V3, hg, ia_23, hk, M1.blk, X1, X2, X3, M2.blk, M3.blk, M5.blk, hg]
    have rD := put (w5.setRow gp (rowv cur (k * 2) [.slice a5 st.length c5, .slice a7 x.wait.length c7]).toArray) _ ⟨st, x.wait⟩ (fun b => w.heap.size < b) (D.node.2 ⟨a5, c5, a7, c7, rfl, (d5.keep (fun b hb hs => Zd (by omega))).wide (fun b h _ => by omega), (o7.d.keep (fun b hb hs => Zd (hS1 b (hSw b hb).1).2.1)).wide (fun b h _ => (hS1 b (hSw b h).1).1.1)⟩) (by first | assumption | rfl | (simp (maxSteps := 1000000) (disch := first | assumption | omega | (simp only [World.size_alloc, size_setRow, Za] <;> omega) | (simp only [List.length_set, Array.length_toList, List.length_cons, List.length_nil, List.length_append, Zn] <;> omega) | (simp only [List.all_cons, List.all_nil, Value.oneCell', Bool.and_self, Bool.and_true]; done)) [-Option.bind_some, Zb, Zc, Zd, Zh, Ze, Zi, Zt, Zk, Zr, Zs, Yg, Yf, Yh, -Zl, -Zm, Ye, Ya, Yd, Zx, Zz, Zw, Zq, Zj, Zf, Zg, Zy, Yb, Yc, Zv, Zp, Zo, Zu, hg, M1.blk, X1, X2, X3, M2.blk, M3.blk, M5.blk, hg]; done)) (fun b hb _ hne _ => Zd hne)
    refine fin _ _ (some ⟨gp, 0, none⟩) c (ns.set k ⟨st, x.wait⟩) p5 (by first | omega | assumption | rfl | exact congrArg i64 (by omega) | (simp; done) | (simp; omega)) (by first | omega | assumption | rfl | exact congrArg i64 (by omega) | (simp; done) | (simp; omega)) ((Zd (by omega)).trans V2) ?_ ?_ (by omega) (R5.keep (fun b h hb => Zd (by omega))) ?_
    · rw [List.length_set]
      exact (Zd (by omega)).trans V3
    · rw [List.length_set]
      exact rD.wide (fun b h _ => by omega)
    · exact ((N3.tr (Mod.of (by (repeat (first | exact Ext.rfl | assumption | (refine Ext.al ?_ _) | (refine Ext.dw ?_) | (refine Ext.set ?_ (by first | omega | (simp only [World.size_alloc, size_setRow, Za]; omega)) _) | (refine Ext.tr ?_ (by assumption))))) _)).tr M5).set' (.inl (by omega)) _
  have f0 : ((m : Int) == 0) = false := by rw [beq_eq_false_iff_ne]; omega
  by_cases h1 : m = 1
  · subst h1
    obtain ⟨gp, o6, cs6, rfl, A6, D6, _, l6⟩ := o2.d.at (by decide) hx
    obtain ⟨a6, c6, a7, c7, rfl, h6, h7⟩ := D.node.1 D6
    have q0 := A6 0 _ rfl
    have q1 := A6 1 _ rfl
    simp only [LVer_n, LTag_n, Yn, Nat.add_zero] at q0 q1
    have hgo := o2
    obtain ⟨gp', _, _, _, hge, hSg, hgl, _⟩ := hgo.rowD (by decide) hx
    simp only [Option.some.injEq, Addr.mk.injEq, and_true] at hge
    obtain ⟨rfl, rfl⟩ := hge
    have hne : gp ≠ g := by omega
    simp only [Nat.zero_add] at q0 q1
    simp (maxSteps := 1000000) (disch := first | assumption | omega | (simp only [World.size_alloc, size_setRow, Za] <;> omega) | (simp only [List.length_set, Array.length_toList, List.length_cons, List.length_nil, List.length_append, Zn] <;> omega) | (simp only [List.all_cons, List.all_nil, Value.oneCell', Bool.and_self, Bool.and_true]; done)) [-Option.bind_some, Zb, Zc, Zd, Zh, Ze, Zi, Zt, Zk, Zr, Zs, Yg, Yf, Yh, -Zl, -Zm, Ye, Ya, Yd, Zx, Zz, Zw, Zq, Zj, Zf, Zg, Zy, Yb, Yc, Zv, Zp, Zo, Zu, Z3, ia_23, hk, M1.blk, X1, X2, X3, M2.blk, M3.blk, q0, q1]
    refine Ret.bind (spec_l20AnyVer_m (by omega) (R3.ext (by (repeat (first | exact Ext.rfl | assumption | (refine Ext.al ?_ _) | (refine Ext.dw ?_) | (refine Ext.set ?_ (by first | omega | (simp only [World.size_alloc, size_setRow, Za]; omega)) _) | (refine Ext.tr ?_ (by assumption))))))) ?_
    rintro ⟨_, w5⟩ ⟨v, ds, p5, rfl, d5, hp5, R5, M5⟩
    have zM5 := M5.size
    try simp only [World.size_alloc, size_setRow, Za] at zM5
    try dsimp only at d5 R5 M5
    have zM5 := M5.size
    simp only [Za] at zM5 d5
    have V3 : hp w5 w1.heap.size = _ := (M5.blk w1.heap.size (by (try simp only [In, World.size_alloc, size_setRow, Za] at *); omega) (by omega)).trans ((Ym _ _).trans Z3)
    have V2 : hp w5 w.heap.size = _ := (M5.blk w.heap.size (by (try simp only [In, World.size_alloc, size_setRow, Za] at *); omega) (by omega)).trans ((Ym _ _).trans Z2)
    have V4 : hp w5 gp = hp W gp := (M5.blk gp (by (try simp only [In, World.size_alloc, size_setRow, Za] at *); omega) (by omega)).trans ((Ym _ _).trans ((M3.blk gp (by omega) (by omega)).trans (M2.blk gp (by omega) (by omega))))
    have o5 : O Yr (fun b => w.heap.size < b ∧ b < w1.heap.size) w5 [.slice (some ⟨gp, 0, none⟩) ns.length c] ns := o3.keep (fun b hb hs => (M5.blk b (by (try simp only [In, World.size_alloc, size_setRow, Za] at *); omega) (by omega)).trans (Ym _ _))
    obtain ⟨y1, y2, rfl, _⟩ := D.ver.1 d5
    simp (maxSteps := 1000000) (disch := first | assumption | omega | (simp only [World.size_alloc, size_setRow, Za] <;> omega) | (simp only [List.length_set, Array.length_toList, List.length_cons, List.length_nil, List.length_append, Zn] <;> omega) | (simp only [List.all_cons, List.all_nil, Value.oneCell', Bool.and_self, Bool.and_true]; done)) [-Option.bind_some, Zb, Zc, Zd, Zh, Ze, Zi, Zt, Zk, Zr, Zs, Yg, Yf, Yh, -Zl, -Zm, Ye, Ya, Yd, Zx, Zz, Zw, Zq, Zj, Zf, Zg, Zy, Yb, Yc, Zv, Zp, Zo, Zu, V3, V4, ia_23, hk, M1.blk, X1, X2, X3, M2.blk, M3.blk, q0, q1, M5.blk]
    obtain ⟨gp', cur, cs, S1, hge, hSg', hgl', hg, hle, ox, hS1, put⟩ := o5.rowD (by decide) hx
    simp only [Option.some.injEq, Addr.mk.injEq, and_true] at hge
    obtain ⟨rfl, _⟩ := hge
    obtain ⟨a8, c8, a9, c9, Ss, Sw, rfl, o8, o9, hSs, hSw⟩ := O.node_un ox
    simp only [Yn] at hg hle put
    have h9 := q1
    rw [← V4, hg, cellO_some, ← nth_eq, List.toList_toArray, rowv_get (by simp only [List.length_cons, List.length_nil]; omega), if_pos (by simp only [List.length_cons, List.length_nil]; omega), show k * 2 + 1 - k * 2 = 1 by omega] at h9
    simp only [List.getElem?_cons_succ, List.getElem?_cons_zero, Option.some.injEq, Value.slice.injEq, true_and] at h9
    obtain ⟨rfl, rfl⟩ := h9
    have sSw : ∀ b, Sw b → w.heap.size < b ∧ b < w1.heap.size ∧ b ≠ gp := fun b h => by have := (hS1 b (hSw b h).1); omega
    have sSs : ∀ b, Ss b → w.heap.size < b ∧ b < w1.heap.size ∧ b ≠ gp ∧ ¬ Sw b := fun b h => by
      have q := hS1 b (hSs b h).1
      exact ⟨by omega, by omega, q.2.1, (hSs b h).2.1⟩
    refine Ret.bind (O.appDn (P := P) (L := tVer) (x := v) (mx := 1954687338211) (xs := x.wait) (ty := 32) el_32 zz_45 rfl (by decide) (o9.keep (fun b hb hs => Zb hs)) (d5.keep (fun b hb hs => Zb hs)) (fun b hb h1 h2 => by have := sSw b h1; omega) At.new ?_ (by decide) (by decide)) ?_
    · have := (hfi.2.2 x (List.mem_of_getElem? hx)).2.1
      omega
    rintro ⟨_, w6⟩ ⟨aA, cA, rfl, dA, MA⟩
    try dsimp only at dA MA
    have zMA := MA.size
    simp only [World.size_alloc] at zMA dA
    have kA : ∀ b, b < w5.heap.size → ¬ Sw b → hp w6 b = hp w5 b := fun b hb hn => (MA.blk b (by (try simp only [In, World.size_alloc, size_setRow, Za] at *); omega) hn).trans (Zb hb)
    have U3 : hp w6 w1.heap.size = _ := (kA _ (by omega) (fun h => by have := sSw _ h; omega)).trans V3
    have U2 : hp w6 w.heap.size = _ := (kA _ (by omega) (fun h => by have := sSw _ h; omega)).trans V2
    have U4 : hp w6 gp = _ := (kA gp (by omega) (fun h => by have := sSw _ h; omega)).trans hg
    simp (maxSteps := 1000000) (disch := first | assumption | omega | (simp only [World.size_alloc, size_setRow, Za] <;> omega) | (simp only [List.length_set, Array.length_toList, List.length_cons, List.length_nil, List.length_append, Zn] <;> omega) | (simp only [List.all_cons, List.all_nil, Value.oneCell', Bool.and_self, Bool.and_true]; done)) [-Option.bind_some, Zb, Zc, Zd, Zh, Ze, Zi, Zt, Zk, Zr, Zs, Yg, Yf, Yh, -Zl, -Zm, Ye, Ya, Yd, Zx, Zz, Zw, Zq, Zj, Zf, Zg, Zy, Yb, Yc, Zv, Zp, Zo, Zu, U3, U4, M1.blk, X1, X2, X3, M2.blk, M3.blk, q0, q1, M5.blk, hg]
    have rD := put (w6.setRow gp (rowv cur (k * 2) [.slice a8 x.store.length c8, .slice aA (x.wait.length + 1) cA]).toArray) [.slice a8 x.store.length c8, .slice aA (x.wait.length + 1) cA] ⟨x.store, x.wait ++ [v]⟩ (fun b => w.heap.size < b) (D.node.2 ⟨a8, c8, aA, cA, by simp only [List.length_append, List.length_cons, List.length_nil], ((o8.d.keep (w' := w6) (fun b hb hs => kA b (by have := sSs b hb; omega) (sSs b hb).2.2.2)).keep (fun b hb hs => Zd (sSs b hb).2.2.1)).wide (fun b h _ => (sSs b h).1), ?_⟩) (by first | assumption | rfl | (simp (maxSteps := 1000000) (disch := first | assumption | omega | (simp only [World.size_alloc, size_setRow, Za] <;> omega) | (simp only [List.length_set, Array.length_toList, List.length_cons, List.length_nil, List.length_append, Zn] <;> omega) | (simp only [List.all_cons, List.all_nil, Value.oneCell', Bool.and_self, Bool.and_true]; done)) [-Option.bind_some, Zb, Zc, Zd, Zh, Ze, Zi, Zt, Zk, Zr, Zs, Yg, Yf, Yh, -Zl, -Zm, Ye, Ya, Yd, Zx, Zz, Zw, Zq, Zj, Zf, Zg, Zy, Yb, Yc, Zv, Zp, Zo, Zu, U4, M1.blk, X1, X2, X3, M2.blk, M3.blk, q0, q1, M5.blk, hg]; done)) (fun b hb h1 hne h2 => (Zd hne).trans (kA b (by omega) (fun h => h2 (hSw b h).1)))
    · refine fin _ _ (some ⟨gp, 0, none⟩) c (ns.set k ⟨x.store, x.wait ++ [v]⟩) p5 (by first | omega | assumption | rfl | exact congrArg i64 (by omega) | (simp; done) | (simp; omega)) (by first | omega | assumption | rfl | exact congrArg i64 (by omega) | (simp; done) | (simp; omega)) ((Zd (by omega)).trans U2) ?_ ?_ (by omega) (R5.keep (fun b h hb => (Zd (by omega)).trans (kA b hb (fun h' => by have := sSw b h'; omega)))) ?_
      · rw [List.length_set]
        exact (Zd (by omega)).trans U3
      · rw [List.length_set]
        exact rD.wide (fun b h _ => by omega)
      · refine (Mod.after' ((N3.tr (Mod.of (by (repeat (first | exact Ext.rfl | assumption | (refine Ext.al ?_ _) | (refine Ext.dw ?_) | (refine Ext.set ?_ (by first | omega | (simp only [World.size_alloc, size_setRow, Za]; omega)) _) | (refine Ext.tr ?_ (by assumption))))) _)).tr M5 |>.al (.cells #[i64 v.key, i64 v.tag.t, i64 v.tag.p, .slice y1 v.past.length y2, .string v.text, .bool v.gone] 45)) MA (fun b hb h => by have := sSw b h; omega)).set' (.inl (by omega)) _
    · show D tVers _ _ [.slice aA (x.wait ++ [v]).length cA] (x.wait ++ [v])
      rw [show (x.wait ++ [v]).length = x.wait.length + 1 by simp]
      refine (dA.keep (fun b hb hs => Zd ?_)).wide (fun b h _ => ?_)
      · rintro rfl
        rcases hb with h | h | h
        · exact (sSw _ h).2.2 rfl
        · omega
        · omega
      · rcases h with h | h | h
        · exact (sSw b h).1
        · omega
        · omega
  have f1 : ((m : Int) == 1) = false := by rw [beq_eq_false_iff_ne]; omega
  by_cases h2 : m = 2
  · subst h2
    have hcl := o3.clip.1
    simp (maxSteps := 1000000) (disch := first | assumption | omega | (simp only [World.size_alloc, size_setRow, Za] <;> omega) | (simp only [List.length_set, Array.length_toList, List.length_cons, List.length_nil, List.length_append, Zn] <;> omega) | (simp only [List.all_cons, List.all_nil, Value.oneCell', Bool.and_self, Bool.and_true]; done)) [-Option.bind_some, Zb, Zc, Zd, Zh, Ze, Zi, Zt, Zk, Zr, Zs, Yg, Yf, Yh, -Zl, -Zm, Ye, Ya, Yd, Zx, Zz, Zw, Zq, Zj, Zf, Zg, Zy, Yb, Yc, Zv, Zp, Zo, Zu, Z3, sl_h (P := P) el_23, show (k : Int) ≤ c by omega, M1.blk, X1, X2, X3, M2.blk, M3.blk]
    have htk : (ns.take k).length = k := by rw [List.length_take]; omega
    refine fin _ _ a c (ns.take k) (p1 + 1 + 1) (by first | omega | assumption | rfl | exact congrArg i64 (by omega) | (simp; done) | (simp; omega)) (by first | omega | assumption | rfl | exact congrArg i64 (by omega) | (simp; done) | (simp; omega)) ((Zd (by omega)).trans Z2) ?_ ?_ (by omega) (R3.keep (fun b h hb => Zd (by omega))) (N3.set' (.inl (by omega)) _)
    · rw [htk]
      exact (by first | assumption | rfl | (simp (maxSteps := 1000000) (disch := first | assumption | omega | (simp only [World.size_alloc, size_setRow, Za] <;> omega) | (simp only [List.length_set, Array.length_toList, List.length_cons, List.length_nil, List.length_append, Zn] <;> omega) | (simp only [List.all_cons, List.all_nil, Value.oneCell', Bool.and_self, Bool.and_true]; done)) [-Option.bind_some, Zb, Zc, Zd, Zh, Ze, Zi, Zt, Zk, Zr, Zs, Yg, Yf, Yh, -Zl, -Zm, Ye, Ya, Yd, Zx, Zz, Zw, Zq, Zj, Zf, Zg, Zy, Yb, Yc, Zv, Zp, Zo, Zu, Z3, M1.blk, X1, X2, X3, M2.blk, M3.blk]; done))
    · rw [htk]
      exact ((o3.d.take (by omega)).keep (fun b hb hs => Zd (by omega))).wide (fun b h _ => h.1)
  have f2 : ((m : Int) == 2) = false := by rw [beq_eq_false_iff_ne]; omega
  simp (maxSteps := 1000000) (disch := first | assumption | omega | (simp only [World.size_alloc, size_setRow, Za] <;> omega) | (simp only [List.length_set, Array.length_toList, List.length_cons, List.length_nil, List.length_append, Zn] <;> omega) | (simp only [List.all_cons, List.all_nil, Value.oneCell', Bool.and_self, Bool.and_true]; done)) [-Option.bind_some, Zb, Zc, Zd, Zh, Ze, Zi, Zt, Zk, Zr, Zs, Yg, Yf, Yh, -Zl, -Zm, Ye, Ya, Yd, Zx, Zz, Zw, Zq, Zj, Zf, Zg, Zy, Yb, Yc, Zv, Zp, Zo, Zu, f0, f1, f2, M1.blk, X1, X2, X3, M2.blk, M3.blk]
  exact fin _ _ a c ns (p1 + 1 + 1) (by first | omega | assumption | rfl | exact congrArg i64 (by omega) | (simp; done) | (simp; omega)) (by first | omega | assumption | rfl | exact congrArg i64 (by omega) | (simp; done) | (simp; omega)) Z2 Z3 (o3.d.wide (fun b h _ => h.1)) (by omega) R3 N3
end Go.Proofs.YtjagkbamkohnoaaGreat.X
set_option linter.unusedVariables false
set_option linter.unusedSimpArgs false
set_option maxRecDepth 100000
set_option maxHeartbeats 1000000
namespace Go.Proofs.YtjagkbamkohnoaaGreat.X
open Go Go.Ev Go.RowKit
theorem links_iff : ∀ (ns : List CNode), links ns = true ↔ (∀ i a b, ns[i]? = some a → ns[i + 1]? = some b → fitsL b.store a.wait a.store = true) ∧ (∀ a, ns[ns.length - 1]? = some a → a.wait = [])
  | [] => by simp [links]
  | [a] => by
    simp only [links, beq_iff_eq, List.length_eq_zero_iff]
    constructor
    · intro h
      refine ⟨fun i x y hx hy => by simp at hy, fun x hx => ?_⟩
      obtain rfl : a = x := by simpa using hx
      exact h
    · intro h
      exact h.2 a rfl
  | a :: b :: l => by
    have ih := links_iff (b :: l)
    have hl : links (a :: b :: l) = (fitsL b.store a.wait a.store && links (b :: l)) := by rw [links]
    rw [hl, Bool.and_eq_true, ih]
    constructor
    · rintro ⟨h1, h2, h3⟩
      refine ⟨fun i x y hx hy => ?_, fun x hx => h3 x (by simpa using hx)⟩
      cases i with
      | zero =>
        obtain rfl : a = x := by simpa using hx
        obtain rfl : b = y := by simpa using hy
        exact h1
      | succ i => exact h2 i x y (by simpa using hx) (by simpa using hy)
    · rintro ⟨h2, h3⟩
      exact ⟨h2 0 a b rfl rfl, fun i x y hx hy => h2 (i + 1) x y (by simpa using hx) (by simpa using hy), fun x hx => h3 x (by simpa using hx)⟩
theorem chainOk_iff {ns : List CNode} : chainOk ns = true ↔ (1 ≤ ns.length ∧ ns.length ≤ 4) ∧ (∀ x ∈ ns, nodeOk x = true) ∧ links ns = true := by
  simp only [chainOk, lenOk, Bool.and_eq_true, decide_eq_true_eq, List.all_eq_true]
  constructor
  · rintro ⟨⟨h1, h2⟩, h3⟩
    exact ⟨⟨by omega, by omega⟩, h2, h3⟩
  · rintro ⟨h1, h2, h3⟩
    exact ⟨⟨⟨by omega, by omega⟩, h2⟩, h3⟩
theorem fitsL_snoc : ∀ (w s t : List Ver) (v u : Ver), fitsL s w t = true → t[v.key.toNat]? = some u → tagLess u.tag v.tag = true → fitsL s (w ++ [v]) (t.set v.key.toNat v) = true
  | [], s, t, v, u, h, hu, hl => by
    obtain rfl := sameV_iff.1 (show sameV s t = true from h)
    have e : fitsL s ([] ++ [v]) (s.set v.key.toNat v) = (tagLess u.tag v.tag && fitsL (s.set v.key.toNat v) [] (s.set v.key.toNat v)) := by
      rw [List.nil_append]
      simp only [fitsL, hu]
    rw [e, hl, Bool.true_and]
    exact sameV_iff.2 rfl
  | a :: w, s, t, v, u, h, hu, hl => by
    cases hs : s[a.key.toNat]? with
    | none => rw [fitsL, hs] at h; cases h
    | some z =>
      rw [fitsL, hs] at h
      simp only [Bool.and_eq_true] at h
      rw [List.cons_append, fitsL, hs]
      simp only [Bool.and_eq_true]
      exact ⟨h.1, fitsL_snoc w _ t v u h.2 hu hl⟩
theorem nodeOk_iff {n : CNode} : nodeOk n = true ↔ storeOk n.store = true ∧ n.wait.length ≤ 6 ∧ ∀ v ∈ n.wait, verOk v = true := by
  simp only [nodeOk, Bool.and_eq_true, decide_eq_true_eq, List.all_eq_true, and_assoc]
theorem set_ok {st : List Ver} {v u : Ver} (h : storeOk st = true) (hv : verOk v = true) (hu : st[v.key.toNat]? = some u) (hl : tagLess u.tag v.tag = true) : storeOk (st.set v.key.toNat v) = true := by
  rw [← storeAdd_t hu hl]
  exact storeAdd_ok h hv
theorem addAt_eq {ns : List CNode} {i : Nat} {x : CNode} {v u : Ver} (hx : ns[i]? = some x) (hu : x.store[v.key.toNat]? = some u) (hl : tagLess u.tag v.tag = true) : addAt ns i v = ns.set i (addNode x v (decide (ns.length ≤ i + 1))) := by
  rw [addAt, hx]
  simp only [hu, hl, if_true]
theorem addNode_ok {x : CNode} {v u : Ver} {b : Bool} (h : nodeOk x = true) (hv : verOk v = true) (hu : x.store[v.key.toNat]? = some u) (hl : tagLess u.tag v.tag = true) (h6 : x.wait.length < 6) : nodeOk (addNode x v b) = true := by
  rw [nodeOk_iff] at *
  refine ⟨set_ok h.1 hv hu hl, ?_, ?_⟩
  · unfold addNode
    dsimp only
    split
    · omega
    · rw [List.length_append]; simp only [List.length_cons, List.length_nil]; omega
  · intro y hy
    unfold addNode at hy
    dsimp only at hy
    split at hy
    · exact h.2.2 y hy
    · rcases List.mem_append.1 hy with hy | hy
      · exact h.2.2 y hy
      · obtain rfl := List.mem_singleton.1 hy
        exact hv
theorem store_at {st : List Ver} {v : Ver} (h : storeOk st = true) (hv : verOk v = true) : ∃ u, st[v.key.toNat]? = some u := by
  obtain ⟨h0, h3⟩ := ver_key hv
  obtain ⟨u, hu, _⟩ := Yk (l := st) (k := v.key.toNat) (by rw [(storeOk_iff.1 h).2]; omega)
  exact ⟨u, hu⟩
/-- What passing on does, node by node. -/
theorem pass_eq {ns : List CNode} {k : Nat} {x y : CNode} {v : Ver} {l : List Ver} (h : chainOk ns = true) (hx : ns[k]? = some x) (hy : ns[k + 1]? = some y) (hw : x.wait = v :: l) :
    ∃ u, y.store[v.key.toNat]? = some u ∧ tagLess u.tag v.tag = true ∧ verOk v = true ∧ passAt ns k = (ns.set k ⟨x.store, l⟩).set (k + 1) (addNode y v (decide (ns.length ≤ k + 2))) := by
  rw [chainOk_iff] at h
  obtain ⟨hl14, hn, hk⟩ := h
  rw [links_iff] at hk
  have hxo := hn x (List.mem_of_getElem? hx)
  have hyo := hn y (List.mem_of_getElem? hy)
  have hv : verOk v = true := (nodeOk_iff.1 hxo).2.2 v (by rw [hw]; exact List.mem_cons_self)
  obtain ⟨u, hu⟩ := store_at (nodeOk_iff.1 hyo).1 hv
  have hf := hk.1 k x y hx hy
  rw [hw, fitsL, hu] at hf
  simp only [Bool.and_eq_true] at hf
  refine ⟨u, hu, hf.1, hv, ?_⟩
  rw [passAt_eq hx hw, addAt_eq (x := y) (by rw [List.getElem?_set_ne (by omega)]; exact hy) hu hf.1, List.length_set]
theorem chainOk_pass {ns : List CNode} {k : Nat} {x y : CNode} {v : Ver} {l : List Ver} (h : chainOk ns = true) (hx : ns[k]? = some x) (hy : ns[k + 1]? = some y) (hw : x.wait = v :: l) (h6 : y.wait.length < 6) : chainOk (passAt ns k) = true := by
  obtain ⟨u, hu, hl, hv, e⟩ := pass_eq h hx hy hw
  rw [e]
  rw [chainOk_iff] at h ⊢
  obtain ⟨hl14, hn, hk⟩ := h
  rw [links_iff] at hk ⊢
  have hxo := nodeOk_iff.1 (hn x (List.mem_of_getElem? hx))
  have hyo := hn y (List.mem_of_getElem? hy)
  have hkl : k + 1 < ns.length := (List.getElem?_eq_some_iff.1 hy).1
  have hf := hk.1 k x y hx hy
  rw [hw, fitsL, hu] at hf
  simp only [Bool.and_eq_true] at hf
  have hst : ∀ b, (addNode y v b).store = y.store.set v.key.toNat v := fun _ => rfl
  refine ⟨by rw [List.length_set, List.length_set]; exact hl14, fun z hz => ?_, fun i a b ha hb => ?_, fun a ha => ?_⟩
  · rcases List.mem_or_eq_of_mem_set hz with hz | rfl
    · rcases List.mem_or_eq_of_mem_set hz with hz | rfl
      · exact hn z hz
      · rw [nodeOk_iff]
        refine ⟨hxo.1, ?_, fun w hw' => hxo.2.2 w (by rw [hw]; exact List.mem_cons_of_mem _ hw')⟩
        have := hxo.2.1
        rw [hw] at this
        simp only [List.length_cons] at this
        dsimp only
        omega
    · exact addNode_ok hyo hv hu hl h6
  · by_cases h1 : i = k + 1
    · subst h1
      rw [List.getElem?_set_self (by rw [List.length_set]; omega)] at ha
      obtain rfl := Option.some.inj ha
      rw [List.getElem?_set_ne (by omega), List.getElem?_set_ne (by omega)] at hb
      have hb2 : k + 1 + 1 < ns.length := (List.getElem?_eq_some_iff.1 hb).1
      have h5 := fitsL_snoc _ _ _ v u (hk.1 (k + 1) y b hy hb) hu hl
      unfold addNode
      simp only [show decide (ns.length ≤ k + 2) = false by simp; omega]
      exact h5
    · rw [List.getElem?_set_ne (by omega)] at ha
      by_cases h2 : i = k
      · subst h2
        rw [List.getElem?_set_self (by omega)] at ha
        obtain rfl := Option.some.inj ha
        rw [List.getElem?_set_self (by rw [List.length_set]; omega)] at hb
        obtain rfl := Option.some.inj hb
        rw [hst]
        exact hf.2
      · rw [List.getElem?_set_ne (by omega)] at ha
        rw [List.getElem?_set_ne (by omega)] at hb
        by_cases h3 : i + 1 = k
        · subst h3
          rw [List.getElem?_set_self (by omega)] at hb
          obtain rfl := Option.some.inj hb
          exact hk.1 i a x ha hx
        · rw [List.getElem?_set_ne (by omega)] at hb
          exact hk.1 i a b ha hb
  · rw [List.length_set, List.length_set] at ha
    by_cases h1 : ns.length - 1 = k + 1
    · rw [h1, List.getElem?_set_self (by rw [List.length_set]; omega)] at ha
      obtain rfl := Option.some.inj ha
      unfold addNode
      simp only [show decide (ns.length ≤ k + 2) = true by simp; omega, if_true]
      exact hk.2 y (by rw [h1]; exact hy)
    · rw [List.getElem?_set_ne (by omega), List.getElem?_set_ne (by omega)] at ha
      exact hk.2 a ha
theorem passP_ok {ns : List CNode} {i : Int} (h : chainOk ns = true) : chainOk (passP ns i) = true := by
  unfold passP
  split
  · rename_i hc
    obtain ⟨k, x, y, v, l, rfl, hk, hx, hy, hxw, hy6⟩ := canPass_parts hc
    rw [Int.toNat_natCast]
    exact chainOk_pass h hx hy hxw hy6
  · exact h
/-! ### Draining -/
/-- Node by node, what waits. -/
def waits (ns : List CNode) (i : Nat) : Nat := match ns[i]? with
  | some x => x.wait.length
  | none => 0
def headS (ns : List CNode) : List Ver := match ns[0]? with
  | some x => x.store
  | none => []
theorem waits_le {ns : List CNode} (h : chainOk ns = true) (i : Nat) : waits ns i ≤ 6 := by
  unfold waits
  split
  · rename_i x hx
    exact (nodeOk_iff.1 ((chainOk_iff.1 h).2.1 x (List.mem_of_getElem? hx))).2.1
  · omega
theorem pass_facts {ns : List CNode} (h : chainOk ns = true) (k : Nat) : (passP ns k).length = ns.length ∧ headS (passP ns k) = headS ns ∧
    (∀ i, i ≠ k → i ≠ k + 1 → waits (passP ns k) i = waits ns i) ∧
    ((canPass ns k = true ∧ waits (passP ns k) k + 1 = waits ns k ∧ waits (passP ns k) (k + 1) ≤ waits ns (k + 1) + 1) ∨ (canPass ns k = false ∧ passP ns k = ns)) := by
  cases hc : canPass ns k
  · have e : passP ns k = ns := by rw [passP, hc]; rfl
    rw [e]
    exact ⟨rfl, rfl, fun _ _ _ => rfl, .inr ⟨rfl, rfl⟩⟩
  · have e : passP ns k = passAt ns k := by rw [passP, hc, if_pos rfl, Int.toNat_natCast]
    rw [e]
    obtain ⟨k', x, y, v, l, hkk, hk, hx, hy, hxw, hy6⟩ := canPass_parts hc
    obtain rfl : k = k' := by omega
    obtain ⟨u, hu, hl, hv, e2⟩ := pass_eq h hx hy hxw
    rw [e2]
    refine ⟨by rw [List.length_set, List.length_set], ?_, fun i h1 h2 => ?_, .inl ⟨rfl, ?_, ?_⟩⟩
    · unfold headS
      rw [List.getElem?_set_ne (by omega)]
      by_cases h0 : k = 0
      · subst h0
        rw [List.getElem?_set_self (by omega), hx]
      · rw [List.getElem?_set_ne (by omega)]
    · unfold waits
      rw [List.getElem?_set_ne (by omega), List.getElem?_set_ne (by omega)]
    · unfold waits
      rw [List.getElem?_set_ne (by omega), List.getElem?_set_self (by omega), hx]
      simp only [hxw, List.length_cons]
    · unfold waits
      rw [List.getElem?_set_self (by rw [List.length_set]; omega), hy]
      unfold addNode
      dsimp only
      split
      · omega
      · rw [List.length_append]; simp
theorem can_of {ns : List CNode} {k : Nat} (h1 : k + 1 < ns.length) (h2 : 0 < waits ns k) (h3 : waits ns (k + 1) < 6) : canPass ns k = true := by
  obtain ⟨x, hx, _⟩ := Yk (l := ns) (k := k) (by omega)
  obtain ⟨y, hy, _⟩ := Yk (l := ns) (k := k + 1) (by omega)
  simp only [waits, hx, hy] at h2 h3
  simp only [canPass, Int.toNat_natCast, hx, hy, Bool.and_eq_true, decide_eq_true_eq]
  exact ⟨⟨by omega, by omega⟩, h2, h3⟩
theorem last_empty {ns : List CNode} (h : chainOk ns = true) {k : Nat} (hk : ns.length ≤ k + 1) : waits ns k = 0 := by
  unfold waits
  split
  · rename_i x hx
    have hkl := (List.getElem?_eq_some_iff.1 hx).1
    have := (links_iff ns).1 (chainOk_iff.1 h).2.2 |>.2 x (by rw [show ns.length - 1 = k by omega]; exact hx)
    rw [this]
    rfl
  · rfl
/-- What stands when a sweep comes to node j (those behind are done). -/
structure Swept (t : Nat) (ns ys : List CNode) (j : Nat) : Prop where
  ok : chainOk ys = true
  len : ys.length = ns.length
  hd : headS ys = headS ns
  lo : ∀ i, i < j → waits ys i = waits ns i
  at_ : waits ys j + 1 ≤ waits ns j ∨ waits ys j = 0
  hi : ∀ i, j < i → waits ys i ≤ 6 * (i + 1) - (t + 1)
theorem Swept.next {t j : Nat} {ns ys : List CNode} (h0 : chainOk ns = true) (hb : ∀ i, waits ns i ≤ 6 * (i + 1) - t) (h : Swept t ns ys (j + 1)) : Swept t ns (passP ys j) j := by
  obtain ⟨f1, f2, f3, f4⟩ := pass_facts h.ok j
  have hw := waits_le (passP_ok (i := (j : Int)) h.ok)
  have hlo := h.lo j (by omega)
  have hat := h.at_
  have hbj := hb j
  have hbj1 := hb (j + 1)
  have hw0 := waits_le h0 (j + 1)
  refine ⟨passP_ok h.ok, f1.trans h.len, f2.trans h.hd, fun i hi => ?_, ?_, fun i hi => ?_⟩
  · rw [f3 i (by omega) (by omega)]
    exact h.lo i (by omega)
  · rcases f4 with ⟨_, g1, _⟩ | ⟨g1, g2⟩
    · left
      omega
    · rw [g2]
      rcases Nat.eq_zero_or_pos (waits ys j) with h1 | h1
      · exact .inr h1
      · exfalso
        by_cases hl : j + 1 < ys.length
        · have := can_of hl h1 (by omega)
          rw [this] at g1
          cases g1
        · have := last_empty h.ok (k := j) (by omega)
          omega
  · by_cases h1 : i = j + 1
    · subst h1
      have := hw (j + 1)
      rcases f4 with ⟨_, g1, g2⟩ | ⟨g1, g2⟩
      · omega
      · rw [g2]
        omega
    · rw [f3 i (by omega) (by omega)]
      exact h.hi i (by omega)
theorem Swept.done {t : Nat} {ns ys : List CNode} (hb : ∀ i, waits ns i ≤ 6 * (i + 1) - t) (h : Swept t ns ys 0) : ∀ i, waits ys i ≤ 6 * (i + 1) - (t + 1) := by
  intro i
  cases i with
  | zero =>
    have := h.at_
    have := hb 0
    omega
  | succ i => exact h.hi (i + 1) (by omega)
end Go.Proofs.YtjagkbamkohnoaaGreat.X
