/- A part of the proof, without conditions. -/
import Derived.Test.YtjhhommnkaemlaaGreatEvWo
import Derived.Test.YtjhhommnkaemlaaGreatS34
set_option linter.unusedVariables false
set_option linter.unusedSimpArgs false
set_option linter.deprecated false
set_option maxRecDepth 100000
set_option maxHeartbeats 1000000
namespace Go.Proofs.YtjhhommnkaemlaaGreat.X
open Go Go.Ev Go.RowKit
abbrev PD : Lay (List (List Ver)) := Md 36 49 42
abbrev Jf : Lay PlaceD := EU 36 49 86 42
def Oi (v : Ver) : Prop := 0 ≤ v.key ∧ v.key ≤ 3 ∧ v.past.length = 4
theorem RC {v : Ver} (h : Oi v) : MR v := ⟨h.1, h.2.1, fun _ => h.2.2⟩
def CK (M : Nat) (p : PlaceD) : Prop := Lh p.chain ∧ p.log.length ≤ M ∧ (∀ v ∈ p.log, Oi v) ∧ p.Bu.length = 3 ∧ (∀ l ∈ p.Bu, l.length ≤ 60 ∧ ∀ v ∈ l, Oi v)
theorem CK.up {M M' : Nat} {p : PlaceD} (h : CK M p) (k : M ≤ M') : CK M' p := ⟨h.1, Nat.le_trans h.2.1 k, h.2.2⟩
theorem PE {a : Option Addr} {c b : Nat} {S : Nat → Prop} {xs : List Ver} {t : Tag} {w0 : World} (ha : D AQ S w0 [.slice a xs.length c] xs) (hl : xs.length ≤ 1000000000) :
  ∀ (d k : Nat) (e : Env) (w : World), k + d = xs.length → e 0 = .slice a xs.length c → e 3 = pt b 0 → e 5 = i64 k → hp w b = some (.cells #[i64 t.t, i64 t.p] 36 (0, 0)) → Ext w0 w →
   Ae (Cp e w) fun r => ∃ q, r.1 = .bool q ∧ Ext w0 r.2 := by
 intro d
 induction d with
 | zero =>
  intro k e w hd e0 e3 e5 X E0
  have zE0 := E0.size
  try simp only [qz] at zE0
  rw [Ei]
  obtain rfl : k = xs.length := by omega
  refine Ae.post fun Q hQ => ?_
  simp (disch := first | exact xD | fail) [-Option.bind_some, -Aa, -Ab, e0, e5]
  exact hQ _ ⟨false, rfl, E0⟩
 | succ d ih =>
  intro k e w hd e0 e3 e5 X E0
  have zE0 := E0.size
  try simp only [qz] at zE0
  rw [Ei]
  have hlt : k < xs.length := by omega
  have y := Aq X
  obtain ⟨x, hx, _⟩ := Ak hlt
  obtain ⟨b1, o1, cs1, rfl, A1, D1, _, l1⟩ := (ha.ext E0).at (by decide) hx
  obtain ⟨a2, c2, rfl, _, _⟩ := D.BV.1 D1
  have p0 := A1 0 _ rfl
  have p1 := A1 1 _ rfl
  have p2 := A1 2 _ rfl
  have p3 := A1 3 _ rfl
  have p4 := A1 4 _ rfl
  have p5 := A1 5 _ rfl
  simp only [Bw, Nat.add_zero] at p0 p1 p2 p3 p4 p5
  refine Ae.post fun Q hQ => ?_
  cases h1 : (x.tag.t == t.t)
  ·simp (disch := first | exact xD | fail) [-Option.bind_some, qs, -Aa, -Ab, e0, e3, e5, hlt, BP, X, h1, p1, p2]
   exact Ae.mono (ih (k + 1) _ _ (by omega) xA xA xA (by first | assumption | rfl | (simp (disch := first | exact xD | fail) [-Option.bind_some, qs, -Aa, -Ab, qm, X, e0, e3, e5, E0.Ai, hlt, p0, p1, p2, p3, p4, p5]; done)) xE) hQ
  ·cases h2 : (x.tag.p == t.p)
   ·simp (disch := first | exact xD | fail) [-Option.bind_some, qs, -Aa, -Ab, e0, e3, e5, hlt, BP, X, h1, h2, p1, p2]
    exact Ae.mono (ih (k + 1) _ _ (by omega) xA xA xA (by first | assumption | rfl | (simp (disch := first | exact xD | fail) [-Option.bind_some, qs, -Aa, -Ab, qm, X, e0, e3, e5, E0.Ai, hlt, p0, p1, p2, p3, p4, p5]; done)) xE) hQ
   ·simp (disch := first | exact xD | fail) [-Option.bind_some, -Aa, -Ab, e0, e3, e5, hlt, BP, X, h1, h2, p1, p2]
    exact hQ _ ⟨true, rfl, xE⟩
theorem Ln {a : Option Addr} {n c : Nat} {S : Nat → Prop} {xs : List Ver} {t : Tag} {w : World} (ha : D AQ S w [.slice a n c] xs) (hl : xs.length ≤ 1000000000) :
  Ae (EV P 139 #[.slice a n c, .agg #[i64 t.t, i64 t.p]] w) fun r => ∃ q, r.1 = .bool q ∧ Ext w r.2 := by
 obtain ⟨rfl, _⟩ := ha.n
 refine Ae.post fun Q hQ => ?_
 refine Ae.enter plain mixed (Jl _ _ _) (by kernel_rfl) (n := 2) (by kernel_rfl) rfl ?_
 simp (disch := first | exact xD | fail) [-Option.bind_some, -Aa, -Ab]
 exact Ae.mono (PE (t := t) (b := w.heap.size) ha hl xs.length 0 _ _ (by omega) xA xA xA (by first | assumption | rfl | (simp (disch := first | exact xD | fail) [-Option.bind_some, qs, -Aa, -Ab]; done)) xE) hQ
theorem QH {b1 b2 : Nat} {S1 : Nat → Prop} {p : PlaceD} {a a1 a2 : Option Addr} {c c1 c2 : Nat} {w0 : World} {z : Array Value} (hb1 : w0.heap.size ≤ b1) (hb2 : w0.heap.size ≤ b2) (h12 : b1 ≠ b2) (hc : D AV S1 w0 [.slice a p.chain.length c] p.chain) (hS1 : ∀ b, S1 b → b < w0.heap.size) (h4 : p.chain.length ≤ 4) (hz : z.size = 6) :
  ∀ (d k : Nat) (e : Env) (w : World) (q : Bool), k + d = p.chain.length → e 1 = pt b1 0 → e 2 = pt b2 0 → e 6 = .bool q → e 7 = i64 k → hp w b1 = some (.cells #[i64 p.me, i64 p.clock, .slice a p.chain.length c, .slice a1 p.log.length c1, .slice a2 p.Bu.length c2, .bool p.fell] 84 (0, 0)) →
   hp w b2 = some (.cells z 84 (0, 0)) → (∀ b, S1 b → hp w b = hp w0 b) →
   Ae (Dr e w) fun r => ∃ f, r.1 = .agg #[i64 p.me, i64 p.clock, .slice a p.chain.length c, .slice a1 p.log.length c1, .slice a2 p.Bu.length c2, .bool f] ∧ Mod (fun b => b = b1 ∨ b = b2) w r.2 := by
 intro d
 induction d with
 | zero =>
  intro k e w q hd e1 e2 e6 e7 X1 X2 hk
  rw [Fy]
  obtain rfl : k = p.chain.length := by omega
  have y1 := Aq X1
  have y2 := Aq X2
  have hz' : ∃ u0 u1 u2 u3 u4 u5, z = #[u0, u1, u2, u3, u4, u5] := by
   obtain ⟨l⟩ := z
   match l, hz with
   | [u0, u1, u2, u3, u4, u5], _ => exact ⟨u0, u1, u2, u3, u4, u5, rfl⟩
  obtain ⟨u0, u1, u2, u3, u4, u5, rfl⟩ := hz'
  refine Ae.post fun Q hQ => ?_
  cases hf : p.fell
  ·rw [hf] at X1
   simp (disch := first | exact xD | fail) [-Option.bind_some, qs, e1, e2, e6, e7, X1, X2]
   exact hQ _ ⟨false, rfl, xM⟩
  ·rw [hf] at X1
   cases q
   ·simp (disch := first | exact xD | fail) [-Option.bind_some, qs, e1, e2, e6, e7, X1, X2]
    exact hQ _ ⟨true, rfl, xM⟩
   ·simp (disch := first | exact xD | fail) [-Option.bind_some, qs, e1, e2, e6, e7, X1, X2]
    exact hQ _ ⟨false, rfl, xM⟩
 | succ d ih =>
  intro k e w q hd e1 e2 e6 e7 X1 X2 hk
  rw [Fy]
  have hlt : k < p.chain.length := by omega
  obtain ⟨x, hx, _⟩ := Ak hlt
  have hcw : D AV S1 w [.slice a p.chain.length c] p.chain := hc.Aj fun b hb _ => hk b hb
  obtain ⟨g, o, cs1, rfl, A1, D1, _, _⟩ := hcw.at (by decide) hx
  obtain ⟨a3, c3, a4, c4, rfl, _, _⟩ := D.node.1 D1
  have p0 := A1 0 _ rfl
  have p1 := A1 1 _ rfl
  simp only [Bd, Nat.add_zero] at p0 p1
  refine Ae.post fun Q hQ => ?_
  cases q
  ·simp (disch := first | exact xD | fail) [-Option.bind_some, qs, -Aa, -Ab, e1, e6, e7, X1, hlt]
   exact Ae.mono (ih (k + 1) _ w false (by omega) xA xA xA xA X1 X2 hk) hQ
  ·simp (disch := first | exact xD | fail) [-Option.bind_some, qs, -Aa, -Ab, e1, e6, e7, X1, hlt, Cx, p1]
   exact Ae.mono (ih (k + 1) _ w _ (by omega) xA xA rfl xA X1 X2 hk) hQ
theorem QI {M b1 b2 b3 : Nat} {S1 S2 S3 : Nat → Prop} {p : PlaceD} {x : CNode} {a a2 ast : Option Addr} {c c2 cs3 : Nat} {w0 : World} {z : Array Value} (hz : z.size = 6) (hM : M ≤ 1000000) (hb1 : w0.heap.size ≤ b1) (hb2 : w0.heap.size ≤ b2) (hb3 : w0.heap.size ≤ b3) (h12 : b1 ≠ b2) (h13 : b1 ≠ b3) (h23 : b2 ≠ b3)
  (hf : CK M p) (hc : D AV S1 w0 [.slice a p.chain.length c] p.chain) (hst : D AQ S1 w0 [.slice ast 4 cs3] x.store) (hx4 : x.store.length = 4) (hxk : ∀ v ∈ x.store, MR v) (hg : O PD S3 w0 [.slice a2 p.Bu.length c2] p.Bu) (hS1 : ∀ b, S1 b → b < w0.heap.size ∧ ¬ S2 b) (hS2 : ∀ b, S2 b → b < w0.heap.size) (hS3 : ∀ b, S3 b → b < w0.heap.size ∧ ¬ S2 b)
  (B : Nat) (hB1 : b1 < B) (hB2 : b2 < B) (hB3 : b3 < B) :
  ∀ (d k : Nat) (e : Env) (w : World) (log : List Ver) (a1 : Option Addr) (c1 : Nat), k + d = 4 → log.length ≤ M + k → (∀ v ∈ log, Oi v) → e 1 = pt b1 0 → e 2 = pt b2 0 → e 3 = pt b3 0 → e 4 = i64 k → B ≤ w.heap.size →
   hp w b1 = some (.cells #[i64 p.me, i64 p.clock, .slice a p.chain.length c, .slice a1 log.length c1, .slice a2 p.Bu.length c2, .bool p.fell] 84 (0, 0)) → hp w b2 = some (.cells z 84 (0, 0)) → hp w b3 = some (.cells #[.slice ast 4 cs3] 44 (0, 0)) →
   O AQ (fun b => S2 b ∨ In B w.heap.size b) w [.slice a1 log.length c1] log → (∀ b, b < w0.heap.size → ¬ S2 b → hp w b = hp w0 b) → Mod (fun b => S2 b ∨ w0.heap.size ≤ b) w0 w →
   Ae (Dn e w) fun r => ∃ (log' : List Ver) (a1' : Option Addr) (c1' : Nat) (f : Bool), r.1 = .agg #[i64 p.me, i64 p.clock, .slice a p.chain.length c, .slice a1' log'.length c1', .slice a2 p.Bu.length c2, .bool f] ∧ log'.length ≤ M + 4 ∧ (∀ v ∈ log', Oi v) ∧
    O AQ (fun b => S2 b ∨ In B r.2.heap.size b) r.2 [.slice a1' log'.length c1'] log' ∧ (∀ b, b < w0.heap.size → ¬ S2 b → hp r.2 b = hp w0 b) ∧ Mod (fun b => S2 b ∨ w0.heap.size ≤ b) w0 r.2 := by
 intro d
 induction d with
 | zero =>
  intro k e w log a1 c1 hd hl hlp e1 e2 e3 e4 hBw X1 X2 X3 ho hk M0
  have zM0 := M0.size
  try simp only [qz] at zM0
  rw [Fx]
  obtain rfl : k = 4 := by omega
  refine Ae.post fun Q hQ => ?_
  simp (disch := first | exact xD | fail) [-Option.bind_some, -Aa, -Ab, e4]
  refine Ae.mono (QH (p := { p with log := log }) (z := z) (w0 := w0) hb1 hb2 h12 (S1 := S1) hc (fun b hb => (hS1 b hb).1) hf.1.2.1 hz p.chain.length 0 _ w true (by simp) xA xA rfl xA X1 X2 (fun b hb => hk b (hS1 b hb).1 (hS1 b hb).2)) ?_
  rintro r ⟨f, h1, h2⟩
  refine hQ _ ⟨log, a1, c1, f, h1, by omega, hlp, (ho.Aj fun b hb hbl => h2.Ai b hbl fun h => ?_).wide ?_, fun b hb hn => (h2.Ai b (by have := M0.size; omega) (by omega)).trans (hk b hb hn), M0.tr (h2.Tp fun b _ h => .inr (by omega))⟩
  ·rcases hb with hb | hb
   ·have := hS2 b hb; omega
   ·simp only [In] at hb; omega
  ·intro b hb hbl
   rcases hb with hb | hb
   ·exact .inl hb
   ·have := h2.size
    simp only [In] at hb ⊢
    exact .inr (by omega)
 | succ d ih =>
  intro k e w log a1 c1 hd hl hlp e1 e2 e3 e4 hBw X1 X2 X3 ho hk M0
  have zM0 := M0.size
  try simp only [qz] at zM0
  rw [Fx]
  have y1 := Aq X1
  have y2 := Aq X2
  have y3 := Aq X3
  have hz0 := M0.size
  obtain ⟨v, hv, _⟩ := Ak (l := x.store) (k := k) (by omega)
  have hvk := hxk v (List.mem_of_getElem? hv)
  have hsw : D AQ S1 w [.slice ast 4 cs3] x.store := hst.Aj fun b hb _ => hk b (hS1 b hb).1 (hS1 b hb).2
  obtain ⟨g, o, cs1, rfl, A1, D1, _, _⟩ := hsw.at (by decide) hv
  have D1' := D1
  obtain ⟨a3, c3, rfl, _, _⟩ := D.BV.1 D1
  have p0 := A1 0 _ rfl
  have p1 := A1 1 _ rfl
  have p2 := A1 2 _ rfl
  have p3 := A1 3 _ rfl
  have p4 := A1 4 _ rfl
  have p5 := A1 5 _ rfl
  simp only [Bw, Nat.add_zero] at p0 p1 p2 p3 p4 p5
  refine Ae.post fun Q hQ => ?_
  have Qf : ∀ (e' : Env) (w' : World) (log' : List Ver) (a1' : Option Addr) (c1' : Nat), log'.length ≤ M + (k + 1) → (∀ v ∈ log', Oi v) → e' 1 = pt b1 0 → e' 2 = pt b2 0 → e' 3 = pt b3 0 → e' 4 = i64 k → B ≤ w'.heap.size →
   hp w' b1 = some (.cells #[i64 p.me, i64 p.clock, .slice a p.chain.length c, .slice a1' log'.length c1', .slice a2 p.Bu.length c2, .bool p.fell] 84 (0, 0)) → hp w' b2 = some (.cells z 84 (0, 0)) → hp w' b3 = some (.cells #[.slice (some ⟨g, o, none⟩) 4 cs3] 44 (0, 0)) →
   O AQ (fun b => S2 b ∨ In B w'.heap.size b) w' [.slice a1' log'.length c1'] log' → (∀ b, b < w0.heap.size → ¬ S2 b → hp w' b = hp w0 b) → Mod (fun b => S2 b ∨ w0.heap.size ≤ b) w0 w' → Ae (Dq e' w') Q := by
   intro e' w' log' a1' c1' f1 f2 g1 g2 g3 g4 g5 U1 U2 U3 uo uk uM
   rw [I2]
   simp (disch := first | exact xD | fail) [-Option.bind_some, qs, -Aa, -Ab, g4]
   exact Ae.mono (ih (k + 1) _ w' log' a1' c1' (by omega) f1 f2 xA xA xA xA g5 U1 U2 U3 uo uk uM) hQ
  by_cases ht : 0 < v.tag.t
  ·cases hpl : (v.tag.p == p.me)
   ·simp (disch := first | exact xD | fail) [-Option.bind_some, qs, -Aa, -Ab, qm, e1, e3, e4, X1, X3, show (k : Int) < 4 by omega, BP, ht, hpl, p0, p1, p2, p3, p4, p5]
    refine Qf _ _ log a1 c1 (by omega) hlp xA xA xA xA (by simp; omega) (by first | assumption | rfl | (simp (disch := first | exact xD | fail) [-Option.bind_some, qs, -Aa, -Ab, X1]; done)) (by first | assumption | rfl | (simp (disch := first | exact xD | fail) [-Option.bind_some, qs, -Aa, -Ab, X2]; done)) (by first | assumption | rfl | (simp (disch := first | exact xD | fail) [-Option.bind_some, qs, -Aa, -Ab, X3]; done)) ((ho.Aj (by intro b hS hb; (try dsimp only at hS); (try simp only [In] at hS hb); first | rfl | (simp (disch := first | exact xF | fail) only [qk]; done))).wide ?_) (fun b hb hn => (Ac (by omega)).trans ((Ag (by omega)).trans (hk b hb hn))) ((M0.al _).AL (.inr (.inr (by omega))) _)
    intro b hb hbl
    simp only [In, World.size_alloc, size_setRow] at hb ⊢
    rcases hb with hb | hb
    ·exact .inl hb
    ·exact .inr (by omega)
   ·simp (disch := first | exact xD | fail) [-Option.bind_some, qs, -Aa, -Ab, qm, e1, e3, e4, X1, X3, show (k : Int) < 4 by omega, BP, ht, hpl, p0, p1, p2, p3, p4, p5]
    refine Ae.bind (Ln (t := v.tag) ((ho.d).ext xE) (by omega)) ?_
    rintro ⟨_, w1⟩ ⟨q, rfl, E1⟩
    try dsimp only at q E1
    have zE1 := E1.size
    try simp only [qz] at zE1
    have keep1 : ∀ b, b < w.heap.size → hp w1 b = hp w b := fun b hb => (E1.Ai (by simp only [World.size_alloc, size_setRow]; omega)).trans ((Ac (by omega)).trans (Ag hb))
    cases q
    ·have Y1 := (keep1 b1 y1).trans X1
     have V1 : hp w1 w.heap.size = some (.cells #[i64 v.key, i64 v.tag.t, i64 v.tag.p, .slice a3 v.past.length c3, .string v.text, .bool v.gone] 49 (0, 0)) := (by first | assumption | rfl | (simp (disch := first | exact xD | fail) [-Option.bind_some, qs, -Aa, -Ab, E1.Ai]; done))
     simp (disch := first | exact xD | fail) [-Option.bind_some, -Aa, -Ab, Y1, V1]
     have Dv : D BW S1 (dw w1) [i64 v.key, i64 v.tag.t, i64 v.tag.p, .slice a3 v.past.length c3, .string v.text, .bool v.gone] v := D1'.Aj fun b hb hbl => (BB _ _).trans (keep1 b hbl)
     refine Ae.bind (AX Dv) ?_
     rintro ⟨_, w2⟩ ⟨ds, rfl, o2, E2⟩
     have zE2 := E2.size
     try simp only [qz] at zE2
     try dsimp only at o2 E2
     have zo2 := O.BV.1 o2
     obtain ⟨a5, c5, rfl, _, _⟩ := zo2
     have zE2 := E2.size
     simp only [Ad] at zE2
     have keep2 : ∀ b, b < w.heap.size → hp w2 b = hp w b := fun b hb => (E2.Ai (by simp only [Ad]; omega)).trans ((BB _ _).trans (keep1 b hb))
     have Z1 := (keep2 b1 y1).trans X1
     simp (disch := first | exact xD | fail) [-Option.bind_some, qs, -Aa, -Ab, Z1]
     have hol : O AQ (fun b => S2 b ∨ In B w.heap.size b) (w2.alloc (.cells #[i64 v.key, i64 v.tag.t, i64 v.tag.p, .slice a5 v.past.length c5, .string v.text, .bool v.gone] 49)) [.slice a1 log.length c1] log := ho.Aj fun b hb hbl => (Ag (by omega)).trans (keep2 b hbl)
     refine Ae.bind (O.app (L := BW) (mx := 1954687338211) (xs := log) (x := v) CP Fw rfl (by decide) hol (o2.Aj (by intro b hS hb; (try dsimp only at hS); (try simp only [In, qz] at hS hb); first | rfl | (simp (disch := first | exact xF | fail) only [qk]; done))) ?_ At.new (by omega) (by decide) (by decide)) ?_
     ·intro b hb q1 q2
      simp only [In, Ad] at q1 q2
      rcases q1 with q1 | q1
      ·have := hS2 b q1; omega
      ·omega
     rintro ⟨_, w3⟩ ⟨a7, c7, rfl, o7, M7⟩
     have zM7 := M7.size
     try simp only [qz] at zM7
     try dsimp only at o7 M7
     have zM7 := M7.size
     simp only [World.size_alloc] at zM7
     have nS : ∀ b, w0.heap.size ≤ b → b < B → ¬ (S2 b ∨ In B w.heap.size b) := by
      intro b h1 h2 h
      rcases h with h | h
      ·have := hS2 b h; omega
      ·simp only [In] at h; omega
     have keep3 : ∀ b, b < w.heap.size → ¬ (S2 b ∨ In B w.heap.size b) → hp w3 b = hp w b := fun b hb hn => (M7.Ai b (by simp only [World.size_alloc]; omega) hn).trans ((Ag (by omega)).trans (keep2 b hb))
     have T1 := (keep3 b1 y1 (nS b1 hb1 hB1)).trans X1
     have T2 := (keep3 b2 y2 (nS b2 hb2 hB2)).trans X2
     have T3 := (keep3 b3 y3 (nS b3 hb3 hB3)).trans X3
     simp (disch := first | exact xD | fail) [-Option.bind_some, -Aa, -Ab, qm, T1]
     have hle : (log ++ [v]).length = log.length + 1 := by simp
     refine Qf _ _ (log ++ [v]) a7 c7 (by omega) ?_ xA xA xA xA (by simp only [size_setRow]; omega) (by first | assumption | rfl | (simp (disch := first | exact xD | fail) [-Option.bind_some, -Aa, -Ab, T1, hle]; done)) ((Ac (Ne.symm h12)).trans T2) ((Ac (Ne.symm h13)).trans T3) ?_ ?_ ?_
     ·intro u hu
      rcases List.mem_append.1 hu with h | h
      ·exact hlp u h
      ·rw [List.mem_singleton.1 h]; exact ⟨hvk.1, hvk.2.1, hvk.2.2 ht⟩
     ·rw [hle]
      refine (o7.Aj fun b hb hbl => Ac ?_).wide ?_
      ·rintro rfl
       rcases hb with hb | hb | hb
       ·exact nS b hb1 hB1 hb
       ·simp only [In, Ad] at hb; omega
       ·simp only [World.size_alloc] at hb; omega
      ·intro b hb hbl
       simp only [In, size_setRow, Ad, World.size_alloc] at hb hbl ⊢
       rcases hb with (hb | hb) | hb | hb
       ·exact .inl hb
       ·exact .inr (by omega)
       ·exact .inr (by omega)
       ·exact .inr (by omega)
     ·intro b hb hn
      rw [Ac (by omega)]
      exact (keep3 b (by omega) (fun h => by rcases h with h | h; exact hn h; simp only [In] at h; omega)).trans (hk b hb hn)
     ·have Ma : Mod (fun b => S2 b ∨ w0.heap.size ≤ b) w (w2.alloc (.cells #[i64 v.key, i64 v.tag.t, i64 v.tag.p, .slice a5 v.past.length c5, .string v.text, .bool v.gone] 49)) := ((((Mod.al (Mod.rfl (S := fun b => S2 b ∨ w0.heap.size ≤ b)) _).AL (.inl (Nat.le_refl _)) _).ex E1).SN.ex E2).al _
      have Mb := Ma.tr (M7.Tp fun b _ h => by rcases h with h | h; exact .inl h; simp only [In] at h; exact .inr (by omega))
      exact (M0.tr Mb).AL (.inr (.inr hb1)) _
    ·have Y1 := (keep1 b1 y1).trans X1
     simp (disch := first | exact xD | fail) [-Option.bind_some, -Aa, -Ab]
     refine Qf _ _ log a1 c1 (by omega) hlp xA xA xA xA (by omega) Y1 ((keep1 b2 y2).trans X2) ((keep1 b3 y3).trans X3) ((ho.Aj fun b hb hbl => keep1 b hbl).wide ?_) (fun b hb hn => (keep1 b (by omega)).trans (hk b hb hn)) (((M0.al _).AL (.inr (.inr (by omega))) _).ex E1)
     intro b hb hbl
     simp only [In] at hb ⊢
     rcases hb with hb | hb
     ·exact .inl hb
     ·exact .inr (by omega)
  ·simp (disch := first | exact xD | fail) [-Option.bind_some, qs, -Aa, -Ab, qm, e1, e3, e4, X3, show (k : Int) < 4 by omega, BP, ht, p0, p1, p2, p3, p4, p5]
   refine Qf _ _ log a1 c1 (by omega) hlp xA xA xA xA (by simp; omega) (by first | assumption | rfl | (simp (disch := first | exact xD | fail) [-Option.bind_some, qs, -Aa, -Ab, X1]; done)) (by first | assumption | rfl | (simp (disch := first | exact xD | fail) [-Option.bind_some, qs, -Aa, -Ab, X2]; done)) (by first | assumption | rfl | (simp (disch := first | exact xD | fail) [-Option.bind_some, qs, -Aa, -Ab, X3]; done)) ((ho.Aj (by intro b hS hb; (try dsimp only at hS); (try simp only [In] at hS hb); first | rfl | (simp (disch := first | exact xF | fail) only [qk]; done))).wide ?_) (fun b hb hn => (Ac (by omega)).trans ((Ag (by omega)).trans (hk b hb hn))) ((M0.al _).AL (.inr (.inr (by omega))) _)
   intro b hb hbl
   simp only [In, World.size_alloc, size_setRow] at hb ⊢
   rcases hb with hb | hb
   ·exact .inl hb
   ·exact .inr (by omega)
theorem Lo {M : Nat} {S : Nat → Prop} {cs : List Value} {p : PlaceD} {w : World} (hf : CK M p) (hM : M ≤ 1000000) (ho : O Jf S w cs p) :
  Ae (EV P 127 #[.agg cs.toArray] w) fun r => ∃ (cs' : List Value) (p' : PlaceD), r.1 = .agg cs'.toArray ∧ CK (M + 4) p' ∧ O Jf (fun b => S b ∨ In w.heap.size r.2.heap.size b) r.2 cs' p' ∧ Mod S w r.2 := by
 obtain ⟨a, c, a1, c1, a2, c2, S1, S2, S3, rfl, q1, q2, q3, k1, k2, k3⟩ := O.He ho
 obtain ⟨hI, hl, hlp, hg3, hgl⟩ := hf
 have hI' := hI
 obtain ⟨h0, h4, hn⟩ := hI'
 obtain ⟨x, hx, _⟩ := Ak (l := p.chain) (k := p.chain.length - 1) (by omega)
 have hxn := hn x (List.mem_of_getElem? hx)
 obtain ⟨g, o, cs1, rfl, A1, D1, _, _⟩ := q1.d.at (by decide) hx
 obtain ⟨a3, c3, a4, c4, rfl, ds, _⟩ := D.node.1 D1
 rw [hxn.1] at ds A1
 have p0 := A1 0 _ rfl
 have p1 := A1 1 _ rfl
 simp only [Bd, Nat.add_zero] at p0 p1
 have hw1 : IntKind.i64.wrap ((p.chain.length : Int) - 1) = ((p.chain.length - 1 : Nat) : Int) := by rw [Kv (by omega) (by omega)]; omega
 refine Ae.post fun Q hQ => ?_
 refine Ae.enter plain mixed (LK _ _) (by kernel_rfl) (n := 1) (by kernel_rfl) rfl ?_
 simp (disch := first | exact xD | fail) [-Option.bind_some, qs, -Aa, -Ab, qm, hw1, Cx, hg3, p0]
 refine Ae.mono (QI (M := M) (b1 := w.heap.size) (b2 := w.heap.size + 1) (b3 := w.heap.size + 1 + 1) (S1 := S1) (S2 := S2) (S3 := S3) (p := p) (x := x) (w0 := w) (z := #[i64 0, i64 0, .slice none 0 0, .slice none 0 0, .slice none 0 0, .bool false]) rfl hM (by omega) (by omega) (by omega) (by omega) (by omega) (by omega)
  ⟨hI, hl, hlp, hg3, hgl⟩ q1.d ds hxn.1 hxn.2.2.1 q3 (fun b hb => ⟨(k1 b hb).2.2.2, (k1 b hb).2.1⟩) (fun b hb => (k2 b hb).2.2.2) (fun b hb => ⟨(k3 b hb).2.2.2, (k3 b hb).2.2.1⟩) (w.heap.size + 3) (by omega) (by omega) (by omega) 4 0 _ _ p.log a1 c1 (by omega) (by omega) hlp xA xA xA xA (by simp) (by first | assumption | rfl | (simp (disch := first | exact xD | fail) [-Option.bind_some, qs, -Aa, -Ab, hg3]; done)) (by first | assumption | rfl | (simp (disch := first | exact xD | fail) [-Option.bind_some, qs, -Aa, -Ab]; done)) (by first | assumption | rfl | (simp (disch := first | exact xD | fail) [-Option.bind_some, qs, -Aa, -Ab]; done)) ((q2.Aj ?_).wide (fun b hb _ => .inl hb)) ?_ ?_) ?_
 ·intro b hb hbl
  have := (k2 b hb).2.2.2
  simp (disch := (first | omega | (simp only [World.size_alloc, size_setRow]; omega))) only [Ac, Ag]
 ·intro b hb hn
  simp (disch := (first | omega | (simp only [World.size_alloc, size_setRow]; omega))) only [Ac, Ag]
 ·exact xM
 rintro ⟨_, w1⟩ ⟨log', a1', c1', f, rfl, h1, h2, o2, hk, M1⟩
 have zM1 := M1.size
 try simp only [] at zM1
 try dsimp only at o2 hk M1
 have zM1 := M1.size
 have hSl : ∀ b, S1 b ∨ S2 b ∨ S3 b → S b ∧ b < w.heap.size := by
  intro b hb
  rcases hb with h | h | h
  ·exact ⟨(k1 b h).1, (k1 b h).2.2.2⟩
  ·exact ⟨(k2 b h).1, (k2 b h).2.2.2⟩
  ·exact ⟨(k3 b h).1, (k3 b h).2.2.2⟩
 refine hQ _ ⟨_, { p with log := log', fell := f }, rfl, ⟨hI, h1, h2, hg3, hgl⟩, (O.DY (p := { p with log := log', fell := f }) (q1.Aj fun b hb hbl => hk b hbl (k1 b hb).2.1) o2 (q3.Aj fun b hb hbl => hk b hbl (k3 b hb).2.2.1) ?_ (fun b _ h h' => (k1 b h).2.2.1 h') ?_).wide ?_, ⟨M1.os, M1.tape, M1.output, M1.size, fun b hb hn => hk b hb fun h => hn (hSl b (.inr (.inl h))).1⟩⟩
 ·intro b hb h h'
  rcases h' with h' | h'
  ·exact (k1 b h).2.1 h'
  ·have := (k1 b h).2.2.2
   simp only [In] at h'; omega
 ·intro b hb h h'
  rcases h with h | h
  ·exact (k2 b h).2.2.1 h'
  ·have := (k3 b h').2.2.2
   simp only [In] at h; omega
 ·intro b hb hbl
  simp only [In] at hb hbl ⊢
  rcases hb with h | (h | h) | h
  ·exact .inl (hSl b (.inl h)).1
  ·exact .inl (hSl b (.inr (.inl h))).1
  ·exact .inr (by omega)
  ·exact .inl (hSl b (.inr (.inr h))).1
theorem RD {b : Nat} {a : Option Addr} {c : Nat} {S : Nat → Prop} {xs : List Tag} {w0 : World} (h4 : xs.length = 4) (X : hp w0 b = some (.cells #[.slice a 4 c] 32 (0, 0))) (ha : D AJ S w0 [.slice a 4 c] xs) :
  ∀ (d k : Nat) (e : Env) (n : Int), k + d = 4 → e 3 = pt b 0 → e 5 = i64 n → e 6 = i64 k → Ae (C4 e w0) fun r => ∃ m, r = (i64 m, w0) := by
 intro d
 induction d with
 | zero =>
  intro k e n hd e3 e5 e6
  rw [Fc]
  obtain rfl : k = 4 := by omega
  refine Ae.post fun Q hQ => ?_
  simp (disch := first | exact xD | fail) [-Option.bind_some, e5, e6]
  exact hQ _ ⟨_, rfl⟩
 | succ d ih =>
  intro k e n hd e3 e5 e6
  rw [Fc]
  obtain ⟨x, hx, _⟩ := Ak (l := xs) (k := k) (by omega)
  obtain ⟨b1, o1, cs1, rfl, A1, D1, _, _⟩ := ha.at (by decide) hx
  obtain rfl := D.tag.1 D1
  have p0 := A1 0 _ rfl
  have p1 := A1 1 _ rfl
  simp only [DK, Nat.add_zero] at p0 p1
  refine Ae.post fun Q hQ => ?_
  by_cases hg : n < x.t
  ·simp (disch := first | exact xD | fail) [-Option.bind_some, -Aa, -Ab, e3, e5, e6, X, show (k : Int) < 4 by omega, Em, hg, p0]
   rw [Fe]
   simp (disch := first | exact xD | fail) [-Option.bind_some, qs, -Aa, -Ab, e6]
   exact Ae.mono (ih (k + 1) _ _ (by omega) xA rfl xA) hQ
  ·simp (disch := first | exact xD | fail) [-Option.bind_some, -Aa, -Ab, e3, e5, e6, X, show (k : Int) < 4 by omega, Em, hg, p0]
   rw [Fe]
   simp (disch := first | exact xD | fail) [-Option.bind_some, qs, -Aa, -Ab, e6]
   exact Ae.mono (ih (k + 1) _ _ (by omega) xA xA xA) hQ
theorem F7 {a : Option Addr} {n c : Nat} {S : Nat → Prop} {xs : List Tag} {u0 u1 u2 u3 u4 : Value} {q : Int} {w : World} (h4 : xs.length = 4) (hu : ([u0, i64 q, u1, u2, u3, u4] : List Value).all Value.oneCell' = true) (ha : D AJ S w [.slice a n c] xs) :
  Ae (EV P 144 #[.agg #[u0, i64 q, u1, u2, u3, u4], .agg #[.slice a n c]] w) fun r => ∃ m, r.1 = i64 m ∧ Ext w r.2 := by
 obtain ⟨rfl, _⟩ := ha.n
 rw [h4] at ha ⊢
 refine Ae.post fun Q hQ => ?_
 refine Ae.enter plain mixed (KL _ _ _) (by kernel_rfl) (n := 2) (by kernel_rfl) rfl ?_
 simp (disch := first | exact xD | fail) [-Option.bind_some, qs, -Aa, -Ab]
 refine Ae.mono (RD (b := w.heap.size + 1) h4 (by first | assumption | rfl | (simp (disch := first | exact xD | fail) [-Option.bind_some, qs, -Aa, -Ab]; done)) (ha.ext xE) 4 0 _ _ (by omega) xA rfl xA) ?_
 rintro r ⟨m, rfl⟩
 exact hQ _ ⟨m, rfl, xE⟩
theorem Lp {a : Option Addr} {n c : Nat} {S : Nat → Prop} {ns : List CNode} {w : World} (hI : Lh ns) (ha : D AV S w [.slice a n c] ns) :
  Ae (EV P 143 #[.agg #[.slice a n c]] w) fun r => ∃ (a' : Option Addr) (c' : Nat) (ts : List Tag), ts.length = 4 ∧ r.1 = .agg #[.slice a' 4 c'] ∧ O AJ (In w.heap.size r.2.heap.size) r.2 [.slice a' 4 c'] ts ∧ Ext w r.2 := by
 obtain ⟨rfl, _⟩ := ha.n
 obtain ⟨h0, h4, hn⟩ := hI
 obtain ⟨x, hx, _⟩ := Ak (l := ns) (k := ns.length - 1) (by omega)
 have hs4 := (hn x (List.mem_of_getElem? hx)).1
 obtain ⟨b1, o1, cs1, rfl, A1, D1, _, l1⟩ := ha.at (by decide) hx
 obtain ⟨a2, c2, a3, c3, rfl, h2, h3⟩ := D.node.1 D1
 have p0 := A1 0 _ rfl
 have p1 := A1 1 _ rfl
 simp only [Bd, Nat.add_zero] at p0 p1
 have ht4 : (B9 x.store).length = 4 := by rw [B9, List.length_map]; exact hs4
 have hw1 : IntKind.i64.wrap ((ns.length : Int) - 1) = ((ns.length - 1 : Nat) : Int) := by rw [Kv (by omega) (by omega)]; omega
 refine Ae.post fun Q hQ => ?_
 refine Ae.enter plain mixed (Jm _ _) (by kernel_rfl) (n := 1) (by kernel_rfl) rfl ?_
 simp (disch := first | exact xD | fail) [-Option.bind_some, qs, -Aa, -Ab, Cx, hw1, p0]
 refine Ae.bind (HN hs4 (h2.ext xE)) ?_
 rintro ⟨_, w1⟩ ⟨a5, c5, rfl, o5, E1⟩
 try dsimp only at a5 c5 o5 E1
 have zE1 := E1.size
 try simp only [qz] at zE1
 rw [ht4] at o5
 simp (disch := first | exact xD | fail) [-Option.bind_some, qs, -Aa, -Ab, qm, ht4, E1.Ai]
 exact hQ _ ⟨_, _, _, ht4, rfl, (o5.Aj (by intro b hS hb; (try dsimp only at hS); (try simp only [In, qz] at hS hb); first | rfl | (simp (disch := first | exact xF | fail) only [qk]; done))).wide xV, xE⟩
theorem QJ {a : Option Addr} {c g1 g2 k key : Nat} {S : Nat → Prop} {ns : List CNode} {x : CNode} {v : Ver} {e : Env} {w : World} {z : Array Value} (hz : z.size = 6) (h4 : ns.length ≤ 4) (hs4 : x.store.length = 4) (hx : ns[k]? = some x) (hv : x.store[key]? = some v) (ha : D AV S w [.slice a ns.length c] ns)
  (e1 : e 1 = i64 k) (e2 : e 2 = i64 key) (e3 : e 3 = pt g1 0) (e6 : e 6 = pt g2 0) (X1 : hp w g1 = some (.cells #[.slice a ns.length c] 81 (0, 0))) (X2 : hp w g2 = some (.cells z 49 (0, 0))) :
  Ae (B7 e w) fun r => ∃ ds, r.1 = .agg ds.toArray ∧ O BW (In w.heap.size r.2.heap.size) r.2 ds v ∧ Mod (fun b => b = g2) w r.2 := by
 rw [Ic]
 have y1 := Aq X1
 have y2 := Aq X2
 have hlt : k < ns.length := (List.getElem?_eq_some_iff.1 hx).1
 have hlt2 : key < x.store.length := (List.getElem?_eq_some_iff.1 hv).1
 obtain ⟨b1, o1, cs1, rfl, A1, D1, _, l1⟩ := ha.at (by decide) hx
 obtain ⟨a2, c2, a3, c3, rfl, h2, h3⟩ := D.node.1 D1
 have p0 := A1 0 _ rfl
 have p1 := A1 1 _ rfl
 simp only [Bd, Nat.add_zero] at p0 p1
 obtain ⟨b2, o2, cs2, rfl, A2, D2, _, l2⟩ := h2.at (by decide) hv
 have D2' := D2
 obtain ⟨av, cv, rfl, _, _⟩ := D.BV.1 D2'
 have q0 := A2 0 _ rfl
 have q1 := A2 1 _ rfl
 have q2 := A2 2 _ rfl
 have q3 := A2 3 _ rfl
 have q4 := A2 4 _ rfl
 have q5 := A2 5 _ rfl
 simp only [Bw, Nat.add_zero] at q0 q1 q2 q3 q4 q5
 have hz' : ∃ u0 u1 u2 u3 u4 u5, z = #[u0, u1, u2, u3, u4, u5] := by
  obtain ⟨l⟩ := z
  match l, hz with
  | [u0, u1, u2, u3, u4, u5], _ => exact ⟨u0, u1, u2, u3, u4, u5, rfl⟩
 obtain ⟨u0, u1, u2, u3, u4, u5, rfl⟩ := hz'
 refine Ae.post fun Q hQ => ?_
 simp (disch := first | exact xD | fail) [-Option.bind_some, -Aa, -Ab, e1, e2, e3, e6, X1, Cx, BP, p0, q0, q1, q2, q3, q4, q5]
 refine Ae.bind (AX D2) ?_
 rintro ⟨_, w1⟩ ⟨ds, rfl, o3, E1⟩
 try dsimp only at ds o3 E1
 have zE1 := E1.size
 try simp only [qz] at zE1
 have zo3 := O.BV.1 o3
 obtain ⟨a5, c5, rfl, _, _⟩ := zo3
 have Y2 := (E1.Ai y2).trans X2
 simp (disch := first | exact xD | fail) [-Option.bind_some, -Aa, -Ab, qm, Y2]
 refine hQ _ ⟨_, rfl, (o3.Aj fun b hb hbl => Ac (by simp only [In] at hb; omega)).wide (fun b hb _ => by simp only [In, size_setRow] at hb ⊢; omega), ((Mod.rfl (S := fun b => b = g2)).ex E1).AL (.inr rfl) _⟩
theorem Ns {a : Option Addr} {n c k key : Nat} {S : Nat → Prop} {ns : List CNode} {w : World} (hI : Lh ns) (hk : k < ns.length) (hy : key < 4) (ha : D AV S w [.slice a n c] ns) :
  Ae (EV P 137 #[.agg #[.slice a n c], i64 k, i64 key] w) fun r => ∃ (ds : List Value) (v : Ver), MR v ∧ r.1 = .agg ds.toArray ∧ O BW (In w.heap.size r.2.heap.size) r.2 ds v ∧ Ext w r.2 := by
 obtain ⟨rfl, _⟩ := ha.n
 obtain ⟨h0, h4, hn⟩ := hI
 have fin : ∀ (k' : Nat) (e : Env) (w1 : World) (Q : Value × World → Prop), k' < ns.length → e 1 = i64 k' → e 2 = i64 key → e 3 = pt w.heap.size 0 → e 6 = pt (w.heap.size + 1) 0 → hp w1 w.heap.size = some (.cells #[.slice a ns.length c] 81 (0, 0)) → hp w1 (w.heap.size + 1) = some (.cells #[i64 0, i64 0, i64 0, .slice none 0 0, .string ⟨#[]⟩, .bool false] 49 (0, 0)) → Ext w w1 →
   (∀ r, (∃ (ds : List Value) (v : Ver), MR v ∧ r.1 = .agg ds.toArray ∧ O BW (In w.heap.size r.2.heap.size) r.2 ds v ∧ Ext w r.2) → Q r) → Ae (B7 e w1) Q := by
  intro k' e w1 Q hk' e1 e2 e3 e6 X1 X2 E0 hQ
  have zE0 := E0.size
  try simp only [qz] at zE0
  obtain ⟨x, hx, _⟩ := Ak (l := ns) (k := k') hk'
  have hxn := hn x (List.mem_of_getElem? hx)
  obtain ⟨v, hv, _⟩ := Ak (l := x.store) (k := key) (by have := hxn.1; omega)
  have y2 := Aq X2
  refine Ae.mono (QJ (z := #[i64 0, i64 0, i64 0, .slice none 0 0, .string ⟨#[]⟩, .bool false]) rfl h4 hxn.1 hx hv (ha.ext E0) e1 e2 e3 e6 X1 X2) ?_
  rintro r ⟨ds, h1, o1, M1⟩
  have zM1 := M1.size
  try simp only [qz] at zM1
  have zM1 := M1.size
  have zE0' := E0.size
  exact hQ _ ⟨ds, v, hxn.2.2.1 v (List.mem_of_getElem? hv), h1, o1.wide (fun b hb _ => by simp only [In] at hb ⊢; omega), Mod.after E0 M1 (fun b h1 h2 => by have h2 : b = w.heap.size + 1 := h2; omega)⟩
 refine Ae.post fun Q hQ => ?_
 refine Ae.enter plain mixed (Kn _ _ _ _) (by kernel_rfl) (n := 3) (by kernel_rfl) rfl ?_
 by_cases hk0 : k = 0
 ·subst hk0
  by_cases h1 : 1 < ns.length
  ·simp (disch := first | exact xD | fail) [-Option.bind_some, qs, -Aa, -Ab, show (1 : Int) < ns.length by omega]
   exact fin 1 _ _ Q h1 rfl xA rfl rfl (by first | assumption | rfl | (simp (disch := first | exact xD | fail) [-Option.bind_some, qs, -Aa, -Ab]; done)) (by first | assumption | rfl | (simp (disch := first | exact xD | fail) [-Option.bind_some, qs, -Aa, -Ab]; done)) xE hQ
  ·simp (disch := first | exact xD | fail) [-Option.bind_some, qs, -Aa, -Ab, show ¬ (1 : Int) < ns.length by omega]
   exact fin 0 _ _ Q (by omega) rfl xA rfl rfl (by first | assumption | rfl | (simp (disch := first | exact xD | fail) [-Option.bind_some, qs, -Aa, -Ab]; done)) (by first | assumption | rfl | (simp (disch := first | exact xD | fail) [-Option.bind_some, qs, -Aa, -Ab]; done)) xE hQ
 ·have hkb : ((k : Int) == 0) = false := by simpa using hk0
  simp (disch := first | exact xD | fail) [-Option.bind_some, -Aa, -Ab, hkb]
  exact fin k _ _ Q hk rfl xA rfl rfl (by first | assumption | rfl | (simp (disch := first | exact xD | fail) [-Option.bind_some, qs, -Aa, -Ab]; done)) (by first | assumption | rfl | (simp (disch := first | exact xD | fail) [-Option.bind_some, qs, -Aa, -Ab]; done)) xE hQ
def later (head : List Ver) (v : Ver) : Bool := match head[v.key.toNat]? with
 | some u => AG u.tag v.tag
 | none => false
def GX (head : List Ver) : List Ver → Nat → Int
 | [], _ => -1
 | v :: l, k => if later head v then (k : Int) else GX head l (k + 1)
theorem Lq {head : List Ver} : ∀ (l : List Ver) (k : Nat), GX head l k = -1 ∨ ∃ j : Nat, GX head l k = (j : Int) ∧ k ≤ j ∧ j < k + l.length
 | [], _ => .inl rfl
 | v :: l, k => by
  rw [GX]
  split
  ·exact .inr ⟨k, rfl, Nat.le_refl _, by simp⟩
  ·rcases Lq l (k + 1) with h | ⟨j, h, h1, h2⟩
   ·exact .inl h
   ·exact .inr ⟨j, h, by omega, by simp only [List.length_cons]; omega⟩
def HK (p : PlaceD) (i : Nat) : Int := match p.chain[0]?, p.Bu[i]? with
 | some x, some l => GX x.store l 0
 | _, _ => -1
theorem QK {M i b1 b2 : Nat} {p : PlaceD} {x : CNode} {l : List Ver} {a a1 a2 as' : Option Addr} {c c1 c2 cs' : Nat} {S : Nat → Prop} {w0 : World} (hi : i < p.Bu.length) (gl3 : p.Bu.length = 3) (hgl : p.Bu[i]? = some l) (hl60 : l.length ≤ 60 ∧ ∀ v ∈ l, Oi v) (hs4 : x.store.length = 4)
  (hst : D AQ S w0 [.slice as' 4 cs'] x.store) (hg : D PD S w0 [.slice a2 p.Bu.length c2] p.Bu) :
  ∀ (d k : Nat) (e : Env) (w : World), k + d = l.length → e 1 = i64 i → e 2 = pt b1 0 → e 5 = pt b2 0 → e 6 = i64 k →
   hp w b1 = some (.cells #[i64 p.me, i64 p.clock, .slice a p.chain.length c, .slice a1 p.log.length c1, .slice a2 p.Bu.length c2, .bool p.fell] 84 (0, 0)) → hp w b2 = some (.cells #[.slice as' 4 cs'] 44 (0, 0)) → Ext w0 w →
   Ae (CI e w) fun r => r.1 = i64 (GX x.store (l.drop k) k) ∧ Ext w0 r.2 := by
 intro d
 induction d with
 | zero =>
  intro k e w hd e1 e2 e5 e6 X1 X2 E0
  have zE0 := E0.size
  try simp only [qz] at zE0
  rw [EH]
  obtain rfl : k = l.length := by omega
  obtain ⟨b3, o3, cs3, rfl, A3, D3, _, _⟩ := (hg.ext E0).at (by decide) hgl
  obtain ⟨a4, c4, rfl, D4⟩ := D3.Gn
  have p0 := A3 0 _ rfl
  simp only [Nat.add_zero] at p0
  simp only [Gx, Nat.mul_one] at p0
  rw [List.drop_length, GX]
  refine Ae.post fun Q hQ => ?_
  simp (disch := first | exact xD | fail) [-Option.bind_some, -Aa, -Ab, e1, e2, e6, X1, HM, p0]
  exact hQ _ ⟨rfl, E0⟩
 | succ d ih =>
  intro k e w hd e1 e2 e5 e6 X1 X2 E0
  have zE0 := E0.size
  try simp only [qz] at zE0
  rw [EH]
  have hlt : k < l.length := by omega
  have y1 := Aq X1
  have y2 := Aq X2
  obtain ⟨v, hv, hdv⟩ := Ak hlt
  have hvp := hl60.2 v (List.mem_of_getElem? hv)
  obtain ⟨b3, o3, cs3, rfl, A3, D3, _, _⟩ := (hg.ext E0).at (by decide) hgl
  obtain ⟨a4, c4, rfl, D4⟩ := D3.Gn
  have p0 := A3 0 _ rfl
  simp only [Nat.add_zero] at p0
  simp only [Gx, Nat.mul_one] at p0
  obtain ⟨b5, o5, cs5, rfl, A5, D5, _, _⟩ := D4.at (by decide) hv
  obtain ⟨av, cv, rfl, _, _⟩ := D.BV.1 D5
  have q0 := A5 0 _ rfl
  have q1 := A5 1 _ rfl
  have q2 := A5 2 _ rfl
  have q3 := A5 3 _ rfl
  have q4 := A5 4 _ rfl
  have q5 := A5 5 _ rfl
  simp only [Bw, Nat.add_zero] at q0 q1 q2 q3 q4 q5
  obtain ⟨ky, hky⟩ := Int.eq_ofNat_of_zero_le hvp.1
  have hk4 : ky < 4 := by have := hvp.2.1; omega
  obtain ⟨u, hu, _⟩ := Ak (l := x.store) (k := ky) (by omega)
  obtain ⟨b6, o6, cs6, rfl, A6, D6, _, _⟩ := (hst.ext E0).at (by decide) hu
  obtain ⟨au, cu, rfl, _, _⟩ := D.BV.1 D6
  have m0 := A6 0 _ rfl
  have m1 := A6 1 _ rfl
  have m2 := A6 2 _ rfl
  have m3 := A6 3 _ rfl
  have m4 := A6 4 _ rfl
  have m5 := A6 5 _ rfl
  simp only [Bw, Nat.add_zero] at m0 m1 m2 m3 m4 m5
  have hlt9 : later x.store v = AG u.tag v.tag := by rw [later, hky, Int.toNat_natCast, hu]
  rw [hdv, GX, hlt9]
  rw [hky] at q0
  refine Ae.post fun Q hQ => ?_
  simp (disch := first | exact xD | fail) [-Option.bind_some, qs, -Aa, -Ab, qm, e1, e2, e5, e6, X1, X2, hlt, HM, BP, p0, q0, q1, q2, q3, q4, q5, m1, m2]
  refine Ae.bind (AM u.tag v.tag _) ?_
  rintro ⟨_, w1⟩ ⟨rfl, E1⟩
  try dsimp only at E1
  have zE1 := E1.size
  try simp only [qz] at zE1
  have EX : Ext w w1 := xE
  cases hc : AG u.tag v.tag
  ·rw [hc] at hQ
   simp (disch := first | exact xD | fail) [-Option.bind_some, -Aa, -Ab]
   refine Ae.mono (ih (k + 1) _ w1 (by omega) xA xA xA xA ((EX.Ai y1).trans X1) ((EX.Ai y2).trans X2) (E0.tr EX)) ?_
   rintro r ⟨h1, h2⟩
   exact hQ _ ⟨h1, h2⟩
  ·rw [hc] at hQ
   simp (disch := first | exact xD | fail) [-Option.bind_some, -Aa, -Ab]
   exact hQ _ ⟨rfl, E0.tr EX⟩
theorem JI {M i : Nat} {S : Nat → Prop} {cs : List Value} {p : PlaceD} {w : World} (hf : CK M p) (hi : i < 3) (ho : D Jf S w cs p) :
  Ae (EV P 141 #[.agg cs.toArray, i64 i] w) fun r => r.1 = i64 (HK p i) ∧ Ext w r.2 := by
 obtain ⟨a, c, a1, c1, a2, c2, rfl, q1, q2, q3⟩ := D.place.1 ho
 obtain ⟨⟨h0, h4, hn⟩, hl, hlp, gl3, hgl⟩ := hf
 obtain ⟨x, hx, _⟩ := Ak (l := p.chain) (k := 0) (by omega)
 obtain ⟨l, hgi, _⟩ := Ak (l := p.Bu) (k := i) (by omega)
 have hxn := hn x (List.mem_of_getElem? hx)
 obtain ⟨g, o, cs1, rfl, A1, D1, _, _⟩ := q1.at (by decide) hx
 obtain ⟨a3, c3, a4, c4, rfl, ds, _⟩ := D.node.1 D1
 have p0 := A1 0 _ rfl
 have p1 := A1 1 _ rfl
 simp only [Bd, Nat.add_zero] at p0 p1
 rw [hxn.1] at ds p0
 have e0 : HK p i = GX x.store (l.drop 0) 0 := by rw [HK, hx, hgi]; rfl
 rw [e0]
 refine Ae.post fun Q hQ => ?_
 refine Ae.enter plain mixed (J5 _ _ _) (by kernel_rfl) (n := 2) (by kernel_rfl) rfl ?_
 simp (disch := first | exact xD | fail) [-Option.bind_some, qs, -Aa, -Ab, qm, Cx, p0]
 refine Ae.mono (QK (M := M) (p := p) (w0 := w) (a := some ⟨g, o, none⟩) (c := c) (a1 := a1) (c1 := c1) (by omega) gl3 hgi (hgl l (List.mem_of_getElem? hgi)) hxn.1 ds q3 l.length 0 _ _ (by simp) xA rfl rfl xA (by first | assumption | rfl | (simp (disch := first | exact xD | fail) [-Option.bind_some, qs, -Aa, -Ab]; done)) (by first | assumption | rfl | (simp (disch := first | exact xD | fail) [-Option.bind_some, qs, -Aa, -Ab]; done)) xE) hQ
theorem OU {M i : Nat} {S : Nat → Prop} {cs : List Value} {p : PlaceD} {x : CNode} {w : World} (hf : CK M p) (hi : i < 3) (hx : p.chain[0]? = some x) (ho : D Jf S w cs p) :
  Ae (EV P 131 #[.agg cs.toArray, i64 i] w) fun r => ∃ q, r.1 = .bool q ∧ (q = true → HK p i ≠ -1 ∧ x.wait.length < 6) ∧ Ext w r.2 := by
 have ho' := ho
 obtain ⟨a, c, a1, c1, a2, c2, rfl, q1, q2, q3⟩ := D.place.1 ho'
 have hf' := hf
 obtain ⟨hI, hl, hlp, gl3, hgl⟩ := hf'
 obtain ⟨l, hgi, _⟩ := Ak (l := p.Bu) (k := i) (by omega)
 have hl60 := hgl l (List.mem_of_getElem? hgi)
 obtain ⟨b3, o3, cs3, rfl, A3, D3, _, _⟩ := q3.at (by decide) hgi
 obtain ⟨a4, c4, rfl, D4⟩ := D3.Gn
 have p0 := A3 0 _ rfl
 simp only [Nat.add_zero] at p0
 simp only [Gx, Nat.mul_one] at p0
 have hlk : HK p i = GX x.store l 0 := by rw [HK, hx, hgi]
 refine Ae.post fun Q hQ => ?_
 refine Ae.enter plain mixed (I5 _ _ _) (by kernel_rfl) (n := 2) (by kernel_rfl) rfl ?_
 simp (disch := first | exact xD | fail) [-Option.bind_some, qs, -Aa, -Ab]
 refine Ae.bind (JI hf hi (ho.ext xE)) ?_
 rintro ⟨_, w1⟩ ⟨rfl, E1⟩
 try dsimp only at E1
 have zE1 := E1.size
 try simp only [qz] at zE1
 rcases Lq (head := x.store) l 0 with h | ⟨j, h, _, hj⟩
 ·rw [hlk, h]
  simp (disch := first | exact xD | fail) [-Option.bind_some, -Aa, -Ab]
  exact hQ _ ⟨false, rfl, by simp, xE⟩
 ·rw [hlk, h]
  have hjl : j < l.length := by omega
  obtain ⟨v, hv, _⟩ := Ak hjl
  have hvp := hl60.2 v (List.mem_of_getElem? hv)
  obtain ⟨b5, o5, cs5, rfl, A5, D5, _, _⟩ := D4.at (by decide) hv
  obtain ⟨av, cv, rfl, hq1, _⟩ := D.BV.1 D5
  have t0 := A5 0 _ rfl
  have t1 := A5 1 _ rfl
  have t2 := A5 2 _ rfl
  have t3 := A5 3 _ rfl
  have t4 := A5 4 _ rfl
  have t5 := A5 5 _ rfl
  simp only [Bw, Nat.add_zero] at t0 t1 t2 t3 t4 t5
  simp (disch := first | exact xD | fail) [-Option.bind_some, qs, -Aa, -Ab, show (0 : Int) ≤ j by omega, E1.Ai]
  refine Ae.bind (HJ hx (q1.ext xE)) ?_
  rintro ⟨_, w2⟩ ⟨rfl, E2⟩
  try dsimp only at E2
  have zE2 := E2.size
  try simp only [qz] at zE2
  by_cases h6 : x.wait.length < 6
  ·simp (disch := first | exact xD | fail) [-Option.bind_some, qs, -Aa, -Ab, h6, HM, BP, p0, E1.Ai, t3, E2.Ai]
   refine Ae.bind (Lp hI (q1.ext xE)) ?_
   rintro ⟨_, w3⟩ ⟨a7, c7, ts, ht4, rfl, o7, E3⟩
   try dsimp only at a7 c7 ts ht4 o7 E3
   have zE3 := E3.size
   try simp only [qz] at zE3
   simp (disch := first | exact xD | fail) [-Option.bind_some, qs, -Aa, -Ab, p0, E1.Ai, t3, E2.Ai, E3.Ai]
   have o7' : D AJ (In w2.heap.size w3.heap.size) w3 [.slice a7 ts.length c7] ts := by rw [ht4]; exact o7.d
   refine Ae.bind (Ec hvp.2.2 ht4 (D.A0 (hq1.ext xE)) (D.A0 o7.d)) ?_
   rintro ⟨_, w4⟩ ⟨rfl, E4⟩
   try dsimp only at E4
   have zE4 := E4.size
   try simp only [qz] at zE4
   simp (disch := first | exact xD | fail) [-Option.bind_some, -Aa, -Ab]
   exact hQ _ ⟨_, rfl, fun _ => ⟨by rw [hlk, h]; omega, h6⟩, xE⟩
  ·simp (disch := first | exact xD | fail) [-Option.bind_some, -Aa, -Ab, h6]
   exact hQ _ ⟨false, rfl, by simp, xE⟩
theorem OV {M : Nat} {S : Nat → Prop} {cs : List Value} {p : PlaceD} {n : Int} {w : World} (hf : CK M p) (ho : D Jf S w cs p) :
  Ae (EV P 128 #[.agg cs.toArray, i64 n] w) fun r => ∃ q, r.1 = .bool q ∧ (q = true → 1 < p.chain.length ∧ 0 ≤ n ∧ n < p.chain.length) ∧ Ext w r.2 := by
 obtain ⟨a, c, a1, c1, a2, c2, rfl, q1, q2, q3⟩ := D.place.1 ho
 obtain ⟨⟨h0, h4, hn⟩, hl, hlp, gl3, hgl⟩ := hf
 have hw1 : IntKind.i64.wrap ((p.chain.length : Int) - 1) = ((p.chain.length - 1 : Nat) : Int) := by rw [Kv (by omega) (by omega)]; omega
 refine Ae.post fun Q hQ => ?_
 refine Ae.enter plain mixed (I3 _ _ _) (by kernel_rfl) (n := 2) (by kernel_rfl) rfl ?_
 cases hfl : p.fell
 ·by_cases h1 : 1 < p.chain.length
  ·simp (disch := first | exact xD | fail) [-Option.bind_some, qs, -Aa, -Ab, hw1, show (1 : Int) < p.chain.length by omega]
   refine Ae.bind (AD _ _ _ _) ?_
   rintro _ rfl
   simp (disch := first | exact xD | fail) [-Option.bind_some, -Aa, -Ab]
   refine hQ _ ⟨_, rfl, fun h => ?_, xE⟩
   simp only [Bool.and_eq_true, decide_eq_true_eq] at h
   omega
  ·simp (disch := first | exact xD | fail) [-Option.bind_some, qs, -Aa, -Ab, show ¬ (1 : Int) < p.chain.length by omega]
   exact hQ _ ⟨false, rfl, by simp, xE⟩
 ·simp (disch := first | exact xD | fail) [-Option.bind_some, qs, -Aa, -Ab]
  exact hQ _ ⟨false, rfl, by simp, xE⟩
theorem Tc {M : Nat} {S S1 : Nat → Prop} {cs : List Value} {p : PlaceD} {x : CNode} {a0 : Option Addr} {n0 c0 : Nat} {past : List Tag} {w : World} (hf : CK M p) (hx : p.chain[0]? = some x) (ho : D Jf S w cs p) (hp4 : past.length = 4) (hpa : D AJ S1 w [.slice a0 n0 c0] past) :
  Ae (EV P 134 #[.agg cs.toArray, .agg #[.slice a0 n0 c0]] w) fun r => ∃ q, r.1 = .bool q ∧ (q = true → x.wait.length < 6) ∧ Ext w r.2 := by
 obtain ⟨rfl, _⟩ := hpa.n
 obtain ⟨a, c, a1, c1, a2, c2, rfl, q1, q2, q3⟩ := D.place.1 ho
 have hf' := hf
 obtain ⟨hI, hl, hlp, gl3, hgl⟩ := hf'
 refine Ae.post fun Q hQ => ?_
 refine Ae.enter plain mixed (Nj _ _ _) (by kernel_rfl) (n := 2) (by kernel_rfl) rfl ?_
 simp (disch := first | exact xD | fail) [-Option.bind_some, qs, -Aa, -Ab]
 refine Ae.bind (Lp hI (q1.ext xE)) ?_
 rintro ⟨_, w1⟩ ⟨a7, c7, ts, ht4, rfl, o7, E1⟩
 try dsimp only at a7 c7 ts ht4 o7 E1
 have zE1 := E1.size
 try simp only [qz] at zE1
 simp (disch := first | exact xD | fail) [-Option.bind_some, qs, -Aa, -Ab, E1.Ai]
 refine Ae.bind (Ec hp4 ht4 (D.A0 (hpa.ext xE)) (D.A0 o7.d)) ?_
 rintro ⟨_, w2⟩ ⟨rfl, E2⟩
 try dsimp only at E2
 have zE2 := E2.size
 try simp only [qz] at zE2
 cases hu : under past ts
 ·simp (disch := first | exact xD | fail) [-Option.bind_some, qs, -Aa, -Ab, E1.Ai, E2.Ai]
  exact hQ _ ⟨false, rfl, by simp, xE⟩
 ·simp (disch := first | exact xD | fail) [-Option.bind_some, qs, -Aa, -Ab, E1.Ai, E2.Ai]
  refine Ae.bind (HJ hx (q1.ext xE)) ?_
  rintro ⟨_, w3⟩ ⟨rfl, E3⟩
  try dsimp only at E3
  have zE3 := E3.size
  try simp only [qz] at zE3
  by_cases h6 : x.wait.length < 6
  ·simp (disch := first | exact xD | fail) [-Option.bind_some, qs, -Aa, -Ab, h6, E1.Ai, E2.Ai, E3.Ai]
   refine Ae.bind (F7 hp4 rfl (hpa.ext xE)) ?_
   rintro ⟨_, w4⟩ ⟨m, rfl, E4⟩
   try dsimp only at m E4
   have zE4 := E4.size
   try simp only [qz] at zE4
   by_cases hm : m ≤ 999
   ·by_cases h36 : p.log.length < 36
    ·simp (disch := first | exact xD | fail) [-Option.bind_some, qs, -Aa, -Ab, hm, show (p.log.length : Int) < 36 by omega, E1.Ai, E2.Ai, E3.Ai, E4.Ai]
     exact hQ _ ⟨true, rfl, fun _ => h6, xE⟩
    ·simp (disch := first | exact xD | fail) [-Option.bind_some, qs, -Aa, -Ab, hm, show ¬ (p.log.length : Int) < 36 by omega, E1.Ai, E2.Ai, E3.Ai, E4.Ai]
     exact hQ _ ⟨false, rfl, by simp, xE⟩
   ·simp (disch := first | exact xD | fail) [-Option.bind_some, -Aa, -Ab, hm]
    exact hQ _ ⟨false, rfl, by simp, xE⟩
  ·simp (disch := first | exact xD | fail) [-Option.bind_some, qs, -Aa, -Ab, h6, E1.Ai, E2.Ai, E3.Ai]
   exact hQ _ ⟨false, rfl, by simp, xE⟩
 -- STEPS
theorem Qh {M : Nat} {p : PlaceD} {x : CNode} {v : Ver} {vcs : List Value} {a a1 a2 : Option Addr} {c c1 c2 : Nat} {S1 S2 S3 Sv : Nat → Prop} {w : World} {clk : Int} (hf : CK M p) (hM : M ≤ 1000000) (hx : p.chain[0]? = some x) (h6 : x.wait.length < 6) (hv : MR v)
  (q1 : O AV S1 w [.slice a p.chain.length c] p.chain) (q2 : O AQ S2 w [.slice a1 p.log.length c1] p.log) (q3 : O PD S3 w [.slice a2 p.Bu.length c2] p.Bu) (k1 : ∀ b, S1 b → ¬ S2 b ∧ ¬ S3 b ∧ b < w.heap.size) (k2 : ∀ b, S2 b → ¬ S1 b ∧ ¬ S3 b ∧ b < w.heap.size) (k3 : ∀ b, S3 b → ¬ S1 b ∧ ¬ S2 b ∧ b < w.heap.size)
  (dv : D BW Sv w vcs v) (hd : ∀ b, b < w.heap.size → Sv b → ¬ S1 b) :
  Ae (EV P 138 #[.agg #[.slice a p.chain.length c], i64 0, .agg vcs.toArray] w) fun r => r.1 = .agg #[.slice a p.chain.length c] ∧ Mod S1 w r.2 ∧ ∀ w3 : World, (∀ b, (S1 b ∨ S2 b ∨ S3 b ∨ In w.heap.size r.2.heap.size b) → b < r.2.heap.size → hp w3 b = hp r.2 b) → r.2.heap.size ≤ w3.heap.size →
   Ae (EV P 127 #[.agg #[i64 p.me, i64 clk, .slice a p.chain.length c, .slice a1 p.log.length c1, .slice a2 p.Bu.length c2, .bool p.fell]] w3) fun r' => ∃ (cs' : List Value) (p' : PlaceD), r'.1 = .agg cs'.toArray ∧ CK (M + 4) p' ∧ O Jf (fun b => S1 b ∨ S2 b ∨ S3 b ∨ (w.heap.size ≤ b ∧ b < r'.2.heap.size)) r'.2 cs' p' ∧ Mod (fun b => S1 b ∨ S2 b ∨ S3 b ∨ In w.heap.size r.2.heap.size b) w3 r'.2 := by
 obtain ⟨hI, hl, hlp, gl3, hgl⟩ := hf
 have hxn := hI.2.2 x (List.mem_of_getElem? hx)
 refine Ae.mono (IU (i := 0) q1 dv hd hx hv.1 (by rw [hxn.1]; have := hv.2.1; omega) (by omega) (by have := hI.2.1; omega)) ?_
 rintro ⟨_, w1⟩ ⟨rfl, o1, M1⟩
 have zM1 := M1.size
 try simp only [] at zM1
 try dsimp only at o1 M1
 have zM1 := M1.size
 refine ⟨rfl, M1, fun w3 hk hz => ?_⟩
 dsimp only at hk hz ⊢
 have hI' := OR hI hx h6 hv
 have hal : (F8 p.chain 0 v).length = p.chain.length := IV _ _ _
 obtain ⟨p1, hp1⟩ : ∃ p1 : PlaceD, p1 = { p with clock := clk, chain := F8 p.chain 0 v } := ⟨_, rfl⟩
 have ho := O.DY (p := p1) (w := w3) (S1 := fun b => S1 b ∨ In w.heap.size w1.heap.size b) (S2 := S2) (S3 := S3) (s := .slice a p.chain.length c) (t := .slice a1 p.log.length c1) (u := .slice a2 p.Bu.length c2)
  (by rw [hp1]; exact o1.Aj fun b hb hbl => hk b (by rcases hb with h | h; exact .inl h; exact .inr (.inr (.inr h))) hbl)
  (by rw [hp1]; exact (q2.Aj fun b hb hbl => (hk b (.inr (.inl hb)) (by omega)).trans (M1.Ai b hbl (k2 b hb).1)))
  (by rw [hp1]; exact (q3.Aj fun b hb hbl => (hk b (.inr (.inr (.inl hb))) (by omega)).trans (M1.Ai b hbl (k3 b hb).1)))
  (fun b _ h h' => by rcases h with h | h; exact (k1 b h).1 h'; have := (k2 b h').2.2; simp only [In] at h; omega)
  (fun b _ h h' => by rcases h with h | h; exact (k1 b h).2.1 h'; have := (k3 b h').2.2; simp only [In] at h; omega)
  (fun b _ h h' => (k2 b h).2.1 h')
 have hfp : CK M p1 := by rw [hp1]; exact ⟨hI', hl, hlp, gl3, hgl⟩
 have ecs : [i64 p1.me, i64 p1.clock, .slice a p.chain.length c, .slice a1 p.log.length c1, .slice a2 p.Bu.length c2, .bool p1.fell] = [i64 p.me, i64 clk, .slice a p.chain.length c, .slice a1 p.log.length c1, .slice a2 p.Bu.length c2, .bool p.fell] := by rw [hp1]
 rw [ecs] at ho
 refine Ae.mono (Lo (M := M) hfp hM ho) ?_
 rintro ⟨_, w4⟩ ⟨cs', p', rfl, f1, o4, M4⟩
 have zM4 := M4.size
 try simp only [] at zM4
 try dsimp only at o4 M4
 have zM4 := M4.size
 refine ⟨cs', p', rfl, f1, o4.wide ?_, M4.Tp ?_⟩
 ·intro b hb hbl
  simp only [In] at hb ⊢
  rcases hb with ((h | h) | h | h) | h
  ·exact .inl h
  ·exact .inr (.inr (.inr (by omega)))
  ·exact .inr (.inl h)
  ·exact .inr (.inr (.inl h))
  ·exact .inr (.inr (.inr (by omega)))
 ·intro b hbl hb
  rcases hb with (h | h) | h | h
  ·exact .inl h
  ·exact .inr (.inr (.inr h))
  ·exact .inr (.inl h)
  ·exact .inr (.inr (.inl h))
theorem QL {key : Int} {p : PlaceD} {text : ByteArray} {gone : Bool} {past : List Tag} {a a0 a1 a2 : Option Addr} {c c0 c1 c2 g5 g9 g10 g11 : Nat} {S : Nat → Prop} {e : Env} {w : World} {Q : Value × World → Prop} (hp4 : past.length = 4) (hpa : D AJ S w [.slice a0 4 c0] past)
  (e1 : e 1 = i64 key) (e2 : e 2 = .string text) (e3 : e 3 = .bool gone) (e5 : e 5 = pt g5 0) (e9 : e 9 = pt g9 0) (e10 : e 10 = pt g10 0) (e11 : e 11 = pt g11 0)
  (X5 : hp w g5 = some (.cells #[i64 p.me, i64 p.clock, .slice a p.chain.length c, .slice a1 p.log.length c1, .slice a2 p.Bu.length c2, .bool p.fell] 84 (0, 0))) (X9 : hp w g9 = some (.cells #[.slice a0 4 c0] 32 (0, 0)))
  (J : ∀ (e' : Env) (w' : World) (m : Int) (a5 : Option Addr) (c5 b : Nat), e' 5 = pt g5 0 → e' 10 = pt g10 0 → e' 11 = pt g11 0 → e' 12 = pt b 0 → w.heap.size ≤ b → hp w' b = some (.cells #[i64 key, i64 m, i64 p.me, .slice a5 4 c5, .string text, .bool gone] 49 (0, 0)) → Ext w w' →
   D AJ (fun b => w.heap.size ≤ b) w' [.slice a5 4 c5] past → Ae (AY e' w') Q) : Ae (Eg e w) Q := by
 have y5 := Aq X5
 have y9 := Aq X9
 refine HC _ _ ?_
 simp (maxSteps := 1000000) (disch := first | exact xD | fail) [-Option.bind_some, qs, -Aa, -Ab, e1, e2, e3, e5, e9, X5, X9]
 refine ⟨?_, ?_, ?_⟩
 ·skip
  refine Ae.mono (F7 hp4 rfl (hpa.ext xE)) ?_
  rintro ⟨_, w1⟩ ⟨m, rfl, E1⟩
  try dsimp only at m E1
  have zE1 := E1.size
  try simp only [qz] at zE1
  have N5 : hp w1 g5 = hp w g5 := (E1.Ai (by simp; omega)).trans (by first | assumption | rfl | (simp (maxSteps := 1000000) (disch := first | exact xD | fail) [-Option.bind_some, qs, -Aa, -Ab, qm, E1.Ai]; done))
  have N9 : hp w1 g9 = hp w g9 := (E1.Ai (by simp; omega)).trans (by first | assumption | rfl | (simp (maxSteps := 1000000) (disch := first | exact xD | fail) [-Option.bind_some, qs, -Aa, -Ab, qm, E1.Ai]; done))
  simp (maxSteps := 1000000) (disch := first | exact xD | fail) [-Option.bind_some, qs, -Aa, -Ab, N5, N9, X5, X9]
  refine ⟨?_, ?_⟩
  ·refine ⟨?_, ?_⟩
   ·refine Ae.mono (O.IZ (L := Ey) (mx := 8796093021952) BH CD F9 rfl (by decide) (O.empty (g := w1.heap.size) (by first | assumption | rfl | (simp (maxSteps := 1000000) (disch := first | exact xD | fail) [-Option.bind_some, qs, -Aa, -Ab]; done))) (hpa.ext xE) (by simp; omega) (by decide) (by decide)) ?_
    rintro ⟨_, w5⟩ ⟨a5, c5, rfl, o5, M5⟩
    have zM5 := M5.size
    try simp only [qz] at zM5
    try dsimp only at o5 M5
    simp only [List.nil_append, List.length_nil, Nat.zero_add, hp4] at o5
    have zM5 := M5.size
    try simp only [World.size_alloc] at zM5
    have F5 : Ext w w5 := Mod.after xE M5 (fun b h1 h2 => by have h2 : b = w1.heap.size := h2; omega)
    have N5 : hp w5 g5 = hp w g5 := F5.Ai y5
    have N9 : hp w5 g9 = hp w g9 := F5.Ai y9
    simp (maxSteps := 1000000) (disch := first | exact xD | fail) [-Option.bind_some, qs, -Aa, -Ab, qm, N5, N9, X5, X9, hp4]
    exact J _ _ m a5 c5 (w5.heap.size) xA xA xA xA (by omega) (by first | assumption | rfl | (simp (maxSteps := 1000000) (disch := first | exact xD | fail) [-Option.bind_some, qs, -Aa, -Ab]; done)) xE (((D.wide (S' := fun b => w.heap.size ≤ b ∧ b ≠ w5.heap.size ∧ b < w5.heap.size) o5.d (by intro b hb hbl; (try dsimp only at hb); (try simp only [World.size_alloc] at hb); exact ⟨by omega, by omega, hbl⟩)).Aj (fun b hb hbl => (Ac hb.2.1).trans (Ag hb.2.2))).wide (fun b hb _ => hb.1))
   ·refine Ae.mono (O.IZ (L := Ey) (mx := 8796093021952) BH CD F9 rfl (by decide) (O.empty (g := w1.heap.size) (by first | assumption | rfl | (simp (maxSteps := 1000000) (disch := first | exact xD | fail) [-Option.bind_some, qs, -Aa, -Ab]; done))) (hpa.ext xE) (by simp; omega) (by decide) (by decide)) ?_
    rintro ⟨_, w5⟩ ⟨a5, c5, rfl, o5, M5⟩
    have zM5 := M5.size
    try simp only [qz] at zM5
    try dsimp only at o5 M5
    simp only [List.nil_append, List.length_nil, Nat.zero_add, hp4] at o5
    have zM5 := M5.size
    try simp only [World.size_alloc] at zM5
    have F5 : Ext w w5 := Mod.after xE M5 (fun b h1 h2 => by have h2 : b = w1.heap.size := h2; omega)
    have N5 : hp w5 g5 = hp w g5 := F5.Ai y5
    have N9 : hp w5 g9 = hp w g9 := F5.Ai y9
    have Y8 : hp w5 (w1.heap.size + 1) = some (.cells #[i64 0, i64 0, i64 0, .slice none 0 0, .string ⟨#[]⟩, .bool false] 49 (0, 0)) := (M5.Ai _ (by (try simp only [World.size_alloc]); omega) (by omega)).trans (by first | assumption | rfl | (simp (maxSteps := 1000000) (disch := first | exact xD | fail) [-Option.bind_some, qs, -Aa, -Ab]; done))
    simp (maxSteps := 1000000) (disch := first | exact xD | fail) [-Option.bind_some, -Aa, -Ab, qm, N5, X5, Y8, hp4]
    exact J _ _ m a5 c5 (w1.heap.size + 1) xA xA xA xA (by omega) (by first | assumption | rfl | (simp (maxSteps := 1000000) (disch := first | exact xD | fail) [-Option.bind_some, -Aa, -Ab, Y8]; done)) xE (((D.wide (S' := fun b => w.heap.size ≤ b ∧ b ≠ w1.heap.size + 1 ∧ b < w5.heap.size) o5.d (by intro b hb hbl; (try dsimp only at hb); (try simp only [World.size_alloc] at hb); exact ⟨by omega, by omega, hbl⟩)).Aj (fun b hb hbl => Ac hb.2.1)).wide (fun b hb _ => hb.1))
  ·refine Ae.mono (O.IZ (L := Ey) (mx := 8796093021952) BH CD F9 rfl (by decide) (O.empty (g := w1.heap.size + 1) (by first | assumption | rfl | (simp (maxSteps := 1000000) (disch := first | exact xD | fail) [-Option.bind_some, qs, -Aa, -Ab]; done))) (hpa.ext xE) (by simp; omega) (by decide) (by decide)) ?_
   rintro ⟨_, w5⟩ ⟨a5, c5, rfl, o5, M5⟩
   have zM5 := M5.size
   try simp only [qz] at zM5
   try dsimp only at o5 M5
   simp only [List.nil_append, List.length_nil, Nat.zero_add, hp4] at o5
   have zM5 := M5.size
   try simp only [World.size_alloc] at zM5
   have F5 : Ext w w5 := Mod.after xE M5 (fun b h1 h2 => by have h2 : b = w1.heap.size + 1 := h2; omega)
   have N5 : hp w5 g5 = hp w g5 := F5.Ai y5
   have N9 : hp w5 g9 = hp w g9 := F5.Ai y9
   have Y8 : hp w5 (w1.heap.size) = some (.cells #[i64 0, i64 0, i64 0, .slice none 0 0, .string ⟨#[]⟩, .bool false] 49 (0, 0)) := (M5.Ai _ (by (try simp only [World.size_alloc]); omega) (by omega)).trans (by first | assumption | rfl | (simp (maxSteps := 1000000) (disch := first | exact xD | fail) [-Option.bind_some, qs, -Aa, -Ab]; done))
   simp (maxSteps := 1000000) (disch := first | exact xD | fail) [-Option.bind_some, -Aa, -Ab, qm, N5, X5, Y8, hp4]
   exact J _ _ m a5 c5 (w1.heap.size) xA xA xA xA (by omega) (by first | assumption | rfl | (simp (maxSteps := 1000000) (disch := first | exact xD | fail) [-Option.bind_some, -Aa, -Ab, Y8]; done)) xE (((D.wide (S' := fun b => w.heap.size ≤ b ∧ b ≠ w1.heap.size ∧ b < w5.heap.size) o5.d (by intro b hb hbl; (try dsimp only at hb); (try simp only [World.size_alloc] at hb); exact ⟨by omega, by omega, hbl⟩)).Aj (fun b hb hbl => Ac hb.2.1)).wide (fun b hb _ => hb.1))
 ·refine ⟨?_, ?_⟩
  ·skip
   refine Ae.mono (F7 hp4 rfl (hpa.ext xE)) ?_
   rintro ⟨_, w1⟩ ⟨m, rfl, E1⟩
   try dsimp only at m E1
   have zE1 := E1.size
   try simp only [qz] at zE1
   have N5 : hp w1 g5 = hp w g5 := (E1.Ai (by simp; omega)).trans (by first | assumption | rfl | (simp (maxSteps := 1000000) (disch := first | exact xD | fail) [-Option.bind_some, qs, -Aa, -Ab]; done))
   have N9 : hp w1 g9 = hp w g9 := (E1.Ai (by simp; omega)).trans (by first | assumption | rfl | (simp (maxSteps := 1000000) (disch := first | exact xD | fail) [-Option.bind_some, qs, -Aa, -Ab]; done))
   simp (maxSteps := 1000000) (disch := first | exact xD | fail) [-Option.bind_some, qs, -Aa, -Ab, N5, N9, X5, X9]
   refine ⟨?_, ?_⟩
   ·refine Ae.mono (O.IZ (L := Ey) (mx := 8796093021952) BH CD F9 rfl (by decide) (O.empty (g := w.heap.size) (by first | assumption | rfl | (simp (maxSteps := 1000000) (disch := first | exact xD | fail) [-Option.bind_some, qs, -Aa, -Ab, E1.Ai]; done))) (hpa.ext xE) (by simp; omega) (by decide) (by decide)) ?_
    rintro ⟨_, w5⟩ ⟨a5, c5, rfl, o5, M5⟩
    have zM5 := M5.size
    try simp only [] at zM5
    try dsimp only at o5 M5
    simp only [List.nil_append, List.length_nil, Nat.zero_add, hp4] at o5
    have zM5 := M5.size
    try simp only [World.size_alloc, Ad] at zM5
    have F5 : Ext w w5 := Mod.after xE M5 (fun b h1 h2 => by have h2 : b = w.heap.size := h2; omega)
    have N5 : hp w5 g5 = hp w g5 := F5.Ai y5
    have N9 : hp w5 g9 = hp w g9 := F5.Ai y9
    simp (maxSteps := 1000000) (disch := first | exact xD | fail) [-Option.bind_some, qs, -Aa, -Ab, qm, N5, N9, X5, X9, hp4]
    exact J _ _ m a5 c5 (w5.heap.size) xA xA xA xA (by omega) (by first | assumption | rfl | (simp (maxSteps := 1000000) (disch := first | exact xD | fail) [-Option.bind_some, qs, -Aa, -Ab]; done)) xE (((D.wide (S' := fun b => w.heap.size ≤ b ∧ b ≠ w5.heap.size ∧ b < w5.heap.size) o5.d (by intro b hb hbl; (try dsimp only at hb); (try simp only [World.size_alloc, Ad] at hb); exact ⟨by omega, by omega, hbl⟩)).Aj (fun b hb hbl => (Ac hb.2.1).trans (Ag hb.2.2))).wide (fun b hb _ => hb.1))
   ·refine Ae.mono (O.IZ (L := Ey) (mx := 8796093021952) BH CD F9 rfl (by decide) (O.empty (g := w.heap.size) (by first | assumption | rfl | (simp (maxSteps := 1000000) (disch := first | exact xD | fail) [-Option.bind_some, qs, -Aa, -Ab, E1.Ai]; done))) (hpa.ext xE) (by simp; omega) (by decide) (by decide)) ?_
    rintro ⟨_, w5⟩ ⟨a5, c5, rfl, o5, M5⟩
    have zM5 := M5.size
    try simp only [qz] at zM5
    try dsimp only at o5 M5
    simp only [List.nil_append, List.length_nil, Nat.zero_add, hp4] at o5
    have zM5 := M5.size
    try simp only [World.size_alloc] at zM5
    have F5 : Ext w w5 := Mod.after xE M5 (fun b h1 h2 => by have h2 : b = w.heap.size := h2; omega)
    have N5 : hp w5 g5 = hp w g5 := F5.Ai y5
    have N9 : hp w5 g9 = hp w g9 := F5.Ai y9
    have Y8 : hp w5 (w1.heap.size) = some (.cells #[i64 0, i64 0, i64 0, .slice none 0 0, .string ⟨#[]⟩, .bool false] 49 (0, 0)) := (M5.Ai _ (by (try simp only [World.size_alloc]); omega) (by omega)).trans (by first | assumption | rfl | (simp (maxSteps := 1000000) (disch := first | exact xD | fail) [-Option.bind_some, qs, -Aa, -Ab]; done))
    simp (maxSteps := 1000000) (disch := first | exact xD | fail) [-Option.bind_some, -Aa, -Ab, qm, N5, X5, Y8, hp4]
    exact J _ _ m a5 c5 (w1.heap.size) xA xA xA xA (by omega) (by first | assumption | rfl | (simp (maxSteps := 1000000) (disch := first | exact xD | fail) [-Option.bind_some, -Aa, -Ab, Y8]; done)) xE (((D.wide (S' := fun b => w.heap.size ≤ b ∧ b ≠ w1.heap.size ∧ b < w5.heap.size) o5.d (by intro b hb hbl; (try dsimp only at hb); (try simp only [World.size_alloc] at hb); exact ⟨by omega, by omega, hbl⟩)).Aj (fun b hb hbl => Ac hb.2.1)).wide (fun b hb _ => hb.1))
  ·skip
   refine Ae.mono (F7 hp4 rfl (hpa.ext xE)) ?_
   rintro ⟨_, w1⟩ ⟨m, rfl, E1⟩
   try dsimp only at m E1
   have zE1 := E1.size
   try simp only [qz] at zE1
   have N5 : hp w1 g5 = hp w g5 := (E1.Ai (by simp; omega)).trans (by first | assumption | rfl | (simp (maxSteps := 1000000) (disch := first | exact xD | fail) [-Option.bind_some, qs, -Aa, -Ab]; done))
   have N9 : hp w1 g9 = hp w g9 := (E1.Ai (by simp; omega)).trans (by first | assumption | rfl | (simp (maxSteps := 1000000) (disch := first | exact xD | fail) [-Option.bind_some, qs, -Aa, -Ab]; done))
   simp (maxSteps := 1000000) (disch := first | exact xD | fail) [-Option.bind_some, -Aa, -Ab, N5, N9, X5, X9]
   refine Ae.mono (O.IZ (L := Ey) (mx := 8796093021952) BH CD F9 rfl (by decide) (O.empty (g := w.heap.size) (by first | assumption | rfl | (simp (maxSteps := 1000000) (disch := first | exact xD | fail) [-Option.bind_some, qs, -Aa, -Ab, E1.Ai]; done))) (hpa.ext xE) (by simp; omega) (by decide) (by decide)) ?_
   rintro ⟨_, w5⟩ ⟨a5, c5, rfl, o5, M5⟩
   have zM5 := M5.size
   try simp only [] at zM5
   try dsimp only at o5 M5
   simp only [List.nil_append, List.length_nil, Nat.zero_add, hp4] at o5
   have zM5 := M5.size
   try simp only [World.size_alloc, Ad] at zM5
   have F5 : Ext w w5 := Mod.after xE M5 (fun b h1 h2 => by have h2 : b = w.heap.size := h2; omega)
   have N5 : hp w5 g5 = hp w g5 := F5.Ai y5
   have N9 : hp w5 g9 = hp w g9 := F5.Ai y9
   have Y8 : hp w5 (w.heap.size + 1) = some (.cells #[i64 0, i64 0, i64 0, .slice none 0 0, .string ⟨#[]⟩, .bool false] 49 (0, 0)) := (M5.Ai _ (by (try simp only [World.size_alloc, Ad]); omega) (by omega)).trans (by first | assumption | rfl | (simp (maxSteps := 1000000) (disch := first | exact xD | fail) [-Option.bind_some, qs, -Aa, -Ab, E1.Ai]; done))
   simp (maxSteps := 1000000) (disch := first | exact xD | fail) [-Option.bind_some, -Aa, -Ab, qm, N5, X5, Y8, hp4]
   exact J _ _ m a5 c5 (w.heap.size + 1) xA xA xA xA (by omega) (by first | assumption | rfl | (simp (maxSteps := 1000000) (disch := first | exact xD | fail) [-Option.bind_some, -Aa, -Ab, Y8]; done)) xE (((D.wide (S' := fun b => w.heap.size ≤ b ∧ b ≠ w.heap.size + 1 ∧ b < w5.heap.size) o5.d (by intro b hb hbl; (try dsimp only at hb); (try simp only [World.size_alloc, Ad] at hb); exact ⟨by omega, by omega, hbl⟩)).Aj (fun b hb hbl => Ac hb.2.1)).wide (fun b hb _ => hb.1))
 ·refine ⟨?_, ?_⟩
  ·skip
   refine Ae.mono (F7 hp4 rfl (hpa.ext xE)) ?_
   rintro ⟨_, w1⟩ ⟨m, rfl, E1⟩
   try dsimp only at m E1
   have zE1 := E1.size
   try simp only [qz] at zE1
   have N5 : hp w1 g5 = hp w g5 := (E1.Ai (by simp; omega)).trans (by first | assumption | rfl | (simp (maxSteps := 1000000) (disch := first | exact xD | fail) [-Option.bind_some, qs, -Aa, -Ab]; done))
   have N9 : hp w1 g9 = hp w g9 := (E1.Ai (by simp; omega)).trans (by first | assumption | rfl | (simp (maxSteps := 1000000) (disch := first | exact xD | fail) [-Option.bind_some, qs, -Aa, -Ab]; done))
   simp (maxSteps := 1000000) (disch := first | exact xD | fail) [-Option.bind_some, qs, -Aa, -Ab, N5, N9, X5, X9]
   refine Ae.mono (O.IZ (L := Ey) (mx := 8796093021952) BH CD F9 rfl (by decide) (O.empty (g := w1.heap.size) (by first | assumption | rfl | (simp (maxSteps := 1000000) (disch := first | exact xD | fail) [-Option.bind_some, qs, -Aa, -Ab]; done))) (hpa.ext xE) (by simp; omega) (by decide) (by decide)) ?_
   rintro ⟨_, w5⟩ ⟨a5, c5, rfl, o5, M5⟩
   have zM5 := M5.size
   try simp only [qz] at zM5
   try dsimp only at o5 M5
   simp only [List.nil_append, List.length_nil, Nat.zero_add, hp4] at o5
   have zM5 := M5.size
   try simp only [World.size_alloc] at zM5
   have F5 : Ext w w5 := Mod.after xE M5 (fun b h1 h2 => by have h2 : b = w1.heap.size := h2; omega)
   have N5 : hp w5 g5 = hp w g5 := F5.Ai y5
   have N9 : hp w5 g9 = hp w g9 := F5.Ai y9
   have Y8 : hp w5 (w.heap.size) = some (.cells #[i64 0, i64 0, i64 0, .slice none 0 0, .string ⟨#[]⟩, .bool false] 49 (0, 0)) := (M5.Ai _ (by (try simp only [World.size_alloc]); omega) (by omega)).trans (by first | assumption | rfl | (simp (maxSteps := 1000000) (disch := first | exact xD | fail) [-Option.bind_some, qs, -Aa, -Ab, E1.Ai]; done))
   simp (maxSteps := 1000000) (disch := first | exact xD | fail) [-Option.bind_some, -Aa, -Ab, qm, N5, X5, Y8, hp4]
   exact J _ _ m a5 c5 (w.heap.size) xA xA xA xA (by omega) (by first | assumption | rfl | (simp (maxSteps := 1000000) (disch := first | exact xD | fail) [-Option.bind_some, -Aa, -Ab, Y8]; done)) xE (((D.wide (S' := fun b => w.heap.size ≤ b ∧ b ≠ w.heap.size ∧ b < w5.heap.size) o5.d (by intro b hb hbl; (try dsimp only at hb); (try simp only [World.size_alloc] at hb); exact ⟨by omega, by omega, hbl⟩)).Aj (fun b hb hbl => Ac hb.2.1)).wide (fun b hb _ => hb.1))
  ·skip
   refine Ae.mono (F7 hp4 rfl (hpa.ext xE)) ?_
   rintro ⟨_, w1⟩ ⟨m, rfl, E1⟩
   try dsimp only at m E1
   have zE1 := E1.size
   try simp only [qz] at zE1
   have N5 : hp w1 g5 = hp w g5 := (E1.Ai (by simp; omega)).trans (by first | assumption | rfl | (simp (maxSteps := 1000000) (disch := first | exact xD | fail) [-Option.bind_some, qs, -Aa, -Ab]; done))
   have N9 : hp w1 g9 = hp w g9 := (E1.Ai (by simp; omega)).trans (by first | assumption | rfl | (simp (maxSteps := 1000000) (disch := first | exact xD | fail) [-Option.bind_some, qs, -Aa, -Ab]; done))
   simp (maxSteps := 1000000) (disch := first | exact xD | fail) [-Option.bind_some, -Aa, -Ab, N5, N9, X5, X9]
   refine Ae.mono (O.IZ (L := Ey) (mx := 8796093021952) BH CD F9 rfl (by decide) (O.empty (g := w.heap.size + 1) (by first | assumption | rfl | (simp (maxSteps := 1000000) (disch := first | exact xD | fail) [-Option.bind_some, qs, -Aa, -Ab, E1.Ai]; done))) (hpa.ext xE) (by simp; omega) (by decide) (by decide)) ?_
   rintro ⟨_, w5⟩ ⟨a5, c5, rfl, o5, M5⟩
   have zM5 := M5.size
   try simp only [] at zM5
   try dsimp only at o5 M5
   simp only [List.nil_append, List.length_nil, Nat.zero_add, hp4] at o5
   have zM5 := M5.size
   try simp only [World.size_alloc, Ad] at zM5
   have F5 : Ext w w5 := Mod.after xE M5 (fun b h1 h2 => by have h2 : b = w.heap.size + 1 := h2; omega)
   have N5 : hp w5 g5 = hp w g5 := F5.Ai y5
   have N9 : hp w5 g9 = hp w g9 := F5.Ai y9
   have Y8 : hp w5 (w.heap.size) = some (.cells #[i64 0, i64 0, i64 0, .slice none 0 0, .string ⟨#[]⟩, .bool false] 49 (0, 0)) := (M5.Ai _ (by (try simp only [World.size_alloc, Ad]); omega) (by omega)).trans (by first | assumption | rfl | (simp (maxSteps := 1000000) (disch := first | exact xD | fail) [-Option.bind_some, qs, -Aa, -Ab, E1.Ai]; done))
   simp (maxSteps := 1000000) (disch := first | exact xD | fail) [-Option.bind_some, -Aa, -Ab, qm, N5, X5, Y8, hp4]
   exact J _ _ m a5 c5 (w.heap.size) xA xA xA xA (by omega) (by first | assumption | rfl | (simp (maxSteps := 1000000) (disch := first | exact xD | fail) [-Option.bind_some, -Aa, -Ab, Y8]; done)) xE (((D.wide (S' := fun b => w.heap.size ≤ b ∧ b ≠ w.heap.size ∧ b < w5.heap.size) o5.d (by intro b hb hbl; (try dsimp only at hb); (try simp only [World.size_alloc, Ad] at hb); exact ⟨by omega, by omega, hbl⟩)).Aj (fun b hb hbl => Ac hb.2.1)).wide (fun b hb _ => hb.1))
theorem QM {M : Nat} {key : Int} {S Sp : Nat → Prop} {cs : List Value} {p : PlaceD} {x : CNode} {text : ByteArray} {gone : Bool} {past : List Tag} {a0 : Option Addr} {n0 c0 : Nat} {w : World} (hf : CK M p) (hM : M ≤ 1000000) (hx : p.chain[0]? = some x) (h6 : x.wait.length < 6) (hk0 : 0 ≤ key) (hk3 : key ≤ 3) (htx : text.size ≤ 140737488351232) (hp4 : past.length = 4)
  (ho : O Jf S w cs p) (hpa : D AJ Sp w [.slice a0 n0 c0] past) :
  Ae (EV P 135 #[.agg cs.toArray, i64 key, .string text, .bool gone, .agg #[.slice a0 n0 c0]] w) fun r => ∃ (cs' : List Value) (p' : PlaceD) (t : Tag), r.1 = .tuple #[.agg cs'.toArray, .agg #[i64 t.t, i64 t.p]] ∧ CK (M + 4) p' ∧ O Jf (fun b => S b ∨ In w.heap.size r.2.heap.size b) r.2 cs' p' ∧ Mod S w r.2 := by
 obtain ⟨rfl, _⟩ := hpa.n
 rw [hp4] at hpa ⊢
 obtain ⟨a, c, a1, c1, a2, c2, S1, S2, S3, rfl, q1, q2, q3, k1, k2, k3⟩ := O.He ho
 refine Ae.post fun Q hQ => ?_
 refine Ae.enter plain mixed (Km _ _ _ _ _ _) (by kernel_rfl) (n := 5) (by kernel_rfl) rfl ?_
 simp (maxSteps := 1000000) (disch := first | exact xD | fail) [-Option.bind_some, -Aa, -Ab]
 refine QL (g5 := w.heap.size) (g9 := w.heap.size + 1) (g10 := w.heap.size + 1 + 1) (g11 := w.heap.size + 1 + 1 + 1) (p := p) (a := a) (c := c) (a1 := a1) (c1 := c1) (a2 := a2) (c2 := c2) hp4 (hpa.ext xE) xA xA xA xA xA xA xA (by first | assumption | rfl | (simp (maxSteps := 1000000) (disch := first | exact xD | fail) [-Option.bind_some, qs, -Aa, -Ab]; done)) (by first | assumption | rfl | (simp (maxSteps := 1000000) (disch := first | exact xD | fail) [-Option.bind_some, qs, -Aa, -Ab]; done)) ?_
 intro e' w' m a5 c5 b e5 e10 e11 e12 hb X12 E0 dt
 have zE0 := E0.size
 try simp only [qz] at zE0
 have zE0' := E0.size
 simp only [World.size_alloc] at hb zE0' dt
 have F0 : Ext w w' := xE
 have y12 := Aq X12
 have X5 : hp w' w.heap.size = some (.cells #[i64 p.me, i64 p.clock, .slice a p.chain.length c, .slice a1 p.log.length c1, .slice a2 p.Bu.length c2, .bool p.fell] 84 (0, 0)) := (E0.Ai (by simp; omega)).trans (by first | assumption | rfl | (simp (maxSteps := 1000000) (disch := first | exact xD | fail) [-Option.bind_some, qs, -Aa, -Ab]; done))
 have X10 : hp w' (w.heap.size + 1 + 1) = some (.cells #[i64 0, i64 0, .slice none 0 0, .slice none 0 0, .slice none 0 0, .bool false] 84 (0, 0)) := (E0.Ai (by simp)).trans (by first | assumption | rfl | (simp (maxSteps := 1000000) (disch := first | exact xD | fail) [-Option.bind_some, qs, -Aa, -Ab]; done))
 have X11 : hp w' (w.heap.size + 1 + 1 + 1) = some (.cells #[i64 0, i64 0] 36 (0, 0)) := (E0.Ai (by simp)).trans (by first | assumption | rfl | (simp (maxSteps := 1000000) (disch := first | exact xD | fail) [-Option.bind_some, qs, -Aa, -Ab]; done))
 rw [Ib]
 simp (maxSteps := 1000000) (disch := first | exact xD | fail) [-Option.bind_some, qs, -Aa, -Ab, qm, e5, e10, e11, e12, X5, X12]
 have kS : ∀ b, S1 b ∨ S2 b ∨ S3 b → S b ∧ b < w.heap.size := by
  rintro b (h | h | h)
  ·exact ⟨(k1 b h).1, (k1 b h).2.2.2⟩
  ·exact ⟨(k2 b h).1, (k2 b h).2.2.2⟩
  ·exact ⟨(k3 b h).1, (k3 b h).2.2.2⟩
 obtain ⟨W, hW⟩ : ∃ W : World, W = w'.setRow w.heap.size #[i64 p.me, i64 m, .slice a p.chain.length c, .slice a1 p.log.length c1, .slice a2 p.Bu.length c2, .bool p.fell] := ⟨_, rfl⟩
 rw [← hW]
 have sW : W.heap.size = w'.heap.size := by rw [hW, size_setRow]
 have kW : ∀ b, b ≠ w.heap.size → hp W b = hp w' b := fun b h => by rw [hW, Ac h]
 have V5 : hp W w.heap.size = some (.cells #[i64 p.me, i64 m, .slice a p.chain.length c, .slice a1 p.log.length c1, .slice a2 p.Bu.length c2, .bool p.fell] 84 (0, 0)) := by
  rw [hW]
  exact (by first | assumption | rfl | (simp (maxSteps := 1000000) (disch := first | exact xD | fail) [-Option.bind_some, -Aa, -Ab, X5]; done))
 have FW : Ext w W := by
  rw [hW]
  exact F0.set (by omega) _
 have V10 := (kW (w.heap.size + 1 + 1) (by omega)).trans X10
 have V11 := (kW (w.heap.size + 1 + 1 + 1) (by omega)).trans X11
 have V12 := (kW b (by omega)).trans X12
 have dv : D BW (fun b => w.heap.size + 1 ≤ b) W [i64 key, i64 m, i64 p.me, .slice a5 4 c5, .string text, .bool gone] ⟨key, ⟨m, p.me⟩, past, text, gone⟩ := by
  refine D.BV.2 ⟨a5, c5, by rw [hp4], ?_, htx⟩
  rw [hp4]
  exact (dt.Aj fun b hb hbl => kW b (by omega)).wide fun b hb _ => by omega
 refine Ae.bind (Qh (M := M) (clk := m) (v := ⟨key, ⟨m, p.me⟩, past, text, gone⟩) hf hM hx h6 ⟨hk0, hk3, fun _ => hp4⟩ (q1.ext FW) (q2.ext FW) (q3.ext FW) (fun b h => ⟨(k1 b h).2.1, (k1 b h).2.2.1, by have := (k1 b h).2.2.2; have := FW.size; omega⟩) (fun b h => ⟨(k2 b h).2.1, (k2 b h).2.2.1, by have := (k2 b h).2.2.2; have := FW.size; omega⟩) (fun b h => ⟨(k3 b h).2.1, (k3 b h).2.2.1, by have := (k3 b h).2.2.2; have := FW.size; omega⟩) dv (fun b _ h h' => by have := (k1 b h').2.2.2; omega)) ?_
 rintro ⟨_, w2⟩ ⟨rfl, M2, Qf⟩
 have zM2 := M2.size
 try simp only [] at zM2
 try dsimp only at M2 Qf
 have zM2 := M2.size
 have nb : ∀ b, w.heap.size ≤ b → ¬ S1 b := fun b h h' => by have := (k1 b h').2.2.2; omega
 have Z5 := (M2.Ai _ (by omega) (nb _ (by omega))).trans V5
 have Z10 := (M2.Ai _ (by omega) (nb _ (by omega))).trans V10
 have Z11 := (M2.Ai _ (by omega) (nb _ (by omega))).trans V11
 have Z12 := (M2.Ai _ (by omega) (nb _ (by omega))).trans V12
 simp (maxSteps := 1000000) (disch := first | exact xD | fail) [-Option.bind_some, qs, -Aa, -Ab, qm, Z5, Z12]
 refine Ae.bind (Qf _ (fun b hb hbl => ?_) (by simp)) ?_
 ·refine (BB _ _).trans (Ac ?_)
  rintro rfl
  rcases hb with h | h | h | h
  ·have := (k1 _ h).2.2.2; omega
  ·have := (k2 _ h).2.2.2; omega
  ·have := (k3 _ h).2.2.2; omega
  ·simp only [In] at h; omega
 rintro ⟨_, w3⟩ ⟨cs', p', rfl, f3, o3, M3⟩
 have zM3 := M3.size
 try simp only [qz] at zM3
 try dsimp only at o3 M3
 have zM3 := M3.size
 simp only [Ad, size_setRow] at zM3
 have nb3 : ∀ b, w.heap.size ≤ b → b < W.heap.size → ¬ (S1 b ∨ S2 b ∨ S3 b ∨ In W.heap.size w2.heap.size b) := by
  rintro b h1 h2 (h | h | h | h)
  ·have := (k1 b h).2.2.2; omega
  ·have := (k2 b h).2.2.2; omega
  ·have := (k3 b h).2.2.2; omega
  ·simp only [In] at h; omega
 have T10 : hp w3 (w.heap.size + 1 + 1) = _ := (M3.Ai _ (by simp; omega) (nb3 _ (by omega) (by omega))).trans ((BB _ _).trans ((Ac (by omega)).trans Z10))
 have T11 : hp w3 (w.heap.size + 1 + 1 + 1) = _ := (M3.Ai _ (by simp; omega) (nb3 _ (by omega) (by omega))).trans ((BB _ _).trans ((Ac (by omega)).trans Z11))
 have T12 : hp w3 b = _ := (M3.Ai _ (by simp; omega) (nb3 _ (by omega) (by omega))).trans ((BB _ _).trans ((Ac (by omega)).trans Z12))
 have o3' := o3.d
 obtain ⟨a7, c7, a8, c8, a9, c9, rfl, _, _, _⟩ := D.place.1 o3'
 simp (maxSteps := 1000000) (disch := first | exact xD | fail) [-Option.bind_some, qs, -Aa, -Ab, qm, T10, T11, T12]
 refine hQ _ ⟨_, p', ⟨m, p.me⟩, rfl, f3, (o3.Aj fun b hb hbl => ?_).wide ?_, ?_⟩
 ·have hne : b ≠ w.heap.size + 1 + 1 ∧ b ≠ w.heap.size + 1 + 1 + 1 := by
   rcases hb with h | h | h | h
   ·have := (k1 _ h).2.2.2; omega
   ·have := (k2 _ h).2.2.2; omega
   ·have := (k3 _ h).2.2.2; omega
   ·omega
  rw [Ac hne.2, Ac hne.1]
 ·intro b hb hbl
  simp only [size_setRow] at hbl
  rcases hb with h | h | h | h
  ·exact .inl (kS b (.inl h)).1
  ·exact .inl (kS b (.inr (.inl h))).1
  ·exact .inl (kS b (.inr (.inr h))).1
  ·refine .inr ?_
   simp only [In, size_setRow]
   omega
 ·have Ma : Mod S w w2 := Mod.AW (Mod.of FW S) M2 fun b _ h => (kS b (.inl h)).1
  have Mb : Mod S w (dw (w2.setRow w.heap.size #[i64 p.me, i64 m, .slice a p.chain.length c, .slice a1 p.log.length c1, .slice a2 p.Bu.length c2, .bool p.fell])) := (Ma.AL (.inl (Nat.le_refl _)) _).SN
  have Mc : Mod S w w3 := Mod.AW Mb M3 fun b hb h => by
   rcases h with h | h | h | h
   ·exact (kS b (.inl h)).1
   ·exact (kS b (.inr (.inl h))).1
   ·exact (kS b (.inr (.inr h))).1
   ·simp only [In] at h; omega
  exact (Mc.AL (.inl (by omega)) _).AL (.inl (by omega)) _
theorem OW {M : Nat} {p : PlaceD} {x : CNode} {v : Ver} {clk : Int} {a a1 a2 av : Option Addr} {c c1 c2 cv b5 : Nat} {S S1 S2 S3 Sv : Nat → Prop} {w W : World} {e : Env} (hf : CK M p) (hM : M ≤ 1000000) (hx : p.chain[0]? = some x) (h6 : x.wait.length < 6) (hv : MR v)
  (q1 : O AV S1 w [.slice a p.chain.length c] p.chain) (q2 : O AQ S2 w [.slice a1 p.log.length c1] p.log) (q3 : O PD S3 w [.slice a2 p.Bu.length c2] p.Bu) (k1 : ∀ b, S1 b → S b ∧ ¬ S2 b ∧ ¬ S3 b ∧ b < w.heap.size) (k2 : ∀ b, S2 b → S b ∧ ¬ S1 b ∧ ¬ S3 b ∧ b < w.heap.size) (k3 : ∀ b, S3 b → S b ∧ ¬ S1 b ∧ ¬ S2 b ∧ b < w.heap.size)
  (FW : Ext w W) (dv : D BW Sv W [i64 v.key, i64 v.tag.t, i64 v.tag.p, .slice av v.past.length cv, .string v.text, .bool v.gone] v) (hSv : ∀ b, Sv b → ¬ S1 b)
  (e2 : e 2 = pt w.heap.size 0) (e4 : e 4 = pt (w.heap.size + 1) 0) (e5 : e 5 = pt b5 0) (hb5 : w.heap.size + 1 + 1 ≤ b5)
  (V2 : hp W w.heap.size = some (.cells #[i64 p.me, i64 clk, .slice a p.chain.length c, .slice a1 p.log.length c1, .slice a2 p.Bu.length c2, .bool p.fell] 84 (0, 0))) (V4 : hp W (w.heap.size + 1) = some (.cells #[i64 0, i64 0, .slice none 0 0, .slice none 0 0, .slice none 0 0, .bool false] 84 (0, 0)))
  (V5 : hp W b5 = some (.cells #[i64 v.key, i64 v.tag.t, i64 v.tag.p, .slice av v.past.length cv, .string v.text, .bool v.gone] 49 (0, 0))) :
  Ae (Dt e W) fun r => ∃ (cs' : List Value) (p' : PlaceD), r.1 = .agg cs'.toArray ∧ CK (M + 4) p' ∧ O Jf (fun b => S b ∨ In w.heap.size r.2.heap.size b) r.2 cs' p' ∧ Mod S w r.2 := by
 have zFW := FW.size
 have y5 := Aq V5
 rw [I7]
 have kS : ∀ b, S1 b ∨ S2 b ∨ S3 b → S b ∧ b < w.heap.size := by
  rintro b (h | h | h)
  ·exact ⟨(k1 b h).1, (k1 b h).2.2.2⟩
  ·exact ⟨(k2 b h).1, (k2 b h).2.2.2⟩
  ·exact ⟨(k3 b h).1, (k3 b h).2.2.2⟩
 refine Ae.post fun Q hQ => ?_
 simp (disch := first | exact xD | fail) [-Option.bind_some, -Aa, -Ab, e2, e4, e5, V2, V5]
 refine Ae.bind (Qh (M := M) (clk := clk) hf hM hx h6 hv (q1.ext FW) (q2.ext FW) (q3.ext FW) (fun b h => ⟨(k1 b h).2.1, (k1 b h).2.2.1, by have := (k1 b h).2.2.2; omega⟩) (fun b h => ⟨(k2 b h).2.1, (k2 b h).2.2.1, by have := (k2 b h).2.2.2; omega⟩) (fun b h => ⟨(k3 b h).2.1, (k3 b h).2.2.1, by have := (k3 b h).2.2.2; omega⟩) dv (fun b _ h h' => hSv b h h')) ?_
 rintro ⟨_, w2⟩ ⟨rfl, M2, Qf⟩
 have zM2 := M2.size
 try simp only [] at zM2
 try dsimp only at M2 Qf
 have zM2 := M2.size
 have nb : ∀ b, w.heap.size ≤ b → ¬ S1 b := fun b h h' => by have := (k1 b h').2.2.2; omega
 have Z2 := (M2.Ai _ (by omega) (nb _ (by omega))).trans V2
 have Z4 := (M2.Ai _ (by omega) (nb _ (by omega))).trans V4
 have Z5 := (M2.Ai _ (by omega) (nb _ (by omega))).trans V5
 simp (disch := first | exact xD | fail) [-Option.bind_some, -Aa, -Ab, qm, Z2]
 refine Ae.bind (Qf _ (fun b hb hbl => ?_) (by simp)) ?_
 ·refine Ac ?_
  rintro rfl
  rcases hb with h | h | h | h
  ·have := (k1 _ h).2.2.2; omega
  ·have := (k2 _ h).2.2.2; omega
  ·have := (k3 _ h).2.2.2; omega
  ·simp only [In] at h; omega
 rintro ⟨_, w3⟩ ⟨cs', p', rfl, f3, o3, M3⟩
 have zM3 := M3.size
 try simp only [qz] at zM3
 try dsimp only at o3 M3
 have zM3 := M3.size
 simp only [size_setRow] at zM3
 have nb3 : ∀ b, w.heap.size ≤ b → b < W.heap.size → ¬ (S1 b ∨ S2 b ∨ S3 b ∨ In W.heap.size w2.heap.size b) := by
  rintro b h1 h2 (h | h | h | h)
  ·have := (k1 b h).2.2.2; omega
  ·have := (k2 b h).2.2.2; omega
  ·have := (k3 b h).2.2.2; omega
  ·simp only [In] at h; omega
 have T4 : hp w3 (w.heap.size + 1) = _ := (M3.Ai _ (by simp; omega) (nb3 _ (by omega) (by omega))).trans ((Ac (by omega)).trans Z4)
 have o3' := o3.d
 obtain ⟨a7, c7, a8, c8, a9, c9, rfl, _, _, _⟩ := D.place.1 o3'
 simp (disch := first | exact xD | fail) [-Option.bind_some, -Aa, -Ab, qm, T4]
 refine hQ _ ⟨_, p', rfl, f3, (o3.Aj fun b hb hbl => ?_).wide ?_, ?_⟩
 ·refine Ac ?_
  rintro rfl
  rcases hb with h | h | h | h
  ·have := (k1 _ h).2.2.2; omega
  ·have := (k2 _ h).2.2.2; omega
  ·have := (k3 _ h).2.2.2; omega
  ·omega
 ·intro b hb hbl
  simp only [size_setRow] at hbl
  rcases hb with h | h | h | h
  ·exact .inl (kS b (.inl h)).1
  ·exact .inl (kS b (.inr (.inl h))).1
  ·exact .inl (kS b (.inr (.inr h))).1
  ·refine .inr ?_
   simp only [In, size_setRow]
   omega
 ·have Ma : Mod S w w2 := Mod.AW (Mod.of FW S) M2 fun b _ h => (kS b (.inl h)).1
  have Mb : Mod S w (w2.setRow w.heap.size #[i64 p.me, i64 clk, .slice a p.chain.length c, .slice a1 p.log.length c1, .slice a2 p.Bu.length c2, .bool p.fell]) := Ma.AL (.inl (Nat.le_refl _)) _
  have Mc : Mod S w w3 := Mod.AW Mb M3 fun b hb h => by
   rcases h with h | h | h | h
   ·exact (kS b (.inl h)).1
   ·exact (kS b (.inr (.inl h))).1
   ·exact (kS b (.inr (.inr h))).1
   ·simp only [In] at h; omega
  exact Mc.AL (.inl (by omega)) _
theorem RE {M i : Nat} {S : Nat → Prop} {cs : List Value} {p : PlaceD} {x : CNode} {w : World} (hf : CK M p) (hM : M ≤ 1000000) (hi : i < 3) (hx : p.chain[0]? = some x) (h6 : x.wait.length < 6) (hlk : HK p i ≠ -1) (ho : O Jf S w cs p) :
  Ae (EV P 132 #[.agg cs.toArray, i64 i] w) fun r => ∃ (cs' : List Value) (p' : PlaceD), r.1 = .agg cs'.toArray ∧ CK (M + 4) p' ∧ O Jf (fun b => S b ∨ In w.heap.size r.2.heap.size b) r.2 cs' p' ∧ Mod S w r.2 := by
 have ho' := ho.d
 obtain ⟨a, c, a1, c1, a2, c2, S1, S2, S3, rfl, q1, q2, q3, k1, k2, k3⟩ := O.He ho
 have hf' := hf
 obtain ⟨hI, hl, hlp, gl3, hgl⟩ := hf'
 obtain ⟨l, hgi, _⟩ := Ak (l := p.Bu) (k := i) (by omega)
 have hl60 := hgl l (List.mem_of_getElem? hgi)
 have hlk' : HK p i = GX x.store l 0 := by rw [HK, hx, hgi]
 obtain ⟨j, hj, hjl⟩ : ∃ j : Nat, HK p i = (j : Int) ∧ j < l.length := by
  rcases Lq (head := x.store) l 0 with h | ⟨j, h, _, hj⟩
  ·rw [hlk'] at hlk; exact absurd h hlk
  ·exact ⟨j, by rw [hlk', h], by omega⟩
 obtain ⟨v, hv, _⟩ := Ak hjl
 have hvp := hl60.2 v (List.mem_of_getElem? hv)
 obtain ⟨b3, o3, cs3, rfl, A3, D3, _, _⟩ := q3.d.at (by decide) hgi
 obtain ⟨a4, c4, rfl, D4⟩ := D3.Gn
 have p0 := A3 0 _ rfl
 simp only [Nat.add_zero] at p0
 simp only [Gx, Nat.mul_one] at p0
 obtain ⟨b9, o9, cs9, rfl, A5, D5, _, _⟩ := D4.at (by decide) hv
 have D5' := D5
 obtain ⟨av, cv, rfl, hq1, _⟩ := D.BV.1 D5'
 have t0 := A5 0 _ rfl
 have t1 := A5 1 _ rfl
 have t2 := A5 2 _ rfl
 have t3 := A5 3 _ rfl
 have t4 := A5 4 _ rfl
 have t5 := A5 5 _ rfl
 simp only [Bw, Nat.add_zero] at t0 t1 t2 t3 t4 t5
 have ya := A3.lt
 have yb := A5.lt
 have go : ∀ (Q : Value × World → Prop) (e : Env) (W : World) (b5 : Nat), (∀ r, (∃ (cs' : List Value) (p' : PlaceD), r.1 = .agg cs'.toArray ∧ CK (M + 4) p' ∧ O Jf (fun b => S b ∨ In w.heap.size r.2.heap.size b) r.2 cs' p' ∧ Mod S w r.2) → Q r) → e 2 = pt w.heap.size 0 → e 4 = pt (w.heap.size + 1) 0 → e 5 = pt b5 0 → w.heap.size + 1 + 1 ≤ b5 → Ext w W →
   hp W w.heap.size = some (.cells #[i64 p.me, i64 p.clock, .slice a p.chain.length c, .slice a1 p.log.length c1, .slice (some ⟨b3, o3, none⟩) p.Bu.length c2, .bool p.fell] 84 (0, 0)) → hp W (w.heap.size + 1) = some (.cells #[i64 0, i64 0, .slice none 0 0, .slice none 0 0, .slice none 0 0, .bool false] 84 (0, 0)) →
   hp W b5 = some (.cells #[i64 v.key, i64 v.tag.t, i64 v.tag.p, .slice av v.past.length cv, .string v.text, .bool v.gone] 49 (0, 0)) → Ae (Ds e W) Q := by
  intro Q e W b5 hQ e2 e4 e5 hb5 FW V2 V4 V5
  have zFW := FW.size
  have y5 := Aq V5
  rw [I6]
  by_cases hgt : p.clock < v.tag.t
  ·simp (disch := first | exact xD | fail) [-Option.bind_some, -Aa, -Ab, qm, e2, e5, V2, V5, hgt]
   refine Ae.mono (OW (clk := v.tag.t) (W := W.setRow w.heap.size #[i64 p.me, i64 v.tag.t, .slice a p.chain.length c, .slice a1 p.log.length c1, .slice (some ⟨b3, o3, none⟩) p.Bu.length c2, .bool p.fell]) hf hM hx h6 (RC hvp) q1 q2 q3 k1 k2 k3 (FW.set (by omega) _) ((D5.ext FW).Aj (fun b hb hbl => Ac (by have := (k3 b hb).2.2.2; omega))) (fun b h => (k3 b h).2.1) xA xA xA hb5 (by first | assumption | rfl | (simp (disch := first | exact xD | fail) [-Option.bind_some, -Aa, -Ab, V2]; done)) ((Ac (by omega)).trans V4) ((Ac (by omega)).trans V5)) hQ
  ·simp (disch := first | exact xD | fail) [-Option.bind_some, -Aa, -Ab, e2, e5, V2, V5, hgt]
   exact Ae.mono (OW (clk := p.clock) hf hM hx h6 (RC hvp) q1 q2 q3 k1 k2 k3 FW (D5.ext FW) (fun b h => (k3 b h).2.1) xA xA xA hb5 V2 V4 V5) hQ
 refine Ae.post fun Q hQ => ?_
 refine Ae.enter plain mixed (LN _ _ _) (by kernel_rfl) (n := 2) (by kernel_rfl) rfl ?_
 simp (disch := first | exact xD | fail) [-Option.bind_some, -Aa, -Ab]
 refine Ia _ _ ?_
 simp (disch := first | exact xD | fail) [-Option.bind_some, qs, -Aa, -Ab, HM, p0]
 constructor
 ·skip
  refine Ae.mono (JI hf hi (ho'.ext xE)) ?_
  rintro ⟨_, w1⟩ ⟨rfl, E1⟩
  try dsimp only at E1
  have zE1 := E1.size
  try simp only [qz] at zE1
  rw [hj]
  simp (disch := first | exact xD | fail) [-Option.bind_some, qs, -Aa, -Ab, qm, BP, p0, t0, t1, t2, t3, t4, t5, E1.Ai]
  exact go Q _ _ (w1.heap.size) hQ xA xA xA (by omega) xE (by first | assumption | rfl | (simp (disch := first | exact xD | fail) [-Option.bind_some, qs, -Aa, -Ab, E1.Ai]; done)) (by first | assumption | rfl | (simp (disch := first | exact xD | fail) [-Option.bind_some, qs, -Aa, -Ab, E1.Ai]; done)) (by first | assumption | rfl | (simp (disch := first | exact xD | fail) [-Option.bind_some, qs, -Aa, -Ab]; done))
 ·skip
  refine Ae.mono (JI hf hi (ho'.ext xE)) ?_
  rintro ⟨_, w1⟩ ⟨rfl, E1⟩
  try dsimp only at E1
  have zE1 := E1.size
  try simp only [qz] at zE1
  rw [hj]
  have N5 : hp w1 (w.heap.size + 1 + 1) = some (.cells #[i64 0, i64 0, i64 0, .slice none 0 0, .string ⟨#[]⟩, .bool false] 49 (0, 0)) := (E1.Ai (by simp)).trans (by first | assumption | rfl | (simp (disch := first | exact xD | fail) [-Option.bind_some, qs, -Aa, -Ab]; done))
  simp (disch := first | exact xD | fail) [-Option.bind_some, qs, -Aa, -Ab, qm, BP, N5, p0, t0, t1, t2, t3, t4, t5, E1.Ai]
  exact go Q _ _ (w.heap.size + 1 + 1) hQ xA xA xA (by omega) xE (by first | assumption | rfl | (simp (disch := first | exact xD | fail) [-Option.bind_some, qs, -Aa, -Ab, E1.Ai]; done)) (by first | assumption | rfl | (simp (disch := first | exact xD | fail) [-Option.bind_some, qs, -Aa, -Ab, E1.Ai]; done)) (by first | assumption | rfl | (simp (disch := first | exact xD | fail) [-Option.bind_some, -Aa, -Ab, N5]; done))
end Go.Proofs.YtjhhommnkaemlaaGreat.X
