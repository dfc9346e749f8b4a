/- A part of the proof, without conditions. -/
import Derived.Test.YtkhbpmhagpljiaaGreatDoorEvWq
import Derived.Test.YtkhbpmhagpljiaaGreatDoorT6
set_option linter.unusedVariables false
set_option linter.unusedSimpArgs false
set_option linter.deprecated false
set_option maxRecDepth 100000
set_option maxHeartbeats 1000000
namespace Go.Proofs.YtkhbpmhagpljiaaGreatDoor.X
open Go Go.Ev Go.RowKit
open Option (bind_some)
abbrev QV : Lay (List (List Ver)) := NP 39 110 99
abbrev Kp : Lay PlaceD := F8 39 110 159 99
def Pq (v : Ver) : Prop := 0 ≤ v.key ∧ v.key ≤ 3 ∧ v.past.length = 4
theorem Tl {v : Ver} (h : Pq v) : OD v := ⟨h.1, h.2.1, fun _ => h.2.2⟩
def DA (M : Nat) (p : PlaceD) : Prop := Nm p.chain ∧ p.log.length ≤ M ∧ (∀ v ∈ p.log, Pq v) ∧ p.BQ.length = 3 ∧ (∀ l ∈ p.BQ, l.length ≤ 60 ∧ ∀ v ∈ l, Pq v)
theorem DA.up {M M' : Nat} {p : PlaceD} (h : DA M p) (k : M ≤ M') : DA M' p := ⟨h.1, Nat.le_trans h.2.1 k, h.2.2⟩
theorem QW {a : Option Addr} {c b : Nat} {S : Nat → Prop} {xs : List Ver} {t : Tag} {w0 : World} (ha : D AW S w0 [.slice a xs.length c] xs) (hl : xs.length ≤ 1000000000) :
  ∀ (d k : Nat) (e : Env) (w : World), k + d = xs.length → e 0 = .slice a xs.length c → e 3 = pt b 0 → e 5 = i64 k → hp w b = some (.cells #[i64 t.t, i64 t.p] 39 (0, 0)) → Ext w0 w →
   Af (C4 e w) fun r => ∃ q, r.1 = .bool q ∧ Ext w0 r.2 := by
 intro d
 induction d with
 | zero =>
  intro k e w hd e0 e3 e5 X E0
  have zE0 := E0.size
  try simp only [qz] at zE0
  rw [Fz]
  obtain rfl : k = xs.length := by omega
  refine Af.post fun Q hQ => ?_
  simp (disch := first | exact xD | fail) [-bind_some, -Aa, -Ab, e0, e5]
  exact hQ _ ⟨false, rfl, E0⟩
 | succ d ih =>
  intro k e w hd e0 e3 e5 X E0
  have zE0 := E0.size
  try simp only [qz] at zE0
  rw [Fz]
  have hlt : k < xs.length := by omega
  have y := Aq X
  obtain ⟨x, hx, _⟩ := An hlt
  obtain ⟨b1, o1, cs1, rfl, A1, D1, _, l1⟩ := (ha.ext E0).at AD hx
  obtain ⟨a2, c2, rfl, _, _⟩ := D.Cq.1 D1
  have p0 := A1 0 _ rfl
  have p1 := A1 1 _ rfl
  have p2 := A1 2 _ rfl
  have p3 := A1 3 _ rfl
  have p4 := A1 4 _ rfl
  have p5 := A1 5 _ rfl
  simp only [Co, Nat.add_zero] at p0 p1 p2 p3 p4 p5
  refine Af.post fun Q hQ => ?_
  cases h1 : (x.tag.t == t.t)
  ·simp (disch := first | exact xD | fail) [-bind_some, qs, -Aa, -Ab, e0, e3, e5, hlt, Ck, X, h1, p1, p2]
   exact Af.mono (ih (k + 1) _ _ Ad xA xA xA (by first | assumption | rfl | (simp (disch := first | exact xD | fail) [-bind_some, qs, -Aa, -Ab, qm, X, e0, e3, e5, E0.Ai, hlt, p0, p1, p2, p3, p4, p5]; done)) xE) hQ
  ·cases h2 : (x.tag.p == t.p)
   ·simp (disch := first | exact xD | fail) [-bind_some, qs, -Aa, -Ab, e0, e3, e5, hlt, Ck, X, h1, h2, p1, p2]
    exact Af.mono (ih (k + 1) _ _ Ad xA xA xA (by first | assumption | rfl | (simp (disch := first | exact xD | fail) [-bind_some, qs, -Aa, -Ab, qm, X, e0, e3, e5, E0.Ai, hlt, p0, p1, p2, p3, p4, p5]; done)) xE) hQ
   ·simp (disch := first | exact xD | fail) [-bind_some, -Aa, -Ab, e0, e3, e5, hlt, Ck, X, h1, h2, p1, p2]
    exact hQ _ ⟨true, rfl, xE⟩
theorem LZ {a : Option Addr} {n c : Nat} {S : Nat → Prop} {xs : List Ver} {t : Tag} {w : World} (ha : D AW S w [.slice a n c] xs) (hl : xs.length ≤ 1000000000) :
  Af (EV P 139 #[.slice a n c, .agg #[i64 t.t, i64 t.p]] w) fun r => ∃ q, r.1 = .bool q ∧ Ext w r.2 := by
 obtain ⟨rfl, _⟩ := ha.n
 refine Af.post fun Q hQ => ?_
 refine Bw (KS _ _ _) ?_
 simp (disch := first | exact xD | fail) [-bind_some, -Aa, -Ab]
 exact Af.mono (QW (t := t) (b := w.heap.size) ha hl xs.length 0 _ _ Ad xA xA xA (by first | assumption | rfl | (simp (disch := first | exact xD | fail) [-bind_some, qs, -Aa, -Ab]; done)) xE) hQ
theorem Sm {b1 b2 : Nat} {S1 : Nat → Prop} {p : PlaceD} {a a1 a2 : Option Addr} {c c1 c2 : Nat} {w0 : World} {z : Array Value} (hb1 : w0.heap.size ≤ b1) (hb2 : w0.heap.size ≤ b2) (h12 : b1 ≠ b2) (hc : D Bb S1 w0 [.slice a p.chain.length c] p.chain) (hS1 : ∀ b, S1 b → b < w0.heap.size) (h4 : p.chain.length ≤ 4) (hz : z.size = 6) :
  ∀ (d k : Nat) (e : Env) (w : World) (q : Bool), k + d = p.chain.length → e 1 = pt b1 0 → e 2 = pt b2 0 → e 6 = .bool q → e 7 = i64 k → hp w b1 = some (.cells #[i64 p.me, i64 p.clock, .slice a p.chain.length c, .slice a1 p.log.length c1, .slice a2 p.BQ.length c2, .bool p.fell] 102 (0, 0)) →
   hp w b2 = some (.cells z 102 (0, 0)) → (∀ b, S1 b → hp w b = hp w0 b) →
   Af (Em e w) fun r => ∃ f, r.1 = .agg #[i64 p.me, i64 p.clock, .slice a p.chain.length c, .slice a1 p.log.length c1, .slice a2 p.BQ.length c2, .bool f] ∧ Mod (fun b => b = b1 ∨ b = b2) w r.2 := by
 intro d
 induction d with
 | zero =>
  intro k e w q hd e1 e2 e6 e7 X1 X2 hk
  rw [Gr]
  obtain rfl : k = p.chain.length := by omega
  have y1 := Aq X1
  have y2 := Aq X2
  have hz' : ∃ u0 u1 u2 u3 u4 u5, z = #[u0, u1, u2, u3, u4, u5] := by
   obtain ⟨l⟩ := z
   match l, hz with
   | [u0, u1, u2, u3, u4, u5], _ => exact ⟨u0, u1, u2, u3, u4, u5, rfl⟩
  obtain ⟨u0, u1, u2, u3, u4, u5, rfl⟩ := hz'
  refine Af.post fun Q hQ => ?_
  cases hf : p.fell
  ·rw [hf] at X1
   simp (disch := first | exact xD | fail) [-bind_some, qs, e1, e2, e6, e7, X1, X2]
   exact hQ _ ⟨false, rfl, xM⟩
  ·rw [hf] at X1
   cases q
   ·simp (disch := first | exact xD | fail) [-bind_some, qs, e1, e2, e6, e7, X1, X2]
    exact hQ _ ⟨true, rfl, xM⟩
   ·simp (disch := first | exact xD | fail) [-bind_some, qs, e1, e2, e6, e7, X1, X2]
    exact hQ _ ⟨false, rfl, xM⟩
 | succ d ih =>
  intro k e w q hd e1 e2 e6 e7 X1 X2 hk
  rw [Gr]
  have hlt : k < p.chain.length := by omega
  obtain ⟨x, hx, _⟩ := An hlt
  have hcw : D Bb S1 w [.slice a p.chain.length c] p.chain := hc.Aj fun b hb _ => hk b hb
  obtain ⟨g, o, cs1, rfl, A1, D1, _, _⟩ := hcw.at AD hx
  obtain ⟨a3, c3, a4, c4, rfl, _, _⟩ := D.node.1 D1
  have p0 := A1 0 _ rfl
  have p1 := A1 1 _ rfl
  simp only [BN, Nat.add_zero] at p0 p1
  refine Af.post fun Q hQ => ?_
  cases q
  ·simp (disch := first | exact xD | fail) [-bind_some, qs, -Aa, -Ab, e1, e6, e7, X1, hlt]
   exact Af.mono (ih (k + 1) _ w false Ad xA xA xA xA X1 X2 hk) hQ
  ·simp (disch := first | exact xD | fail) [-bind_some, qs, -Aa, -Ab, e1, e6, e7, X1, hlt, Da, p1]
   exact Af.mono (ih (k + 1) _ w _ Ad xA xA rfl xA X1 X2 hk) hQ
theorem Sn {M b1 b2 b3 : Nat} {S1 S2 S3 : Nat → Prop} {p : PlaceD} {x : CNode} {a a2 ast : Option Addr} {c c2 cs3 : Nat} {w0 : World} {z : Array Value} (hz : z.size = 6) (hM : M ≤ 1000000) (hb1 : w0.heap.size ≤ b1) (hb2 : w0.heap.size ≤ b2) (hb3 : w0.heap.size ≤ b3) (h12 : b1 ≠ b2) (h13 : b1 ≠ b3) (h23 : b2 ≠ b3)
  (hf : DA M p) (hc : D Bb S1 w0 [.slice a p.chain.length c] p.chain) (hst : D AW S1 w0 [.slice ast 4 cs3] x.store) (hx4 : x.store.length = 4) (hxk : ∀ v ∈ x.store, OD v) (hg : O QV S3 w0 [.slice a2 p.BQ.length c2] p.BQ) (hS1 : ∀ b, S1 b → b < w0.heap.size ∧ ¬ S2 b) (hS2 : ∀ b, S2 b → b < w0.heap.size) (hS3 : ∀ b, S3 b → b < w0.heap.size ∧ ¬ S2 b)
  (B : Nat) (hB1 : b1 < B) (hB2 : b2 < B) (hB3 : b3 < B) :
  ∀ (d k : Nat) (e : Env) (w : World) (log : List Ver) (a1 : Option Addr) (c1 : Nat), k + d = 4 → log.length ≤ M + k → (∀ v ∈ log, Pq v) → e 1 = pt b1 0 → e 2 = pt b2 0 → e 3 = pt b3 0 → e 4 = i64 k → B ≤ w.heap.size →
   hp w b1 = some (.cells #[i64 p.me, i64 p.clock, .slice a p.chain.length c, .slice a1 log.length c1, .slice a2 p.BQ.length c2, .bool p.fell] 102 (0, 0)) → hp w b2 = some (.cells z 102 (0, 0)) → hp w b3 = some (.cells #[.slice ast 4 cs3] 156 (0, 0)) →
   O AW (fun b => S2 b ∨ In B w.heap.size b) w [.slice a1 log.length c1] log → (∀ b, b < w0.heap.size → ¬ S2 b → hp w b = hp w0 b) → Mod (fun b => S2 b ∨ w0.heap.size ≤ b) w0 w →
   Af (Ek e w) fun r => ∃ (log' : List Ver) (a1' : Option Addr) (c1' : Nat) (f : Bool), r.1 = .agg #[i64 p.me, i64 p.clock, .slice a p.chain.length c, .slice a1' log'.length c1', .slice a2 p.BQ.length c2, .bool f] ∧ log'.length ≤ M + 4 ∧ (∀ v ∈ log', Pq v) ∧
    O AW (fun b => S2 b ∨ In B r.2.heap.size b) r.2 [.slice a1' log'.length c1'] log' ∧ (∀ b, b < w0.heap.size → ¬ S2 b → hp r.2 b = hp w0 b) ∧ Mod (fun b => S2 b ∨ w0.heap.size ≤ b) w0 r.2 := by
 intro d
 induction d with
 | zero =>
  intro k e w log a1 c1 hd hl hlp e1 e2 e3 e4 hBw X1 X2 X3 ho hk M0
  have zM0 := M0.size
  try simp only [qz] at zM0
  rw [Gq]
  obtain rfl : k = 4 := by omega
  refine Af.post fun Q hQ => ?_
  simp (disch := first | exact xD | fail) [-bind_some, -Aa, -Ab, e4]
  refine Af.mono (Sm (p := { p with log := log }) (z := z) (w0 := w0) hb1 hb2 h12 (S1 := S1) hc (fun b hb => (hS1 b hb).1) hf.1.2.1 hz p.chain.length 0 _ w true (by simp) xA xA rfl xA X1 X2 (fun b hb => hk b (hS1 b hb).1 (hS1 b hb).2)) ?_
  rintro r ⟨f, h1, h2⟩
  refine hQ _ ⟨log, a1, c1, f, h1, by omega, hlp, (ho.Aj fun b hb hbl => h2.Ai b hbl fun h => ?_).wide ?_, fun b hb hn => (h2.Ai b (by have := M0.size; omega) Ad).trans (hk b hb hn), M0.tr (h2.SU fun b _ h => .inr Ad)⟩
  ·rcases hb with hb | hb
   ·have := hS2 b hb; omega
   ·simp only [In] at hb; omega
  ·intro b hb hbl
   rcases hb with hb | hb
   ·exact .inl hb
   ·have := h2.size
    simp only [In] at hb ⊢
    exact .inr Ad
 | succ d ih =>
  intro k e w log a1 c1 hd hl hlp e1 e2 e3 e4 hBw X1 X2 X3 ho hk M0
  have zM0 := M0.size
  try simp only [qz] at zM0
  rw [Gq]
  have y1 := Aq X1
  have y2 := Aq X2
  have y3 := Aq X3
  have hz0 := M0.size
  obtain ⟨v, hv, _⟩ := An (l := x.store) (k := k) Ad
  have hvk := hxk v (List.mem_of_getElem? hv)
  have hsw : D AW S1 w [.slice ast 4 cs3] x.store := hst.Aj fun b hb _ => hk b (hS1 b hb).1 (hS1 b hb).2
  obtain ⟨g, o, cs1, rfl, A1, D1, _, _⟩ := hsw.at AD hv
  have D1' := D1
  obtain ⟨a3, c3, rfl, _, _⟩ := D.Cq.1 D1
  have p0 := A1 0 _ rfl
  have p1 := A1 1 _ rfl
  have p2 := A1 2 _ rfl
  have p3 := A1 3 _ rfl
  have p4 := A1 4 _ rfl
  have p5 := A1 5 _ rfl
  simp only [Co, Nat.add_zero] at p0 p1 p2 p3 p4 p5
  refine Af.post fun Q hQ => ?_
  have RN : ∀ (e' : Env) (w' : World) (log' : List Ver) (a1' : Option Addr) (c1' : Nat), log'.length ≤ M + (k + 1) → (∀ v ∈ log', Pq v) → e' 1 = pt b1 0 → e' 2 = pt b2 0 → e' 3 = pt b3 0 → e' 4 = i64 k → B ≤ w'.heap.size →
   hp w' b1 = some (.cells #[i64 p.me, i64 p.clock, .slice a p.chain.length c, .slice a1' log'.length c1', .slice a2 p.BQ.length c2, .bool p.fell] 102 (0, 0)) → hp w' b2 = some (.cells z 102 (0, 0)) → hp w' b3 = some (.cells #[.slice (some ⟨g, o, none⟩) 4 cs3] 156 (0, 0)) →
   O AW (fun b => S2 b ∨ In B w'.heap.size b) w' [.slice a1' log'.length c1'] log' → (∀ b, b < w0.heap.size → ¬ S2 b → hp w' b = hp w0 b) → Mod (fun b => S2 b ∨ w0.heap.size ≤ b) w0 w' → Af (El e' w') Q := by
   intro e' w' log' a1' c1' f1 f2 g1 g2 g3 g4 g5 U1 U2 U3 uo uk uM
   rw [JW]
   simp (disch := first | exact xD | fail) [-bind_some, qs, -Aa, -Ab, g4]
   exact Af.mono (ih (k + 1) _ w' log' a1' c1' Ad f1 f2 xA xA xA xA g5 U1 U2 U3 uo uk uM) hQ
  by_cases ht : 0 < v.tag.t
  ·cases hpl : (v.tag.p == p.me)
   ·simp (disch := first | exact xD | fail) [-bind_some, qs, -Aa, -Ab, qm, e1, e3, e4, X1, X3, show (k : Int) < 4 by omega, Ck, ht, hpl, p0, p1, p2, p3, p4, p5]
    refine RN _ _ log a1 c1 Ad hlp xA xA xA xA (by simp; omega) (by first | assumption | rfl | (simp (disch := first | exact xD | fail) [-bind_some, qs, -Aa, -Ab, X1]; done)) (by first | assumption | rfl | (simp (disch := first | exact xD | fail) [-bind_some, qs, -Aa, -Ab, X2]; done)) (by first | assumption | rfl | (simp (disch := first | exact xD | fail) [-bind_some, qs, -Aa, -Ab, X3]; done)) ((ho.Aj (by intro b hS hb; (try dsimp only at hS); (try simp only [In] at hS hb); first | rfl | (simp (disch := first | exact xF | fail) only [qk]; done))).wide ?_) (fun b hb hn => (Ac Ad).trans ((Ag Ad).trans (hk b hb hn))) ((M0.al _).AQ (.inr (.inr Ad)) _)
    intro b hb hbl
    simp only [In, World.size_alloc, size_setRow] at hb ⊢
    rcases hb with hb | hb
    ·exact .inl hb
    ·exact .inr Ad
   ·simp (disch := first | exact xD | fail) [-bind_some, qs, -Aa, -Ab, qm, e1, e3, e4, X1, X3, show (k : Int) < 4 by omega, Ck, ht, hpl, p0, p1, p2, p3, p4, p5]
    refine Af.bind (LZ (t := v.tag) ((ho.d).ext xE) Ad) ?_
    rintro ⟨_, w1⟩ ⟨q, rfl, E1⟩
    try dsimp only at q E1
    have zE1 := E1.size
    try simp only [qz] at zE1
    have keep1 : ∀ b, b < w.heap.size → hp w1 b = hp w b := fun b hb => (E1.Ai (by simp only [World.size_alloc, size_setRow]; omega)).trans ((Ac Ad).trans (Ag hb))
    cases q
    ·have Y1 := (keep1 b1 y1).trans X1
     have V1 : hp w1 w.heap.size = some (.cells #[i64 v.key, i64 v.tag.t, i64 v.tag.p, .slice a3 v.past.length c3, .string v.text, .bool v.gone] 110 (0, 0)) := (by first | assumption | rfl | (simp (disch := first | exact xD | fail) [-bind_some, qs, -Aa, -Ab, E1.Ai]; done))
     simp (disch := first | exact xD | fail) [-bind_some, -Aa, -Ab, Y1, V1]
     have Dv : D Cu S1 (dw w1) [i64 v.key, i64 v.tag.t, i64 v.tag.p, .slice a3 v.past.length c3, .string v.text, .bool v.gone] v := D1'.Aj fun b hb hbl => (BW _ _).trans (keep1 b hbl)
     refine Af.bind (Bf Dv) ?_
     rintro ⟨_, w2⟩ ⟨ds, rfl, o2, E2⟩
     have zE2 := E2.size
     try simp only [qz] at zE2
     try dsimp only at o2 E2
     have zo2 := O.Cq.1 o2
     obtain ⟨a5, c5, rfl, _, _⟩ := zo2
     have zE2 := E2.size
     simp only [Ak] at zE2
     have keep2 : ∀ b, b < w.heap.size → hp w2 b = hp w b := fun b hb => (E2.Ai (by simp only [Ak]; omega)).trans ((BW _ _).trans (keep1 b hb))
     have Z1 := (keep2 b1 y1).trans X1
     simp (disch := first | exact xD | fail) [-bind_some, qs, -Aa, -Ab, Z1]
     have hol : O AW (fun b => S2 b ∨ In B w.heap.size b) (w2.alloc (.cells #[i64 v.key, i64 v.tag.t, i64 v.tag.p, .slice a5 v.past.length c5, .string v.text, .bool v.gone] 110)) [.slice a1 log.length c1] log := ho.Aj fun b hb hbl => (Ag Ad).trans (keep2 b hbl)
     refine Af.bind (O.app (L := Cu) (mx := 1954687338211) (xs := log) (x := v) DK D8 rfl AD hol (o2.Aj (by intro b hS hb; (try dsimp only at hS); (try simp only [In, qz] at hS hb); first | rfl | (simp (disch := first | exact xF | fail) only [qk]; done))) ?_ At.new Ad AD AD) ?_
     ·intro b hb q1 q2
      simp only [In, Ak] at q1 q2
      rcases q1 with q1 | q1
      ·have := hS2 b q1; omega
      ·omega
     rintro ⟨_, w3⟩ ⟨a7, c7, rfl, o7, M7⟩
     have zM7 := M7.size
     try simp only [qz] at zM7
     try dsimp only at o7 M7
     have zM7 := M7.size
     simp only [World.size_alloc] at zM7
     have nS : ∀ b, w0.heap.size ≤ b → b < B → ¬ (S2 b ∨ In B w.heap.size b) := by
      intro b h1 h2 h
      rcases h with h | h
      ·have := hS2 b h; omega
      ·simp only [In] at h; omega
     have keep3 : ∀ b, b < w.heap.size → ¬ (S2 b ∨ In B w.heap.size b) → hp w3 b = hp w b := fun b hb hn => (M7.Ai b (by simp only [World.size_alloc]; omega) hn).trans ((Ag Ad).trans (keep2 b hb))
     have T1 := (keep3 b1 y1 (nS b1 hb1 hB1)).trans X1
     have T2 := (keep3 b2 y2 (nS b2 hb2 hB2)).trans X2
     have T3 := (keep3 b3 y3 (nS b3 hb3 hB3)).trans X3
     simp (disch := first | exact xD | fail) [-bind_some, -Aa, -Ab, qm, T1]
     have hle : (log ++ [v]).length = log.length + 1 := by simp
     refine RN _ _ (log ++ [v]) a7 c7 Ad ?_ xA xA xA xA (by simp only [size_setRow]; omega) (by first | assumption | rfl | (simp (disch := first | exact xD | fail) [-bind_some, -Aa, -Ab, T1, hle]; done)) ((Ac (Ne.symm h12)).trans T2) ((Ac (Ne.symm h13)).trans T3) ?_ ?_ ?_
     ·intro u hu
      rcases List.mem_append.1 hu with h | h
      ·exact hlp u h
      ·rw [List.mem_singleton.1 h]; exact ⟨hvk.1, hvk.2.1, hvk.2.2 ht⟩
     ·rw [hle]
      refine (o7.Aj fun b hb hbl => Ac ?_).wide ?_
      ·rintro rfl
       rcases hb with hb | hb | hb
       ·exact nS b hb1 hB1 hb
       ·simp only [In, Ak] at hb; omega
       ·simp only [World.size_alloc] at hb; omega
      ·intro b hb hbl
       simp only [In, size_setRow, Ak, World.size_alloc] at hb hbl ⊢
       rcases hb with (hb | hb) | hb | hb
       ·exact .inl hb
       ·exact .inr Ad
       ·exact .inr Ad
       ·exact .inr Ad
     ·intro b hb hn
      rw [Ac Ad]
      exact (keep3 b Ad (fun h => by rcases h with h | h; exact hn h; simp only [In] at h; omega)).trans (hk b hb hn)
     ·have Ma : Mod (fun b => S2 b ∨ w0.heap.size ≤ b) w (w2.alloc (.cells #[i64 v.key, i64 v.tag.t, i64 v.tag.p, .slice a5 v.past.length c5, .string v.text, .bool v.gone] 110)) := ((((Mod.al (Mod.rfl (S := fun b => S2 b ∨ w0.heap.size ≤ b)) _).AQ (.inl (Nat.le_refl _)) _).ex E1).Ud.ex E2).al _
      have Mb := Ma.tr (M7.SU fun b _ h => by rcases h with h | h; exact .inl h; simp only [In] at h; exact .inr Ad)
      exact (M0.tr Mb).AQ (.inr (.inr hb1)) _
    ·have Y1 := (keep1 b1 y1).trans X1
     simp (disch := first | exact xD | fail) [-bind_some, -Aa, -Ab]
     refine RN _ _ log a1 c1 Ad hlp xA xA xA xA Ad Y1 ((keep1 b2 y2).trans X2) ((keep1 b3 y3).trans X3) ((ho.Aj fun b hb hbl => keep1 b hbl).wide ?_) (fun b hb hn => (keep1 b Ad).trans (hk b hb hn)) (((M0.al _).AQ (.inr (.inr Ad)) _).ex E1)
     intro b hb hbl
     simp only [In] at hb ⊢
     rcases hb with hb | hb
     ·exact .inl hb
     ·exact .inr Ad
  ·simp (disch := first | exact xD | fail) [-bind_some, qs, -Aa, -Ab, qm, e1, e3, e4, X3, show (k : Int) < 4 by omega, Ck, ht, p0, p1, p2, p3, p4, p5]
   refine RN _ _ log a1 c1 Ad hlp xA xA xA xA (by simp; omega) (by first | assumption | rfl | (simp (disch := first | exact xD | fail) [-bind_some, qs, -Aa, -Ab, X1]; done)) (by first | assumption | rfl | (simp (disch := first | exact xD | fail) [-bind_some, qs, -Aa, -Ab, X2]; done)) (by first | assumption | rfl | (simp (disch := first | exact xD | fail) [-bind_some, qs, -Aa, -Ab, X3]; done)) ((ho.Aj (by intro b hS hb; (try dsimp only at hS); (try simp only [In] at hS hb); first | rfl | (simp (disch := first | exact xF | fail) only [qk]; done))).wide ?_) (fun b hb hn => (Ac Ad).trans ((Ag Ad).trans (hk b hb hn))) ((M0.al _).AQ (.inr (.inr Ad)) _)
   intro b hb hbl
   simp only [In, World.size_alloc, size_setRow] at hb ⊢
   rcases hb with hb | hb
   ·exact .inl hb
   ·exact .inr Ad
theorem L6 {M : Nat} {S : Nat → Prop} {cs : List Value} {p : PlaceD} {w : World} (hf : DA M p) (hM : M ≤ 1000000) (ho : O Kp S w cs p) :
  Af (EV P 115 #[.agg cs.toArray] w) fun r => ∃ (cs' : List Value) (p' : PlaceD), r.1 = .agg cs'.toArray ∧ DA (M + 4) p' ∧ O Kp (fun b => S b ∨ In w.heap.size r.2.heap.size b) r.2 cs' p' ∧ Mod S w r.2 := by
 obtain ⟨a, c, a1, c1, a2, c2, S1, S2, S3, rfl, q1, q2, q3, k1, k2, k3⟩ := O.ID ho
 obtain ⟨hI, hl, hlp, hg3, hgl⟩ := hf
 have hI' := hI
 obtain ⟨h0, h4, hn⟩ := hI'
 obtain ⟨x, hx, _⟩ := An (l := p.chain) (k := p.chain.length - 1) Ad
 have hxn := hn x (List.mem_of_getElem? hx)
 obtain ⟨g, o, cs1, rfl, A1, D1, _, _⟩ := q1.d.at AD hx
 obtain ⟨a3, c3, a4, c4, rfl, ds, _⟩ := D.node.1 D1
 rw [hxn.1] at ds A1
 have p0 := A1 0 _ rfl
 have p1 := A1 1 _ rfl
 simp only [BN, Nat.add_zero] at p0 p1
 have hw1 : IntKind.i64.wrap ((p.chain.length : Int) - 1) = ((p.chain.length - 1 : Nat) : Int) := by rw [HS Ad Ad]; omega
 refine Af.post fun Q hQ => ?_
 refine Bw (MN _ _) ?_
 simp (disch := first | exact xD | fail) [-bind_some, qs, -Aa, -Ab, qm, hw1, Da, hg3, p0]
 refine Af.mono (Sn (M := M) (b1 := w.heap.size) (b2 := w.heap.size + 1) (b3 := w.heap.size + 1 + 1) (S1 := S1) (S2 := S2) (S3 := S3) (p := p) (x := x) (w0 := w) (z := #[i64 0, i64 0, .slice none 0 0, .slice none 0 0, .slice none 0 0, .bool false]) rfl hM Ad Ad Ad Ad Ad Ad
  ⟨hI, hl, hlp, hg3, hgl⟩ q1.d ds hxn.1 hxn.2.2.1 q3 (fun b hb => ⟨(k1 b hb).2.2.2, (k1 b hb).2.1⟩) (fun b hb => (k2 b hb).2.2.2) (fun b hb => ⟨(k3 b hb).2.2.2, (k3 b hb).2.2.1⟩) (w.heap.size + 3) Ad Ad Ad 4 0 _ _ p.log a1 c1 Ad Ad hlp xA xA xA xA (by simp) (by first | assumption | rfl | (simp (disch := first | exact xD | fail) [-bind_some, qs, -Aa, -Ab, hg3]; done)) (by first | assumption | rfl | (simp (disch := first | exact xD | fail) [-bind_some, qs, -Aa, -Ab]; done)) (by first | assumption | rfl | (simp (disch := first | exact xD | fail) [-bind_some, qs, -Aa, -Ab]; done)) ((q2.Aj ?_).wide (fun b hb _ => .inl hb)) ?_ ?_) ?_
 ·intro b hb hbl
  have := (k2 b hb).2.2.2
  simp (disch := (first | omega | (simp only [World.size_alloc, size_setRow]; omega))) only [Ac, Ag]
 ·intro b hb hn
  simp (disch := (first | omega | (simp only [World.size_alloc, size_setRow]; omega))) only [Ac, Ag]
 ·exact xM
 rintro ⟨_, w1⟩ ⟨log', a1', c1', f, rfl, h1, h2, o2, hk, M1⟩
 have zM1 := M1.size
 try simp only [] at zM1
 try dsimp only at o2 hk M1
 have zM1 := M1.size
 have hSl : ∀ b, S1 b ∨ S2 b ∨ S3 b → S b ∧ b < w.heap.size := by
  intro b hb
  rcases hb with h | h | h
  ·exact ⟨(k1 b h).1, (k1 b h).2.2.2⟩
  ·exact ⟨(k2 b h).1, (k2 b h).2.2.2⟩
  ·exact ⟨(k3 b h).1, (k3 b h).2.2.2⟩
 refine hQ _ ⟨_, { p with log := log', fell := f }, rfl, ⟨hI, h1, h2, hg3, hgl⟩, (O.Fi (p := { p with log := log', fell := f }) (q1.Aj fun b hb hbl => hk b hbl (k1 b hb).2.1) o2 (q3.Aj fun b hb hbl => hk b hbl (k3 b hb).2.2.1) ?_ (fun b _ h h' => (k1 b h).2.2.1 h') ?_).wide ?_, ⟨M1.os, M1.tape, M1.output, M1.size, fun b hb hn => hk b hb fun h => hn (hSl b (.inr (.inl h))).1⟩⟩
 ·intro b hb h h'
  rcases h' with h' | h'
  ·exact (k1 b h).2.1 h'
  ·have := (k1 b h).2.2.2
   simp only [In] at h'; omega
 ·intro b hb h h'
  rcases h with h | h
  ·exact (k2 b h).2.2.1 h'
  ·have := (k3 b h').2.2.2
   simp only [In] at h; omega
 ·intro b hb hbl
  simp only [In] at hb hbl ⊢
  rcases hb with h | (h | h) | h
  ·exact .inl (hSl b (.inl h)).1
  ·exact .inl (hSl b (.inr (.inl h))).1
  ·exact .inr Ad
  ·exact .inl (hSl b (.inr (.inr h))).1
theorem Tm {b : Nat} {a : Option Addr} {c : Nat} {S : Nat → Prop} {xs : List Tag} {w0 : World} (h4 : xs.length = 4) (X : hp w0 b = some (.cells #[.slice a 4 c] 106 (0, 0))) (ha : D Cr S w0 [.slice a 4 c] xs) :
  ∀ (d k : Nat) (e : Env) (n : Int), k + d = 4 → e 3 = pt b 0 → e 5 = i64 n → e 6 = i64 k → Af (Eu e w0) fun r => ∃ m, r = (i64 m, w0) := by
 intro d
 induction d with
 | zero =>
  intro k e n hd e3 e5 e6
  rw [Gw]
  obtain rfl : k = 4 := by omega
  refine Af.post fun Q hQ => ?_
  simp (disch := first | exact xD | fail) [-bind_some, e5, e6]
  exact hQ _ ⟨_, rfl⟩
 | succ d ih =>
  intro k e n hd e3 e5 e6
  rw [Gw]
  obtain ⟨x, hx, _⟩ := An (l := xs) (k := k) Ad
  obtain ⟨b1, o1, cs1, rfl, A1, D1, _, _⟩ := ha.at AD hx
  obtain rfl := D.tag.1 D1
  have p0 := A1 0 _ rfl
  have p1 := A1 1 _ rfl
  simp only [Rj, Nat.add_zero] at p0 p1
  refine Af.post fun Q hQ => ?_
  by_cases hg : n < x.t
  ·simp (disch := first | exact xD | fail) [-bind_some, -Aa, -Ab, e3, e5, e6, X, show (k : Int) < 4 by omega, KI, hg, p0]
   rw [Gx]
   simp (disch := first | exact xD | fail) [-bind_some, qs, -Aa, -Ab, e6]
   exact Af.mono (ih (k + 1) _ _ Ad xA rfl xA) hQ
  ·simp (disch := first | exact xD | fail) [-bind_some, -Aa, -Ab, e3, e5, e6, X, show (k : Int) < 4 by omega, KI, hg, p0]
   rw [Gx]
   simp (disch := first | exact xD | fail) [-bind_some, qs, -Aa, -Ab, e6]
   exact Af.mono (ih (k + 1) _ _ Ad xA xA xA) hQ
theorem G9 {a : Option Addr} {n c : Nat} {S : Nat → Prop} {xs : List Tag} {u0 u1 u2 u3 u4 : Value} {q : Int} {w : World} (h4 : xs.length = 4) (hu : ([u0, i64 q, u1, u2, u3, u4] : List Value).all Value.oneCell' = true) (ha : D Cr S w [.slice a n c] xs) :
  Af (EV P 144 #[.agg #[u0, i64 q, u1, u2, u3, u4], .agg #[.slice a n c]] w) fun r => ∃ m, r.1 = i64 m ∧ Ext w r.2 := by
 obtain ⟨rfl, _⟩ := ha.n
 rw [h4] at ha ⊢
 refine Af.post fun Q hQ => ?_
 refine Bw (Na _ _ _) ?_
 simp (disch := first | exact xD | fail) [-bind_some, qs, -Aa, -Ab]
 refine Af.mono (Tm (b := w.heap.size + 1) h4 (by first | assumption | rfl | (simp (disch := first | exact xD | fail) [-bind_some, qs, -Aa, -Ab]; done)) (ha.ext xE) 4 0 _ _ Ad xA rfl xA) ?_
 rintro r ⟨m, rfl⟩
 exact hQ _ ⟨m, rfl, xE⟩
theorem L7 {a : Option Addr} {n c : Nat} {S : Nat → Prop} {ns : List CNode} {w : World} (hI : Nm ns) (ha : D Bb S w [.slice a n c] ns) :
  Af (EV P 143 #[.agg #[.slice a n c]] w) fun r => ∃ (a' : Option Addr) (c' : Nat) (ts : List Tag), ts.length = 4 ∧ r.1 = .agg #[.slice a' 4 c'] ∧ O Cr (In w.heap.size r.2.heap.size) r.2 [.slice a' 4 c'] ts ∧ Ext w r.2 := by
 obtain ⟨rfl, _⟩ := ha.n
 obtain ⟨h0, h4, hn⟩ := hI
 obtain ⟨x, hx, _⟩ := An (l := ns) (k := ns.length - 1) Ad
 have hs4 := (hn x (List.mem_of_getElem? hx)).1
 obtain ⟨b1, o1, cs1, rfl, A1, D1, _, l1⟩ := ha.at AD hx
 obtain ⟨a2, c2, a3, c3, rfl, h2, h3⟩ := D.node.1 D1
 have p0 := A1 0 _ rfl
 have p1 := A1 1 _ rfl
 simp only [BN, Nat.add_zero] at p0 p1
 have ht4 : (CF x.store).length = 4 := by rw [CF, List.length_map]; exact hs4
 have hw1 : IntKind.i64.wrap ((ns.length : Int) - 1) = ((ns.length - 1 : Nat) : Int) := by rw [HS Ad Ad]; omega
 refine Af.post fun Q hQ => ?_
 refine Bw (KT _ _) ?_
 simp (disch := first | exact xD | fail) [-bind_some, qs, -Aa, -Ab, Da, hw1, p0]
 refine Af.bind (Jb hs4 (h2.ext xE)) ?_
 rintro ⟨_, w1⟩ ⟨a5, c5, rfl, o5, E1⟩
 try dsimp only at a5 c5 o5 E1
 have zE1 := E1.size
 try simp only [qz] at zE1
 rw [ht4] at o5
 simp (disch := first | exact xD | fail) [-bind_some, qs, -Aa, -Ab, qm, ht4, E1.Ai]
 exact hQ _ ⟨_, _, _, ht4, rfl, (o5.Aj (by intro b hS hb; (try dsimp only at hS); (try simp only [In, qz] at hS hb); first | rfl | (simp (disch := first | exact xF | fail) only [qk]; done))).wide xV, xE⟩
theorem So {a : Option Addr} {c g1 g2 k key : Nat} {S : Nat → Prop} {ns : List CNode} {x : CNode} {v : Ver} {e : Env} {w : World} {z : Array Value} (hz : z.size = 6) (h4 : ns.length ≤ 4) (hs4 : x.store.length = 4) (hx : ns[k]? = some x) (hv : x.store[key]? = some v) (ha : D Bb S w [.slice a ns.length c] ns)
  (e1 : e 1 = i64 k) (e2 : e 2 = i64 key) (e3 : e 3 = pt g1 0) (e6 : e 6 = pt g2 0) (X1 : hp w g1 = some (.cells #[.slice a ns.length c] 98 (0, 0))) (X2 : hp w g2 = some (.cells z 110 (0, 0))) :
  Af (CB e w) fun r => ∃ ds, r.1 = .agg ds.toArray ∧ O Cu (In w.heap.size r.2.heap.size) r.2 ds v ∧ Mod (fun b => b = g2) w r.2 := by
 rw [Jy]
 have y1 := Aq X1
 have y2 := Aq X2
 have hlt : k < ns.length := (List.getElem?_eq_some_iff.1 hx).1
 have hlt2 : key < x.store.length := (List.getElem?_eq_some_iff.1 hv).1
 obtain ⟨b1, o1, cs1, rfl, A1, D1, _, l1⟩ := ha.at AD hx
 obtain ⟨a2, c2, a3, c3, rfl, h2, h3⟩ := D.node.1 D1
 have p0 := A1 0 _ rfl
 have p1 := A1 1 _ rfl
 simp only [BN, Nat.add_zero] at p0 p1
 obtain ⟨b2, o2, cs2, rfl, A2, D2, _, l2⟩ := h2.at AD hv
 have D2' := D2
 obtain ⟨av, cv, rfl, _, _⟩ := D.Cq.1 D2'
 have q0 := A2 0 _ rfl
 have q1 := A2 1 _ rfl
 have q2 := A2 2 _ rfl
 have q3 := A2 3 _ rfl
 have q4 := A2 4 _ rfl
 have q5 := A2 5 _ rfl
 simp only [Co, Nat.add_zero] at q0 q1 q2 q3 q4 q5
 have hz' : ∃ u0 u1 u2 u3 u4 u5, z = #[u0, u1, u2, u3, u4, u5] := by
  obtain ⟨l⟩ := z
  match l, hz with
  | [u0, u1, u2, u3, u4, u5], _ => exact ⟨u0, u1, u2, u3, u4, u5, rfl⟩
 obtain ⟨u0, u1, u2, u3, u4, u5, rfl⟩ := hz'
 refine Af.post fun Q hQ => ?_
 simp (disch := first | exact xD | fail) [-bind_some, -Aa, -Ab, e1, e2, e3, e6, X1, Da, Ck, p0, q0, q1, q2, q3, q4, q5]
 refine Af.bind (Bf D2) ?_
 rintro ⟨_, w1⟩ ⟨ds, rfl, o3, E1⟩
 try dsimp only at ds o3 E1
 have zE1 := E1.size
 try simp only [qz] at zE1
 have zo3 := O.Cq.1 o3
 obtain ⟨a5, c5, rfl, _, _⟩ := zo3
 have Y2 := (E1.Ai y2).trans X2
 simp (disch := first | exact xD | fail) [-bind_some, -Aa, -Ab, qm, Y2]
 refine hQ _ ⟨_, rfl, (o3.Aj fun b hb hbl => Ac (by simp only [In] at hb; omega)).wide (fun b hb _ => by simp only [In, size_setRow] at hb ⊢; omega), ((Mod.rfl (S := fun b => b = g2)).ex E1).AQ (.inr rfl) _⟩
theorem OQ {a : Option Addr} {n c k key : Nat} {S : Nat → Prop} {ns : List CNode} {w : World} (hI : Nm ns) (hk : k < ns.length) (hy : key < 4) (ha : D Bb S w [.slice a n c] ns) :
  Af (EV P 132 #[.agg #[.slice a n c], i64 k, i64 key] w) fun r => ∃ (ds : List Value) (v : Ver), OD v ∧ r.1 = .agg ds.toArray ∧ O Cu (In w.heap.size r.2.heap.size) r.2 ds v ∧ Ext w r.2 := by
 obtain ⟨rfl, _⟩ := ha.n
 obtain ⟨h0, h4, hn⟩ := hI
 have fin : ∀ (k' : Nat) (e : Env) (w1 : World) (Q : Value × World → Prop), k' < ns.length → e 1 = i64 k' → e 2 = i64 key → e 3 = pt w.heap.size 0 → e 6 = pt (w.heap.size + 1) 0 → hp w1 w.heap.size = some (.cells #[.slice a ns.length c] 98 (0, 0)) → hp w1 (w.heap.size + 1) = some (.cells #[i64 0, i64 0, i64 0, .slice none 0 0, .string ⟨#[]⟩, .bool false] 110 (0, 0)) → Ext w w1 →
   (∀ r, (∃ (ds : List Value) (v : Ver), OD v ∧ r.1 = .agg ds.toArray ∧ O Cu (In w.heap.size r.2.heap.size) r.2 ds v ∧ Ext w r.2) → Q r) → Af (CB e w1) Q := by
  intro k' e w1 Q hk' e1 e2 e3 e6 X1 X2 E0 hQ
  have zE0 := E0.size
  try simp only [qz] at zE0
  obtain ⟨x, hx, _⟩ := An (l := ns) (k := k') hk'
  have hxn := hn x (List.mem_of_getElem? hx)
  obtain ⟨v, hv, _⟩ := An (l := x.store) (k := key) (by have := hxn.1; omega)
  have y2 := Aq X2
  refine Af.mono (So (z := #[i64 0, i64 0, i64 0, .slice none 0 0, .string ⟨#[]⟩, .bool false]) rfl h4 hxn.1 hx hv (ha.ext E0) e1 e2 e3 e6 X1 X2) ?_
  rintro r ⟨ds, h1, o1, M1⟩
  have zM1 := M1.size
  try simp only [qz] at zM1
  have zM1 := M1.size
  have zE0' := E0.size
  exact hQ _ ⟨ds, v, hxn.2.2.1 v (List.mem_of_getElem? hv), h1, o1.wide (fun b hb _ => by simp only [In] at hb ⊢; omega), Mod.after E0 M1 (fun b h1 h2 => by have h2 : b = w.heap.size + 1 := h2; omega)⟩
 refine Af.post fun Q hQ => ?_
 refine Bw (LB _ _ _ _) ?_
 by_cases hk0 : k = 0
 ·subst hk0
  by_cases h1 : 1 < ns.length
  ·simp (disch := first | exact xD | fail) [-bind_some, qs, -Aa, -Ab, show (1 : Int) < ns.length by omega]
   exact fin 1 _ _ Q h1 rfl xA rfl rfl (by first | assumption | rfl | (simp (disch := first | exact xD | fail) [-bind_some, qs, -Aa, -Ab]; done)) (by first | assumption | rfl | (simp (disch := first | exact xD | fail) [-bind_some, qs, -Aa, -Ab]; done)) xE hQ
  ·simp (disch := first | exact xD | fail) [-bind_some, qs, -Aa, -Ab, show ¬ (1 : Int) < ns.length by omega]
   exact fin 0 _ _ Q Ad rfl xA rfl rfl (by first | assumption | rfl | (simp (disch := first | exact xD | fail) [-bind_some, qs, -Aa, -Ab]; done)) (by first | assumption | rfl | (simp (disch := first | exact xD | fail) [-bind_some, qs, -Aa, -Ab]; done)) xE hQ
 ·have hkb : ((k : Int) == 0) = false := by simpa using hk0
  simp (disch := first | exact xD | fail) [-bind_some, -Aa, -Ab, hkb]
  exact fin k _ _ Q hk rfl xA rfl rfl (by first | assumption | rfl | (simp (disch := first | exact xD | fail) [-bind_some, qs, -Aa, -Ab]; done)) (by first | assumption | rfl | (simp (disch := first | exact xD | fail) [-bind_some, qs, -Aa, -Ab]; done)) xE hQ
def later (head : List Ver) (v : Ver) : Bool := match head[v.key.toNat]? with
 | some u => BF u.tag v.tag
 | none => false
def H8 (head : List Ver) : List Ver → Nat → Int
 | [], _ => -1
 | v :: l, k => if later head v then (k : Int) else H8 head l (k + 1)
theorem L9 {head : List Ver} : ∀ (l : List Ver) (k : Nat), H8 head l k = -1 ∨ ∃ j : Nat, H8 head l k = (j : Int) ∧ k ≤ j ∧ j < k + l.length
 | [], _ => .inl rfl
 | v :: l, k => by
  rw [H8]
  split
  ·exact .inr ⟨k, rfl, Nat.le_refl _, by simp⟩
  ·rcases L9 l (k + 1) with h | ⟨j, h, h1, h2⟩
   ·exact .inl h
   ·exact .inr ⟨j, h, by omega, by simp only [List.length_cons]; omega⟩
def I5 (p : PlaceD) (i : Nat) : Int := match p.chain[0]?, p.BQ[i]? with
 | some x, some l => H8 x.store l 0
 | _, _ => -1
theorem Sq {M i b1 b2 : Nat} {p : PlaceD} {x : CNode} {l : List Ver} {a a1 a2 as' : Option Addr} {c c1 c2 cs' : Nat} {S : Nat → Prop} {w0 : World} (hi : i < p.BQ.length) (gl3 : p.BQ.length = 3) (hgl : p.BQ[i]? = some l) (hl60 : l.length ≤ 60 ∧ ∀ v ∈ l, Pq v) (hs4 : x.store.length = 4)
  (hst : D AW S w0 [.slice as' 4 cs'] x.store) (hg : D QV S w0 [.slice a2 p.BQ.length c2] p.BQ) :
  ∀ (d k : Nat) (e : Env) (w : World), k + d = l.length → e 1 = i64 i → e 2 = pt b1 0 → e 5 = pt b2 0 → e 6 = i64 k →
   hp w b1 = some (.cells #[i64 p.me, i64 p.clock, .slice a p.chain.length c, .slice a1 p.log.length c1, .slice a2 p.BQ.length c2, .bool p.fell] 102 (0, 0)) → hp w b2 = some (.cells #[.slice as' 4 cs'] 156 (0, 0)) → Ext w0 w →
   Af (Dw e w) fun r => r.1 = i64 (H8 x.store (l.drop k) k) ∧ Ext w0 r.2 := by
 intro d
 induction d with
 | zero =>
  intro k e w hd e1 e2 e5 e6 X1 X2 E0
  have zE0 := E0.size
  try simp only [qz] at zE0
  rw [FQ]
  obtain rfl : k = l.length := by omega
  obtain ⟨b3, o3, cs3, rfl, A3, D3, _, _⟩ := (hg.ext E0).at AD hgl
  obtain ⟨a4, c4, rfl, D4⟩ := D3.It
  have p0 := A3 0 _ rfl
  simp only [Nat.add_zero] at p0
  simp only [HK, Nat.mul_one] at p0
  rw [List.drop_length, H8]
  refine Af.post fun Q hQ => ?_
  simp (disch := first | exact xD | fail) [-bind_some, -Aa, -Ab, e1, e2, e6, X1, GR, p0]
  exact hQ _ ⟨rfl, E0⟩
 | succ d ih =>
  intro k e w hd e1 e2 e5 e6 X1 X2 E0
  have zE0 := E0.size
  try simp only [qz] at zE0
  rw [FQ]
  have hlt : k < l.length := by omega
  have y1 := Aq X1
  have y2 := Aq X2
  obtain ⟨v, hv, hdv⟩ := An hlt
  have hvp := hl60.2 v (List.mem_of_getElem? hv)
  obtain ⟨b3, o3, cs3, rfl, A3, D3, _, _⟩ := (hg.ext E0).at AD hgl
  obtain ⟨a4, c4, rfl, D4⟩ := D3.It
  have p0 := A3 0 _ rfl
  simp only [Nat.add_zero] at p0
  simp only [HK, Nat.mul_one] at p0
  obtain ⟨b5, o5, cs5, rfl, A5, D5, _, _⟩ := D4.at AD hv
  obtain ⟨av, cv, rfl, _, _⟩ := D.Cq.1 D5
  have q0 := A5 0 _ rfl
  have q1 := A5 1 _ rfl
  have q2 := A5 2 _ rfl
  have q3 := A5 3 _ rfl
  have q4 := A5 4 _ rfl
  have q5 := A5 5 _ rfl
  simp only [Co, Nat.add_zero] at q0 q1 q2 q3 q4 q5
  obtain ⟨ky, hky⟩ := Int.eq_ofNat_of_zero_le hvp.1
  have hk4 : ky < 4 := by have := hvp.2.1; omega
  obtain ⟨u, hu, _⟩ := An (l := x.store) (k := ky) Ad
  obtain ⟨b6, o6, cs6, rfl, A6, D6, _, _⟩ := (hst.ext E0).at AD hu
  obtain ⟨au, cu, rfl, _, _⟩ := D.Cq.1 D6
  have m0 := A6 0 _ rfl
  have m1 := A6 1 _ rfl
  have m2 := A6 2 _ rfl
  have m3 := A6 3 _ rfl
  have m4 := A6 4 _ rfl
  have m5 := A6 5 _ rfl
  simp only [Co, Nat.add_zero] at m0 m1 m2 m3 m4 m5
  have hlt9 : later x.store v = BF u.tag v.tag := by rw [later, hky, Int.toNat_natCast, hu]
  rw [hdv, H8, hlt9]
  rw [hky] at q0
  refine Af.post fun Q hQ => ?_
  simp (disch := first | exact xD | fail) [-bind_some, qs, -Aa, -Ab, qm, e1, e2, e5, e6, X1, X2, hlt, GR, Ck, p0, q0, q1, q2, q3, q4, q5, m1, m2]
  refine Af.bind (AU u.tag v.tag _) ?_
  rintro ⟨_, w1⟩ ⟨rfl, E1⟩
  try dsimp only at E1
  have zE1 := E1.size
  try simp only [qz] at zE1
  have EX : Ext w w1 := xE
  cases hc : BF u.tag v.tag
  ·rw [hc] at hQ
   simp (disch := first | exact xD | fail) [-bind_some, -Aa, -Ab]
   refine Af.mono (ih (k + 1) _ w1 Ad xA xA xA xA ((EX.Ai y1).trans X1) ((EX.Ai y2).trans X2) (E0.tr EX)) ?_
   rintro r ⟨h1, h2⟩
   exact hQ _ ⟨h1, h2⟩
  ·rw [hc] at hQ
   simp (disch := first | exact xD | fail) [-bind_some, -Aa, -Ab]
   exact hQ _ ⟨rfl, E0.tr EX⟩
theorem Kx {M i : Nat} {S : Nat → Prop} {cs : List Value} {p : PlaceD} {w : World} (hf : DA M p) (hi : i < 3) (ho : D Kp S w cs p) :
  Af (EV P 141 #[.agg cs.toArray, i64 i] w) fun r => r.1 = i64 (I5 p i) ∧ Ext w r.2 := by
 obtain ⟨a, c, a1, c1, a2, c2, rfl, q1, q2, q3⟩ := D.place.1 ho
 obtain ⟨⟨h0, h4, hn⟩, hl, hlp, gl3, hgl⟩ := hf
 obtain ⟨x, hx, _⟩ := An (l := p.chain) (k := 0) Ad
 obtain ⟨l, hgi, _⟩ := An (l := p.BQ) (k := i) Ad
 have hxn := hn x (List.mem_of_getElem? hx)
 obtain ⟨g, o, cs1, rfl, A1, D1, _, _⟩ := q1.at AD hx
 obtain ⟨a3, c3, a4, c4, rfl, ds, _⟩ := D.node.1 D1
 have p0 := A1 0 _ rfl
 have p1 := A1 1 _ rfl
 simp only [BN, Nat.add_zero] at p0 p1
 rw [hxn.1] at ds p0
 have e0 : I5 p i = H8 x.store (l.drop 0) 0 := by rw [I5, hx, hgi]; rfl
 rw [e0]
 refine Af.post fun Q hQ => ?_
 refine Bw (LC _ _ _) ?_
 simp (disch := first | exact xD | fail) [-bind_some, qs, -Aa, -Ab, qm, Da, p0]
 refine Af.mono (Sq (M := M) (p := p) (w0 := w) (a := some ⟨g, o, none⟩) (c := c) (a1 := a1) (c1 := c1) Ad gl3 hgi (hgl l (List.mem_of_getElem? hgi)) hxn.1 ds q3 l.length 0 _ _ (by simp) xA rfl rfl xA (by first | assumption | rfl | (simp (disch := first | exact xD | fail) [-bind_some, qs, -Aa, -Ab]; done)) (by first | assumption | rfl | (simp (disch := first | exact xD | fail) [-bind_some, qs, -Aa, -Ab]; done)) xE) hQ
theorem PY {M i : Nat} {S : Nat → Prop} {cs : List Value} {p : PlaceD} {x : CNode} {w : World} (hf : DA M p) (hi : i < 3) (hx : p.chain[0]? = some x) (ho : D Kp S w cs p) :
  Af (EV P 119 #[.agg cs.toArray, i64 i] w) fun r => ∃ q, r.1 = .bool q ∧ (q = true → I5 p i ≠ -1 ∧ x.wait.length < 6) ∧ Ext w r.2 := by
 have ho' := ho
 obtain ⟨a, c, a1, c1, a2, c2, rfl, q1, q2, q3⟩ := D.place.1 ho'
 have hf' := hf
 obtain ⟨hI, hl, hlp, gl3, hgl⟩ := hf'
 obtain ⟨l, hgi, _⟩ := An (l := p.BQ) (k := i) Ad
 have hl60 := hgl l (List.mem_of_getElem? hgi)
 obtain ⟨b3, o3, cs3, rfl, A3, D3, _, _⟩ := q3.at AD hgi
 obtain ⟨a4, c4, rfl, D4⟩ := D3.It
 have p0 := A3 0 _ rfl
 simp only [Nat.add_zero] at p0
 simp only [HK, Nat.mul_one] at p0
 have hlk : I5 p i = H8 x.store l 0 := by rw [I5, hx, hgi]
 refine Af.post fun Q hQ => ?_
 refine Bw (JZ _ _ _) ?_
 simp (disch := first | exact xD | fail) [-bind_some, qs, -Aa, -Ab]
 refine Af.bind (Kx hf hi (ho.ext xE)) ?_
 rintro ⟨_, w1⟩ ⟨rfl, E1⟩
 try dsimp only at E1
 have zE1 := E1.size
 try simp only [qz] at zE1
 rcases L9 (head := x.store) l 0 with h | ⟨j, h, _, hj⟩
 ·rw [hlk, h]
  simp (disch := first | exact xD | fail) [-bind_some, -Aa, -Ab]
  exact hQ _ ⟨false, rfl, by simp, xE⟩
 ·rw [hlk, h]
  have hjl : j < l.length := by omega
  obtain ⟨v, hv, _⟩ := An hjl
  have hvp := hl60.2 v (List.mem_of_getElem? hv)
  obtain ⟨b5, o5, cs5, rfl, A5, D5, _, _⟩ := D4.at AD hv
  obtain ⟨av, cv, rfl, hq1, _⟩ := D.Cq.1 D5
  have t0 := A5 0 _ rfl
  have t1 := A5 1 _ rfl
  have t2 := A5 2 _ rfl
  have t3 := A5 3 _ rfl
  have t4 := A5 4 _ rfl
  have t5 := A5 5 _ rfl
  simp only [Co, Nat.add_zero] at t0 t1 t2 t3 t4 t5
  simp (disch := first | exact xD | fail) [-bind_some, qs, -Aa, -Ab, show (0 : Int) ≤ j by omega, E1.Ai]
  refine Af.bind (Jd hx (q1.ext xE)) ?_
  rintro ⟨_, w2⟩ ⟨rfl, E2⟩
  try dsimp only at E2
  have zE2 := E2.size
  try simp only [qz] at zE2
  by_cases h6 : x.wait.length < 6
  ·simp (disch := first | exact xD | fail) [-bind_some, qs, -Aa, -Ab, h6, GR, Ck, p0, E1.Ai, t3, E2.Ai]
   refine Af.bind (L7 hI (q1.ext xE)) ?_
   rintro ⟨_, w3⟩ ⟨a7, c7, ts, ht4, rfl, o7, E3⟩
   try dsimp only at a7 c7 ts ht4 o7 E3
   have zE3 := E3.size
   try simp only [qz] at zE3
   simp (disch := first | exact xD | fail) [-bind_some, qs, -Aa, -Ab, p0, E1.Ai, t3, E2.Ai, E3.Ai]
   have o7' : D Cr (In w2.heap.size w3.heap.size) w3 [.slice a7 ts.length c7] ts := by rw [ht4]; exact o7.d
   refine Af.bind (Fq hvp.2.2 ht4 (D.Cb (hq1.ext xE)) (D.Cb o7.d)) ?_
   rintro ⟨_, w4⟩ ⟨rfl, E4⟩
   try dsimp only at E4
   have zE4 := E4.size
   try simp only [qz] at zE4
   simp (disch := first | exact xD | fail) [-bind_some, -Aa, -Ab]
   exact hQ _ ⟨_, rfl, fun _ => ⟨by rw [hlk, h]; omega, h6⟩, xE⟩
  ·simp (disch := first | exact xD | fail) [-bind_some, -Aa, -Ab, h6]
   exact hQ _ ⟨false, rfl, by simp, xE⟩
theorem PZ {M : Nat} {S : Nat → Prop} {cs : List Value} {p : PlaceD} {n : Int} {w : World} (hf : DA M p) (ho : D Kp S w cs p) :
  Af (EV P 116 #[.agg cs.toArray, i64 n] w) fun r => ∃ q, r.1 = .bool q ∧ (q = true → 1 < p.chain.length ∧ 0 ≤ n ∧ n < p.chain.length) ∧ Ext w r.2 := by
 obtain ⟨a, c, a1, c1, a2, c2, rfl, q1, q2, q3⟩ := D.place.1 ho
 obtain ⟨⟨h0, h4, hn⟩, hl, hlp, gl3, hgl⟩ := hf
 have hw1 : IntKind.i64.wrap ((p.chain.length : Int) - 1) = ((p.chain.length - 1 : Nat) : Int) := by rw [HS Ad Ad]; omega
 refine Af.post fun Q hQ => ?_
 refine Bw (JX _ _ _) ?_
 cases hfl : p.fell
 ·by_cases h1 : 1 < p.chain.length
  ·simp (disch := first | exact xD | fail) [-bind_some, qs, -Aa, -Ab, hw1, show (1 : Int) < p.chain.length by omega]
   refine Af.bind (AN _ _ _ _) ?_
   rintro _ rfl
   simp (disch := first | exact xD | fail) [-bind_some, -Aa, -Ab]
   refine hQ _ ⟨_, rfl, fun h => ?_, xE⟩
   simp only [Bool.and_eq_true, decide_eq_true_eq] at h
   omega
  ·simp (disch := first | exact xD | fail) [-bind_some, qs, -Aa, -Ab, show ¬ (1 : Int) < p.chain.length by omega]
   exact hQ _ ⟨false, rfl, by simp, xE⟩
 ·simp (disch := first | exact xD | fail) [-bind_some, qs, -Aa, -Ab]
  exact hQ _ ⟨false, rfl, by simp, xE⟩
theorem UJ {M : Nat} {S S1 : Nat → Prop} {cs : List Value} {p : PlaceD} {x : CNode} {a0 : Option Addr} {n0 c0 : Nat} {past : List Tag} {w : World} (hf : DA M p) (hx : p.chain[0]? = some x) (ho : D Kp S w cs p) (hp4 : past.length = 4) (hpa : D Cr S1 w [.slice a0 n0 c0] past) :
  Af (EV P 129 #[.agg cs.toArray, .agg #[.slice a0 n0 c0]] w) fun r => ∃ q, r.1 = .bool q ∧ (q = true → x.wait.length < 6) ∧ Ext w r.2 := by
 obtain ⟨rfl, _⟩ := hpa.n
 obtain ⟨a, c, a1, c1, a2, c2, rfl, q1, q2, q3⟩ := D.place.1 ho
 have hf' := hf
 obtain ⟨hI, hl, hlp, gl3, hgl⟩ := hf'
 refine Af.post fun Q hQ => ?_
 refine Bw (Om _ _ _) ?_
 simp (disch := first | exact xD | fail) [-bind_some, qs, -Aa, -Ab]
 refine Af.bind (L7 hI (q1.ext xE)) ?_
 rintro ⟨_, w1⟩ ⟨a7, c7, ts, ht4, rfl, o7, E1⟩
 try dsimp only at a7 c7 ts ht4 o7 E1
 have zE1 := E1.size
 try simp only [qz] at zE1
 simp (disch := first | exact xD | fail) [-bind_some, qs, -Aa, -Ab, E1.Ai]
 refine Af.bind (Fq hp4 ht4 (D.Cb (hpa.ext xE)) (D.Cb o7.d)) ?_
 rintro ⟨_, w2⟩ ⟨rfl, E2⟩
 try dsimp only at E2
 have zE2 := E2.size
 try simp only [qz] at zE2
 cases hu : under past ts
 ·simp (disch := first | exact xD | fail) [-bind_some, qs, -Aa, -Ab, E1.Ai, E2.Ai]
  exact hQ _ ⟨false, rfl, by simp, xE⟩
 ·simp (disch := first | exact xD | fail) [-bind_some, qs, -Aa, -Ab, E1.Ai, E2.Ai]
  refine Af.bind (Jd hx (q1.ext xE)) ?_
  rintro ⟨_, w3⟩ ⟨rfl, E3⟩
  try dsimp only at E3
  have zE3 := E3.size
  try simp only [qz] at zE3
  by_cases h6 : x.wait.length < 6
  ·simp (disch := first | exact xD | fail) [-bind_some, qs, -Aa, -Ab, h6, E1.Ai, E2.Ai, E3.Ai]
   refine Af.bind (G9 hp4 rfl (hpa.ext xE)) ?_
   rintro ⟨_, w4⟩ ⟨m, rfl, E4⟩
   try dsimp only at m E4
   have zE4 := E4.size
   try simp only [qz] at zE4
   by_cases hm : m ≤ 999
   ·by_cases h36 : p.log.length < 36
    ·simp (disch := first | exact xD | fail) [-bind_some, qs, -Aa, -Ab, hm, show (p.log.length : Int) < 36 by omega, E1.Ai, E2.Ai, E3.Ai, E4.Ai]
     exact hQ _ ⟨true, rfl, fun _ => h6, xE⟩
    ·simp (disch := first | exact xD | fail) [-bind_some, qs, -Aa, -Ab, hm, show ¬ (p.log.length : Int) < 36 by omega, E1.Ai, E2.Ai, E3.Ai, E4.Ai]
     exact hQ _ ⟨false, rfl, by simp, xE⟩
   ·simp (disch := first | exact xD | fail) [-bind_some, -Aa, -Ab, hm]
    exact hQ _ ⟨false, rfl, by simp, xE⟩
  ·simp (disch := first | exact xD | fail) [-bind_some, qs, -Aa, -Ab, h6, E1.Ai, E2.Ai, E3.Ai]
   exact hQ _ ⟨false, rfl, by simp, xE⟩
 -- STEPS
theorem Rz {M : Nat} {p : PlaceD} {x : CNode} {v : Ver} {vcs : List Value} {a a1 a2 : Option Addr} {c c1 c2 : Nat} {S1 S2 S3 Sv : Nat → Prop} {w : World} {clk : Int} (hf : DA M p) (hM : M ≤ 1000000) (hx : p.chain[0]? = some x) (h6 : x.wait.length < 6) (hv : OD v)
  (q1 : O Bb S1 w [.slice a p.chain.length c] p.chain) (q2 : O AW S2 w [.slice a1 p.log.length c1] p.log) (q3 : O QV S3 w [.slice a2 p.BQ.length c2] p.BQ) (k1 : ∀ b, S1 b → ¬ S2 b ∧ ¬ S3 b ∧ b < w.heap.size) (k2 : ∀ b, S2 b → ¬ S1 b ∧ ¬ S3 b ∧ b < w.heap.size) (k3 : ∀ b, S3 b → ¬ S1 b ∧ ¬ S2 b ∧ b < w.heap.size)
  (dv : D Cu Sv w vcs v) (hd : ∀ b, b < w.heap.size → Sv b → ¬ S1 b) :
  Af (EV P 138 #[.agg #[.slice a p.chain.length c], i64 0, .agg vcs.toArray] w) fun r => r.1 = .agg #[.slice a p.chain.length c] ∧ Mod S1 w r.2 ∧ ∀ w3 : World, (∀ b, (S1 b ∨ S2 b ∨ S3 b ∨ In w.heap.size r.2.heap.size b) → b < r.2.heap.size → hp w3 b = hp r.2 b) → r.2.heap.size ≤ w3.heap.size →
   Af (EV P 115 #[.agg #[i64 p.me, i64 clk, .slice a p.chain.length c, .slice a1 p.log.length c1, .slice a2 p.BQ.length c2, .bool p.fell]] w3) fun r' => ∃ (cs' : List Value) (p' : PlaceD), r'.1 = .agg cs'.toArray ∧ DA (M + 4) p' ∧ O Kp (fun b => S1 b ∨ S2 b ∨ S3 b ∨ (w.heap.size ≤ b ∧ b < r'.2.heap.size)) r'.2 cs' p' ∧ Mod (fun b => S1 b ∨ S2 b ∨ S3 b ∨ In w.heap.size r.2.heap.size b) w3 r'.2 := by
 obtain ⟨hI, hl, hlp, gl3, hgl⟩ := hf
 have hxn := hI.2.2 x (List.mem_of_getElem? hx)
 refine Af.mono (J9 (i := 0) q1 dv hd hx hv.1 (by rw [hxn.1]; have := hv.2.1; omega) Ad (by have := hI.2.1; omega)) ?_
 rintro ⟨_, w1⟩ ⟨rfl, o1, M1⟩
 have zM1 := M1.size
 try simp only [] at zM1
 try dsimp only at o1 M1
 have zM1 := M1.size
 refine ⟨rfl, M1, fun w3 hk hz => ?_⟩
 dsimp only at hk hz ⊢
 have hI' := Qb hI hx h6 hv
 have hal : (Hm p.chain 0 v).length = p.chain.length := Ka _ _ _
 obtain ⟨p1, hp1⟩ : ∃ p1 : PlaceD, p1 = { p with clock := clk, chain := Hm p.chain 0 v } := ⟨_, rfl⟩
 have ho := O.Fi (p := p1) (w := w3) (S1 := fun b => S1 b ∨ In w.heap.size w1.heap.size b) (S2 := S2) (S3 := S3) (s := .slice a p.chain.length c) (t := .slice a1 p.log.length c1) (u := .slice a2 p.BQ.length c2)
  (by rw [hp1]; exact o1.Aj fun b hb hbl => hk b (by rcases hb with h | h; exact .inl h; exact .inr (.inr (.inr h))) hbl)
  (by rw [hp1]; exact (q2.Aj fun b hb hbl => (hk b (.inr (.inl hb)) Ad).trans (M1.Ai b hbl (k2 b hb).1)))
  (by rw [hp1]; exact (q3.Aj fun b hb hbl => (hk b (.inr (.inr (.inl hb))) Ad).trans (M1.Ai b hbl (k3 b hb).1)))
  (fun b _ h h' => by rcases h with h | h; exact (k1 b h).1 h'; have := (k2 b h').2.2; simp only [In] at h; omega)
  (fun b _ h h' => by rcases h with h | h; exact (k1 b h).2.1 h'; have := (k3 b h').2.2; simp only [In] at h; omega)
  (fun b _ h h' => (k2 b h).2.1 h')
 have hfp : DA M p1 := by rw [hp1]; exact ⟨hI', hl, hlp, gl3, hgl⟩
 have ecs : [i64 p1.me, i64 p1.clock, .slice a p.chain.length c, .slice a1 p.log.length c1, .slice a2 p.BQ.length c2, .bool p1.fell] = [i64 p.me, i64 clk, .slice a p.chain.length c, .slice a1 p.log.length c1, .slice a2 p.BQ.length c2, .bool p.fell] := by rw [hp1]
 rw [ecs] at ho
 refine Af.mono (L6 (M := M) hfp hM ho) ?_
 rintro ⟨_, w4⟩ ⟨cs', p', rfl, f1, o4, M4⟩
 have zM4 := M4.size
 try simp only [] at zM4
 try dsimp only at o4 M4
 have zM4 := M4.size
 refine ⟨cs', p', rfl, f1, o4.wide ?_, M4.SU ?_⟩
 ·intro b hb hbl
  simp only [In] at hb ⊢
  rcases hb with ((h | h) | h | h) | h
  ·exact .inl h
  ·exact .inr (.inr (.inr Ad))
  ·exact .inr (.inl h)
  ·exact .inr (.inr (.inl h))
  ·exact .inr (.inr (.inr Ad))
 ·intro b hbl hb
  rcases hb with (h | h) | h | h
  ·exact .inl h
  ·exact .inr (.inr (.inr h))
  ·exact .inr (.inl h)
  ·exact .inr (.inr (.inl h))
theorem Sr {key : Int} {p : PlaceD} {text : ByteArray} {gone : Bool} {past : List Tag} {a a0 a1 a2 : Option Addr} {c c0 c1 c2 g5 g9 g10 g11 : Nat} {S : Nat → Prop} {e : Env} {w : World} {Q : Value × World → Prop} (hp4 : past.length = 4) (hpa : D Cr S w [.slice a0 4 c0] past)
  (e1 : e 1 = i64 key) (e2 : e 2 = .string text) (e3 : e 3 = .bool gone) (e5 : e 5 = pt g5 0) (e9 : e 9 = pt g9 0) (e10 : e 10 = pt g10 0) (e11 : e 11 = pt g11 0)
  (X5 : hp w g5 = some (.cells #[i64 p.me, i64 p.clock, .slice a p.chain.length c, .slice a1 p.log.length c1, .slice a2 p.BQ.length c2, .bool p.fell] 102 (0, 0))) (X9 : hp w g9 = some (.cells #[.slice a0 4 c0] 106 (0, 0)))
  (J : ∀ (e' : Env) (w' : World) (m : Int) (a5 : Option Addr) (c5 b : Nat), e' 5 = pt g5 0 → e' 10 = pt g10 0 → e' 11 = pt g11 0 → e' 12 = pt b 0 → w.heap.size ≤ b → hp w' b = some (.cells #[i64 key, i64 m, i64 p.me, .slice a5 4 c5, .string text, .bool gone] 110 (0, 0)) → Ext w w' →
   D Cr (fun b => w.heap.size ≤ b) w' [.slice a5 4 c5] past → Af (Be e' w') Q) : Af (Fp e w) Q := by
 have y5 := Aq X5
 have y9 := Aq X9
 refine IZ _ _ ?_
 simp (maxSteps := 1000000) (disch := first | exact xD | fail) [-bind_some, qs, -Aa, -Ab, e1, e2, e3, e5, e9, X5, X9]
 refine ⟨?_, ?_, ?_⟩
 ·skip
  refine Af.mono (G9 hp4 rfl (hpa.ext xE)) ?_
  rintro ⟨_, w1⟩ ⟨m, rfl, E1⟩
  try dsimp only at m E1
  have zE1 := E1.size
  try simp only [qz] at zE1
  have N5 : hp w1 g5 = hp w g5 := (E1.Ai (by simp; omega)).trans (by first | assumption | rfl | (simp (maxSteps := 1000000) (disch := first | exact xD | fail) [-bind_some, qs, -Aa, -Ab, qm, E1.Ai]; done))
  have N9 : hp w1 g9 = hp w g9 := (E1.Ai (by simp; omega)).trans (by first | assumption | rfl | (simp (maxSteps := 1000000) (disch := first | exact xD | fail) [-bind_some, qs, -Aa, -Ab, qm, E1.Ai]; done))
  simp (maxSteps := 1000000) (disch := first | exact xD | fail) [-bind_some, qs, -Aa, -Ab, N5, N9, X5, X9]
  refine ⟨?_, ?_⟩
  ·refine ⟨?_, ?_⟩
   ·refine Af.mono (O.I3 (L := F6) (mx := 8796093021952) B8 DC HN rfl AD (O.empty (g := w1.heap.size) (by first | assumption | rfl | (simp (maxSteps := 1000000) (disch := first | exact xD | fail) [-bind_some, qs, -Aa, -Ab]; done))) (hpa.ext xE) (by simp; omega) AD AD) ?_
    rintro ⟨_, w5⟩ ⟨a5, c5, rfl, o5, M5⟩
    have zM5 := M5.size
    try simp only [qz] at zM5
    try dsimp only at o5 M5
    simp only [List.nil_append, List.length_nil, Nat.zero_add, hp4] at o5
    have zM5 := M5.size
    try simp only [World.size_alloc] at zM5
    have F5 : Ext w w5 := Mod.after xE M5 (fun b h1 h2 => by have h2 : b = w1.heap.size := h2; omega)
    have N5 : hp w5 g5 = hp w g5 := F5.Ai y5
    have N9 : hp w5 g9 = hp w g9 := F5.Ai y9
    simp (maxSteps := 1000000) (disch := first | exact xD | fail) [-bind_some, qs, -Aa, -Ab, qm, N5, N9, X5, X9, hp4]
    exact J _ _ m a5 c5 (w5.heap.size) xA xA xA xA Ad (by first | assumption | rfl | (simp (maxSteps := 1000000) (disch := first | exact xD | fail) [-bind_some, qs, -Aa, -Ab]; done)) xE (((D.wide (S' := fun b => w.heap.size ≤ b ∧ b ≠ w5.heap.size ∧ b < w5.heap.size) o5.d (by intro b hb hbl; (try dsimp only at hb); (try simp only [World.size_alloc] at hb); exact ⟨by omega, by omega, hbl⟩)).Aj (fun b hb hbl => (Ac hb.2.1).trans (Ag hb.2.2))).wide (fun b hb _ => hb.1))
   ·refine Af.mono (O.I3 (L := F6) (mx := 8796093021952) B8 DC HN rfl AD (O.empty (g := w1.heap.size) (by first | assumption | rfl | (simp (maxSteps := 1000000) (disch := first | exact xD | fail) [-bind_some, qs, -Aa, -Ab]; done))) (hpa.ext xE) (by simp; omega) AD AD) ?_
    rintro ⟨_, w5⟩ ⟨a5, c5, rfl, o5, M5⟩
    have zM5 := M5.size
    try simp only [qz] at zM5
    try dsimp only at o5 M5
    simp only [List.nil_append, List.length_nil, Nat.zero_add, hp4] at o5
    have zM5 := M5.size
    try simp only [World.size_alloc] at zM5
    have F5 : Ext w w5 := Mod.after xE M5 (fun b h1 h2 => by have h2 : b = w1.heap.size := h2; omega)
    have N5 : hp w5 g5 = hp w g5 := F5.Ai y5
    have N9 : hp w5 g9 = hp w g9 := F5.Ai y9
    have Y8 : hp w5 (w1.heap.size + 1) = some (.cells #[i64 0, i64 0, i64 0, .slice none 0 0, .string ⟨#[]⟩, .bool false] 110 (0, 0)) := (M5.Ai _ (by (try simp only [World.size_alloc]); omega) Ad).trans (by first | assumption | rfl | (simp (maxSteps := 1000000) (disch := first | exact xD | fail) [-bind_some, qs, -Aa, -Ab]; done))
    simp (maxSteps := 1000000) (disch := first | exact xD | fail) [-bind_some, -Aa, -Ab, qm, N5, X5, Y8, hp4]
    exact J _ _ m a5 c5 (w1.heap.size + 1) xA xA xA xA Ad (by first | assumption | rfl | (simp (maxSteps := 1000000) (disch := first | exact xD | fail) [-bind_some, -Aa, -Ab, Y8]; done)) xE (((D.wide (S' := fun b => w.heap.size ≤ b ∧ b ≠ w1.heap.size + 1 ∧ b < w5.heap.size) o5.d (by intro b hb hbl; (try dsimp only at hb); (try simp only [World.size_alloc] at hb); exact ⟨by omega, by omega, hbl⟩)).Aj (fun b hb hbl => Ac hb.2.1)).wide (fun b hb _ => hb.1))
  ·refine Af.mono (O.I3 (L := F6) (mx := 8796093021952) B8 DC HN rfl AD (O.empty (g := w1.heap.size + 1) (by first | assumption | rfl | (simp (maxSteps := 1000000) (disch := first | exact xD | fail) [-bind_some, qs, -Aa, -Ab]; done))) (hpa.ext xE) (by simp; omega) AD AD) ?_
   rintro ⟨_, w5⟩ ⟨a5, c5, rfl, o5, M5⟩
   have zM5 := M5.size
   try simp only [qz] at zM5
   try dsimp only at o5 M5
   simp only [List.nil_append, List.length_nil, Nat.zero_add, hp4] at o5
   have zM5 := M5.size
   try simp only [World.size_alloc] at zM5
   have F5 : Ext w w5 := Mod.after xE M5 (fun b h1 h2 => by have h2 : b = w1.heap.size + 1 := h2; omega)
   have N5 : hp w5 g5 = hp w g5 := F5.Ai y5
   have N9 : hp w5 g9 = hp w g9 := F5.Ai y9
   have Y8 : hp w5 (w1.heap.size) = some (.cells #[i64 0, i64 0, i64 0, .slice none 0 0, .string ⟨#[]⟩, .bool false] 110 (0, 0)) := (M5.Ai _ (by (try simp only [World.size_alloc]); omega) Ad).trans (by first | assumption | rfl | (simp (maxSteps := 1000000) (disch := first | exact xD | fail) [-bind_some, qs, -Aa, -Ab]; done))
   simp (maxSteps := 1000000) (disch := first | exact xD | fail) [-bind_some, -Aa, -Ab, qm, N5, X5, Y8, hp4]
   exact J _ _ m a5 c5 (w1.heap.size) xA xA xA xA Ad (by first | assumption | rfl | (simp (maxSteps := 1000000) (disch := first | exact xD | fail) [-bind_some, -Aa, -Ab, Y8]; done)) xE (((D.wide (S' := fun b => w.heap.size ≤ b ∧ b ≠ w1.heap.size ∧ b < w5.heap.size) o5.d (by intro b hb hbl; (try dsimp only at hb); (try simp only [World.size_alloc] at hb); exact ⟨by omega, by omega, hbl⟩)).Aj (fun b hb hbl => Ac hb.2.1)).wide (fun b hb _ => hb.1))
 ·refine ⟨?_, ?_⟩
  ·skip
   refine Af.mono (G9 hp4 rfl (hpa.ext xE)) ?_
   rintro ⟨_, w1⟩ ⟨m, rfl, E1⟩
   try dsimp only at m E1
   have zE1 := E1.size
   try simp only [qz] at zE1
   have N5 : hp w1 g5 = hp w g5 := (E1.Ai (by simp; omega)).trans (by first | assumption | rfl | (simp (maxSteps := 1000000) (disch := first | exact xD | fail) [-bind_some, qs, -Aa, -Ab]; done))
   have N9 : hp w1 g9 = hp w g9 := (E1.Ai (by simp; omega)).trans (by first | assumption | rfl | (simp (maxSteps := 1000000) (disch := first | exact xD | fail) [-bind_some, qs, -Aa, -Ab]; done))
   simp (maxSteps := 1000000) (disch := first | exact xD | fail) [-bind_some, qs, -Aa, -Ab, N5, N9, X5, X9]
   refine ⟨?_, ?_⟩
   ·refine Af.mono (O.I3 (L := F6) (mx := 8796093021952) B8 DC HN rfl AD (O.empty (g := w.heap.size) (by first | assumption | rfl | (simp (maxSteps := 1000000) (disch := first | exact xD | fail) [-bind_some, qs, -Aa, -Ab, E1.Ai]; done))) (hpa.ext xE) (by simp; omega) AD AD) ?_
    rintro ⟨_, w5⟩ ⟨a5, c5, rfl, o5, M5⟩
    have zM5 := M5.size
    try simp only [] at zM5
    try dsimp only at o5 M5
    simp only [List.nil_append, List.length_nil, Nat.zero_add, hp4] at o5
    have zM5 := M5.size
    try simp only [World.size_alloc, Ak] at zM5
    have F5 : Ext w w5 := Mod.after xE M5 (fun b h1 h2 => by have h2 : b = w.heap.size := h2; omega)
    have N5 : hp w5 g5 = hp w g5 := F5.Ai y5
    have N9 : hp w5 g9 = hp w g9 := F5.Ai y9
    simp (maxSteps := 1000000) (disch := first | exact xD | fail) [-bind_some, qs, -Aa, -Ab, qm, N5, N9, X5, X9, hp4]
    exact J _ _ m a5 c5 (w5.heap.size) xA xA xA xA Ad (by first | assumption | rfl | (simp (maxSteps := 1000000) (disch := first | exact xD | fail) [-bind_some, qs, -Aa, -Ab]; done)) xE (((D.wide (S' := fun b => w.heap.size ≤ b ∧ b ≠ w5.heap.size ∧ b < w5.heap.size) o5.d (by intro b hb hbl; (try dsimp only at hb); (try simp only [World.size_alloc, Ak] at hb); exact ⟨by omega, by omega, hbl⟩)).Aj (fun b hb hbl => (Ac hb.2.1).trans (Ag hb.2.2))).wide (fun b hb _ => hb.1))
   ·refine Af.mono (O.I3 (L := F6) (mx := 8796093021952) B8 DC HN rfl AD (O.empty (g := w.heap.size) (by first | assumption | rfl | (simp (maxSteps := 1000000) (disch := first | exact xD | fail) [-bind_some, qs, -Aa, -Ab, E1.Ai]; done))) (hpa.ext xE) (by simp; omega) AD AD) ?_
    rintro ⟨_, w5⟩ ⟨a5, c5, rfl, o5, M5⟩
    have zM5 := M5.size
    try simp only [qz] at zM5
    try dsimp only at o5 M5
    simp only [List.nil_append, List.length_nil, Nat.zero_add, hp4] at o5
    have zM5 := M5.size
    try simp only [World.size_alloc] at zM5
    have F5 : Ext w w5 := Mod.after xE M5 (fun b h1 h2 => by have h2 : b = w.heap.size := h2; omega)
    have N5 : hp w5 g5 = hp w g5 := F5.Ai y5
    have N9 : hp w5 g9 = hp w g9 := F5.Ai y9
    have Y8 : hp w5 (w1.heap.size) = some (.cells #[i64 0, i64 0, i64 0, .slice none 0 0, .string ⟨#[]⟩, .bool false] 110 (0, 0)) := (M5.Ai _ (by (try simp only [World.size_alloc]); omega) Ad).trans (by first | assumption | rfl | (simp (maxSteps := 1000000) (disch := first | exact xD | fail) [-bind_some, qs, -Aa, -Ab]; done))
    simp (maxSteps := 1000000) (disch := first | exact xD | fail) [-bind_some, -Aa, -Ab, qm, N5, X5, Y8, hp4]
    exact J _ _ m a5 c5 (w1.heap.size) xA xA xA xA Ad (by first | assumption | rfl | (simp (maxSteps := 1000000) (disch := first | exact xD | fail) [-bind_some, -Aa, -Ab, Y8]; done)) xE (((D.wide (S' := fun b => w.heap.size ≤ b ∧ b ≠ w1.heap.size ∧ b < w5.heap.size) o5.d (by intro b hb hbl; (try dsimp only at hb); (try simp only [World.size_alloc] at hb); exact ⟨by omega, by omega, hbl⟩)).Aj (fun b hb hbl => Ac hb.2.1)).wide (fun b hb _ => hb.1))
  ·skip
   refine Af.mono (G9 hp4 rfl (hpa.ext xE)) ?_
   rintro ⟨_, w1⟩ ⟨m, rfl, E1⟩
   try dsimp only at m E1
   have zE1 := E1.size
   try simp only [qz] at zE1
   have N5 : hp w1 g5 = hp w g5 := (E1.Ai (by simp; omega)).trans (by first | assumption | rfl | (simp (maxSteps := 1000000) (disch := first | exact xD | fail) [-bind_some, qs, -Aa, -Ab]; done))
   have N9 : hp w1 g9 = hp w g9 := (E1.Ai (by simp; omega)).trans (by first | assumption | rfl | (simp (maxSteps := 1000000) (disch := first | exact xD | fail) [-bind_some, qs, -Aa, -Ab]; done))
   simp (maxSteps := 1000000) (disch := first | exact xD | fail) [-bind_some, -Aa, -Ab, N5, N9, X5, X9]
   refine Af.mono (O.I3 (L := F6) (mx := 8796093021952) B8 DC HN rfl AD (O.empty (g := w.heap.size) (by first | assumption | rfl | (simp (maxSteps := 1000000) (disch := first | exact xD | fail) [-bind_some, qs, -Aa, -Ab, E1.Ai]; done))) (hpa.ext xE) (by simp; omega) AD AD) ?_
   rintro ⟨_, w5⟩ ⟨a5, c5, rfl, o5, M5⟩
   have zM5 := M5.size
   try simp only [] at zM5
   try dsimp only at o5 M5
   simp only [List.nil_append, List.length_nil, Nat.zero_add, hp4] at o5
   have zM5 := M5.size
   try simp only [World.size_alloc, Ak] at zM5
   have F5 : Ext w w5 := Mod.after xE M5 (fun b h1 h2 => by have h2 : b = w.heap.size := h2; omega)
   have N5 : hp w5 g5 = hp w g5 := F5.Ai y5
   have N9 : hp w5 g9 = hp w g9 := F5.Ai y9
   have Y8 : hp w5 (w.heap.size + 1) = some (.cells #[i64 0, i64 0, i64 0, .slice none 0 0, .string ⟨#[]⟩, .bool false] 110 (0, 0)) := (M5.Ai _ (by (try simp only [World.size_alloc, Ak]); omega) Ad).trans (by first | assumption | rfl | (simp (maxSteps := 1000000) (disch := first | exact xD | fail) [-bind_some, qs, -Aa, -Ab, E1.Ai]; done))
   simp (maxSteps := 1000000) (disch := first | exact xD | fail) [-bind_some, -Aa, -Ab, qm, N5, X5, Y8, hp4]
   exact J _ _ m a5 c5 (w.heap.size + 1) xA xA xA xA Ad (by first | assumption | rfl | (simp (maxSteps := 1000000) (disch := first | exact xD | fail) [-bind_some, -Aa, -Ab, Y8]; done)) xE (((D.wide (S' := fun b => w.heap.size ≤ b ∧ b ≠ w.heap.size + 1 ∧ b < w5.heap.size) o5.d (by intro b hb hbl; (try dsimp only at hb); (try simp only [World.size_alloc, Ak] at hb); exact ⟨by omega, by omega, hbl⟩)).Aj (fun b hb hbl => Ac hb.2.1)).wide (fun b hb _ => hb.1))
 ·refine ⟨?_, ?_⟩
  ·skip
   refine Af.mono (G9 hp4 rfl (hpa.ext xE)) ?_
   rintro ⟨_, w1⟩ ⟨m, rfl, E1⟩
   try dsimp only at m E1
   have zE1 := E1.size
   try simp only [qz] at zE1
   have N5 : hp w1 g5 = hp w g5 := (E1.Ai (by simp; omega)).trans (by first | assumption | rfl | (simp (maxSteps := 1000000) (disch := first | exact xD | fail) [-bind_some, qs, -Aa, -Ab]; done))
   have N9 : hp w1 g9 = hp w g9 := (E1.Ai (by simp; omega)).trans (by first | assumption | rfl | (simp (maxSteps := 1000000) (disch := first | exact xD | fail) [-bind_some, qs, -Aa, -Ab]; done))
   simp (maxSteps := 1000000) (disch := first | exact xD | fail) [-bind_some, qs, -Aa, -Ab, N5, N9, X5, X9]
   refine Af.mono (O.I3 (L := F6) (mx := 8796093021952) B8 DC HN rfl AD (O.empty (g := w1.heap.size) (by first | assumption | rfl | (simp (maxSteps := 1000000) (disch := first | exact xD | fail) [-bind_some, qs, -Aa, -Ab]; done))) (hpa.ext xE) (by simp; omega) AD AD) ?_
   rintro ⟨_, w5⟩ ⟨a5, c5, rfl, o5, M5⟩
   have zM5 := M5.size
   try simp only [qz] at zM5
   try dsimp only at o5 M5
   simp only [List.nil_append, List.length_nil, Nat.zero_add, hp4] at o5
   have zM5 := M5.size
   try simp only [World.size_alloc] at zM5
   have F5 : Ext w w5 := Mod.after xE M5 (fun b h1 h2 => by have h2 : b = w1.heap.size := h2; omega)
   have N5 : hp w5 g5 = hp w g5 := F5.Ai y5
   have N9 : hp w5 g9 = hp w g9 := F5.Ai y9
   have Y8 : hp w5 (w.heap.size) = some (.cells #[i64 0, i64 0, i64 0, .slice none 0 0, .string ⟨#[]⟩, .bool false] 110 (0, 0)) := (M5.Ai _ (by (try simp only [World.size_alloc]); omega) Ad).trans (by first | assumption | rfl | (simp (maxSteps := 1000000) (disch := first | exact xD | fail) [-bind_some, qs, -Aa, -Ab, E1.Ai]; done))
   simp (maxSteps := 1000000) (disch := first | exact xD | fail) [-bind_some, -Aa, -Ab, qm, N5, X5, Y8, hp4]
   exact J _ _ m a5 c5 (w.heap.size) xA xA xA xA Ad (by first | assumption | rfl | (simp (maxSteps := 1000000) (disch := first | exact xD | fail) [-bind_some, -Aa, -Ab, Y8]; done)) xE (((D.wide (S' := fun b => w.heap.size ≤ b ∧ b ≠ w.heap.size ∧ b < w5.heap.size) o5.d (by intro b hb hbl; (try dsimp only at hb); (try simp only [World.size_alloc] at hb); exact ⟨by omega, by omega, hbl⟩)).Aj (fun b hb hbl => Ac hb.2.1)).wide (fun b hb _ => hb.1))
  ·skip
   refine Af.mono (G9 hp4 rfl (hpa.ext xE)) ?_
   rintro ⟨_, w1⟩ ⟨m, rfl, E1⟩
   try dsimp only at m E1
   have zE1 := E1.size
   try simp only [qz] at zE1
   have N5 : hp w1 g5 = hp w g5 := (E1.Ai (by simp; omega)).trans (by first | assumption | rfl | (simp (maxSteps := 1000000) (disch := first | exact xD | fail) [-bind_some, qs, -Aa, -Ab]; done))
   have N9 : hp w1 g9 = hp w g9 := (E1.Ai (by simp; omega)).trans (by first | assumption | rfl | (simp (maxSteps := 1000000) (disch := first | exact xD | fail) [-bind_some, qs, -Aa, -Ab]; done))
   simp (maxSteps := 1000000) (disch := first | exact xD | fail) [-bind_some, -Aa, -Ab, N5, N9, X5, X9]
   refine Af.mono (O.I3 (L := F6) (mx := 8796093021952) B8 DC HN rfl AD (O.empty (g := w.heap.size + 1) (by first | assumption | rfl | (simp (maxSteps := 1000000) (disch := first | exact xD | fail) [-bind_some, qs, -Aa, -Ab, E1.Ai]; done))) (hpa.ext xE) (by simp; omega) AD AD) ?_
   rintro ⟨_, w5⟩ ⟨a5, c5, rfl, o5, M5⟩
   have zM5 := M5.size
   try simp only [] at zM5
   try dsimp only at o5 M5
   simp only [List.nil_append, List.length_nil, Nat.zero_add, hp4] at o5
   have zM5 := M5.size
   try simp only [World.size_alloc, Ak] at zM5
   have F5 : Ext w w5 := Mod.after xE M5 (fun b h1 h2 => by have h2 : b = w.heap.size + 1 := h2; omega)
   have N5 : hp w5 g5 = hp w g5 := F5.Ai y5
   have N9 : hp w5 g9 = hp w g9 := F5.Ai y9
   have Y8 : hp w5 (w.heap.size) = some (.cells #[i64 0, i64 0, i64 0, .slice none 0 0, .string ⟨#[]⟩, .bool false] 110 (0, 0)) := (M5.Ai _ (by (try simp only [World.size_alloc, Ak]); omega) Ad).trans (by first | assumption | rfl | (simp (maxSteps := 1000000) (disch := first | exact xD | fail) [-bind_some, qs, -Aa, -Ab, E1.Ai]; done))
   simp (maxSteps := 1000000) (disch := first | exact xD | fail) [-bind_some, -Aa, -Ab, qm, N5, X5, Y8, hp4]
   exact J _ _ m a5 c5 (w.heap.size) xA xA xA xA Ad (by first | assumption | rfl | (simp (maxSteps := 1000000) (disch := first | exact xD | fail) [-bind_some, -Aa, -Ab, Y8]; done)) xE (((D.wide (S' := fun b => w.heap.size ≤ b ∧ b ≠ w.heap.size ∧ b < w5.heap.size) o5.d (by intro b hb hbl; (try dsimp only at hb); (try simp only [World.size_alloc, Ak] at hb); exact ⟨by omega, by omega, hbl⟩)).Aj (fun b hb hbl => Ac hb.2.1)).wide (fun b hb _ => hb.1))
theorem Su {M : Nat} {key : Int} {S Sp : Nat → Prop} {cs : List Value} {p : PlaceD} {x : CNode} {text : ByteArray} {gone : Bool} {past : List Tag} {a0 : Option Addr} {n0 c0 : Nat} {w : World} (hf : DA M p) (hM : M ≤ 1000000) (hx : p.chain[0]? = some x) (h6 : x.wait.length < 6) (hk0 : 0 ≤ key) (hk3 : key ≤ 3) (htx : text.size ≤ 140737488351232) (hp4 : past.length = 4)
  (ho : O Kp S w cs p) (hpa : D Cr Sp w [.slice a0 n0 c0] past) :
  Af (EV P 130 #[.agg cs.toArray, i64 key, .string text, .bool gone, .agg #[.slice a0 n0 c0]] w) fun r => ∃ (cs' : List Value) (p' : PlaceD) (t : Tag), r.1 = .tuple #[.agg cs'.toArray, .agg #[i64 t.t, i64 t.p]] ∧ DA (M + 4) p' ∧ O Kp (fun b => S b ∨ In w.heap.size r.2.heap.size b) r.2 cs' p' ∧ Mod S w r.2 := by
 obtain ⟨rfl, _⟩ := hpa.n
 rw [hp4] at hpa ⊢
 obtain ⟨a, c, a1, c1, a2, c2, S1, S2, S3, rfl, q1, q2, q3, k1, k2, k3⟩ := O.ID ho
 refine Af.post fun Q hQ => ?_
 refine Bw (LA _ _ _ _ _ _) ?_
 simp (maxSteps := 1000000) (disch := first | exact xD | fail) [-bind_some, -Aa, -Ab]
 refine Sr (g5 := w.heap.size) (g9 := w.heap.size + 1) (g10 := w.heap.size + 1 + 1) (g11 := w.heap.size + 1 + 1 + 1) (p := p) (a := a) (c := c) (a1 := a1) (c1 := c1) (a2 := a2) (c2 := c2) hp4 (hpa.ext xE) xA xA xA xA xA xA xA (by first | assumption | rfl | (simp (maxSteps := 1000000) (disch := first | exact xD | fail) [-bind_some, qs, -Aa, -Ab]; done)) (by first | assumption | rfl | (simp (maxSteps := 1000000) (disch := first | exact xD | fail) [-bind_some, qs, -Aa, -Ab]; done)) ?_
 intro e' w' m a5 c5 b e5 e10 e11 e12 hb X12 E0 dt
 have zE0 := E0.size
 try simp only [qz] at zE0
 have zE0' := E0.size
 simp only [World.size_alloc] at hb zE0' dt
 have F0 : Ext w w' := xE
 have y12 := Aq X12
 have X5 : hp w' w.heap.size = some (.cells #[i64 p.me, i64 p.clock, .slice a p.chain.length c, .slice a1 p.log.length c1, .slice a2 p.BQ.length c2, .bool p.fell] 102 (0, 0)) := (E0.Ai (by simp; omega)).trans (by first | assumption | rfl | (simp (maxSteps := 1000000) (disch := first | exact xD | fail) [-bind_some, qs, -Aa, -Ab]; done))
 have X10 : hp w' (w.heap.size + 1 + 1) = some (.cells #[i64 0, i64 0, .slice none 0 0, .slice none 0 0, .slice none 0 0, .bool false] 102 (0, 0)) := (E0.Ai (by simp)).trans (by first | assumption | rfl | (simp (maxSteps := 1000000) (disch := first | exact xD | fail) [-bind_some, qs, -Aa, -Ab]; done))
 have X11 : hp w' (w.heap.size + 1 + 1 + 1) = some (.cells #[i64 0, i64 0] 39 (0, 0)) := (E0.Ai (by simp)).trans (by first | assumption | rfl | (simp (maxSteps := 1000000) (disch := first | exact xD | fail) [-bind_some, qs, -Aa, -Ab]; done))
 rw [Jx]
 simp (maxSteps := 1000000) (disch := first | exact xD | fail) [-bind_some, qs, -Aa, -Ab, qm, e5, e10, e11, e12, X5, X12]
 have kS : ∀ b, S1 b ∨ S2 b ∨ S3 b → S b ∧ b < w.heap.size := by
  rintro b (h | h | h)
  ·exact ⟨(k1 b h).1, (k1 b h).2.2.2⟩
  ·exact ⟨(k2 b h).1, (k2 b h).2.2.2⟩
  ·exact ⟨(k3 b h).1, (k3 b h).2.2.2⟩
 obtain ⟨W, hW⟩ : ∃ W : World, W = w'.setRow w.heap.size #[i64 p.me, i64 m, .slice a p.chain.length c, .slice a1 p.log.length c1, .slice a2 p.BQ.length c2, .bool p.fell] := ⟨_, rfl⟩
 rw [← hW]
 have sW : W.heap.size = w'.heap.size := by rw [hW, size_setRow]
 have kW : ∀ b, b ≠ w.heap.size → hp W b = hp w' b := fun b h => by rw [hW, Ac h]
 have V5 : hp W w.heap.size = some (.cells #[i64 p.me, i64 m, .slice a p.chain.length c, .slice a1 p.log.length c1, .slice a2 p.BQ.length c2, .bool p.fell] 102 (0, 0)) := by
  rw [hW]
  exact (by first | assumption | rfl | (simp (maxSteps := 1000000) (disch := first | exact xD | fail) [-bind_some, -Aa, -Ab, X5]; done))
 have FW : Ext w W := by
  rw [hW]
  exact F0.set Ad _
 have V10 := (kW (w.heap.size + 1 + 1) Ad).trans X10
 have V11 := (kW (w.heap.size + 1 + 1 + 1) Ad).trans X11
 have V12 := (kW b Ad).trans X12
 have dv : D Cu (fun b => w.heap.size + 1 ≤ b) W [i64 key, i64 m, i64 p.me, .slice a5 4 c5, .string text, .bool gone] ⟨key, ⟨m, p.me⟩, past, text, gone⟩ := by
  refine D.Cq.2 ⟨a5, c5, by rw [hp4], ?_, htx⟩
  rw [hp4]
  exact (dt.Aj fun b hb hbl => kW b Ad).wide fun b hb _ => by omega
 refine Af.bind (Rz (M := M) (clk := m) (v := ⟨key, ⟨m, p.me⟩, past, text, gone⟩) hf hM hx h6 ⟨hk0, hk3, fun _ => hp4⟩ (q1.ext FW) (q2.ext FW) (q3.ext FW) (fun b h => ⟨(k1 b h).2.1, (k1 b h).2.2.1, by have := (k1 b h).2.2.2; have := FW.size; omega⟩) (fun b h => ⟨(k2 b h).2.1, (k2 b h).2.2.1, by have := (k2 b h).2.2.2; have := FW.size; omega⟩) (fun b h => ⟨(k3 b h).2.1, (k3 b h).2.2.1, by have := (k3 b h).2.2.2; have := FW.size; omega⟩) dv (fun b _ h h' => by have := (k1 b h').2.2.2; omega)) ?_
 rintro ⟨_, w2⟩ ⟨rfl, M2, RN⟩
 have zM2 := M2.size
 try simp only [] at zM2
 try dsimp only at M2 RN
 have zM2 := M2.size
 have nb : ∀ b, w.heap.size ≤ b → ¬ S1 b := fun b h h' => by have := (k1 b h').2.2.2; omega
 have Z5 := (M2.Ai _ Ad (nb _ Ad)).trans V5
 have Z10 := (M2.Ai _ Ad (nb _ Ad)).trans V10
 have Z11 := (M2.Ai _ Ad (nb _ Ad)).trans V11
 have Z12 := (M2.Ai _ Ad (nb _ Ad)).trans V12
 simp (maxSteps := 1000000) (disch := first | exact xD | fail) [-bind_some, qs, -Aa, -Ab, qm, Z5, Z12]
 refine Af.bind (RN _ (fun b hb hbl => ?_) (by simp)) ?_
 ·refine (BW _ _).trans (Ac ?_)
  rintro rfl
  rcases hb with h | h | h | h
  ·have := (k1 _ h).2.2.2; omega
  ·have := (k2 _ h).2.2.2; omega
  ·have := (k3 _ h).2.2.2; omega
  ·simp only [In] at h; omega
 rintro ⟨_, w3⟩ ⟨cs', p', rfl, f3, o3, M3⟩
 have zM3 := M3.size
 try simp only [qz] at zM3
 try dsimp only at o3 M3
 have zM3 := M3.size
 simp only [Ak, size_setRow] at zM3
 have nb3 : ∀ b, w.heap.size ≤ b → b < W.heap.size → ¬ (S1 b ∨ S2 b ∨ S3 b ∨ In W.heap.size w2.heap.size b) := by
  rintro b h1 h2 (h | h | h | h)
  ·have := (k1 b h).2.2.2; omega
  ·have := (k2 b h).2.2.2; omega
  ·have := (k3 b h).2.2.2; omega
  ·simp only [In] at h; omega
 have T10 : hp w3 (w.heap.size + 1 + 1) = _ := (M3.Ai _ (by simp; omega) (nb3 _ Ad Ad)).trans ((BW _ _).trans ((Ac Ad).trans Z10))
 have T11 : hp w3 (w.heap.size + 1 + 1 + 1) = _ := (M3.Ai _ (by simp; omega) (nb3 _ Ad Ad)).trans ((BW _ _).trans ((Ac Ad).trans Z11))
 have T12 : hp w3 b = _ := (M3.Ai _ (by simp; omega) (nb3 _ Ad Ad)).trans ((BW _ _).trans ((Ac Ad).trans Z12))
 have o3' := o3.d
 obtain ⟨a7, c7, a8, c8, a9, c9, rfl, _, _, _⟩ := D.place.1 o3'
 simp (maxSteps := 1000000) (disch := first | exact xD | fail) [-bind_some, qs, -Aa, -Ab, qm, T10, T11, T12]
 refine hQ _ ⟨_, p', ⟨m, p.me⟩, rfl, f3, (o3.Aj fun b hb hbl => ?_).wide ?_, ?_⟩
 ·have hne : b ≠ w.heap.size + 1 + 1 ∧ b ≠ w.heap.size + 1 + 1 + 1 := by
   rcases hb with h | h | h | h
   ·have := (k1 _ h).2.2.2; omega
   ·have := (k2 _ h).2.2.2; omega
   ·have := (k3 _ h).2.2.2; omega
   ·omega
  rw [Ac hne.2, Ac hne.1]
 ·intro b hb hbl
  simp only [size_setRow] at hbl
  rcases hb with h | h | h | h
  ·exact .inl (kS b (.inl h)).1
  ·exact .inl (kS b (.inr (.inl h))).1
  ·exact .inl (kS b (.inr (.inr h))).1
  ·refine .inr ?_
   simp only [In, size_setRow]
   omega
 ·have Ma : Mod S w w2 := Mod.Bd (Mod.of FW S) M2 fun b _ h => (kS b (.inl h)).1
  have Mb : Mod S w (dw (w2.setRow w.heap.size #[i64 p.me, i64 m, .slice a p.chain.length c, .slice a1 p.log.length c1, .slice a2 p.BQ.length c2, .bool p.fell])) := (Ma.AQ (.inl (Nat.le_refl _)) _).Ud
  have Mc : Mod S w w3 := Mod.Bd Mb M3 fun b hb h => by
   rcases h with h | h | h | h
   ·exact (kS b (.inl h)).1
   ·exact (kS b (.inr (.inl h))).1
   ·exact (kS b (.inr (.inr h))).1
   ·simp only [In] at h; omega
  exact (Mc.AQ (.inl Ad) _).AQ (.inl Ad) _
theorem P0 {M : Nat} {p : PlaceD} {x : CNode} {v : Ver} {clk : Int} {a a1 a2 av : Option Addr} {c c1 c2 cv b5 : Nat} {S S1 S2 S3 Sv : Nat → Prop} {w W : World} {e : Env} (hf : DA M p) (hM : M ≤ 1000000) (hx : p.chain[0]? = some x) (h6 : x.wait.length < 6) (hv : OD v)
  (q1 : O Bb S1 w [.slice a p.chain.length c] p.chain) (q2 : O AW S2 w [.slice a1 p.log.length c1] p.log) (q3 : O QV S3 w [.slice a2 p.BQ.length c2] p.BQ) (k1 : ∀ b, S1 b → S b ∧ ¬ S2 b ∧ ¬ S3 b ∧ b < w.heap.size) (k2 : ∀ b, S2 b → S b ∧ ¬ S1 b ∧ ¬ S3 b ∧ b < w.heap.size) (k3 : ∀ b, S3 b → S b ∧ ¬ S1 b ∧ ¬ S2 b ∧ b < w.heap.size)
  (FW : Ext w W) (dv : D Cu Sv W [i64 v.key, i64 v.tag.t, i64 v.tag.p, .slice av v.past.length cv, .string v.text, .bool v.gone] v) (hSv : ∀ b, Sv b → ¬ S1 b)
  (e2 : e 2 = pt w.heap.size 0) (e4 : e 4 = pt (w.heap.size + 1) 0) (e5 : e 5 = pt b5 0) (hb5 : w.heap.size + 1 + 1 ≤ b5)
  (V2 : hp W w.heap.size = some (.cells #[i64 p.me, i64 clk, .slice a p.chain.length c, .slice a1 p.log.length c1, .slice a2 p.BQ.length c2, .bool p.fell] 102 (0, 0))) (V4 : hp W (w.heap.size + 1) = some (.cells #[i64 0, i64 0, .slice none 0 0, .slice none 0 0, .slice none 0 0, .bool false] 102 (0, 0)))
  (V5 : hp W b5 = some (.cells #[i64 v.key, i64 v.tag.t, i64 v.tag.p, .slice av v.past.length cv, .string v.text, .bool v.gone] 110 (0, 0))) :
  Af (Eo e W) fun r => ∃ (cs' : List Value) (p' : PlaceD), r.1 = .agg cs'.toArray ∧ DA (M + 4) p' ∧ O Kp (fun b => S b ∨ In w.heap.size r.2.heap.size b) r.2 cs' p' ∧ Mod S w r.2 := by
 have zFW := FW.size
 have y5 := Aq V5
 rw [J1]
 have kS : ∀ b, S1 b ∨ S2 b ∨ S3 b → S b ∧ b < w.heap.size := by
  rintro b (h | h | h)
  ·exact ⟨(k1 b h).1, (k1 b h).2.2.2⟩
  ·exact ⟨(k2 b h).1, (k2 b h).2.2.2⟩
  ·exact ⟨(k3 b h).1, (k3 b h).2.2.2⟩
 refine Af.post fun Q hQ => ?_
 simp (disch := first | exact xD | fail) [-bind_some, -Aa, -Ab, e2, e4, e5, V2, V5]
 refine Af.bind (Rz (M := M) (clk := clk) hf hM hx h6 hv (q1.ext FW) (q2.ext FW) (q3.ext FW) (fun b h => ⟨(k1 b h).2.1, (k1 b h).2.2.1, by have := (k1 b h).2.2.2; omega⟩) (fun b h => ⟨(k2 b h).2.1, (k2 b h).2.2.1, by have := (k2 b h).2.2.2; omega⟩) (fun b h => ⟨(k3 b h).2.1, (k3 b h).2.2.1, by have := (k3 b h).2.2.2; omega⟩) dv (fun b _ h h' => hSv b h h')) ?_
 rintro ⟨_, w2⟩ ⟨rfl, M2, RN⟩
 have zM2 := M2.size
 try simp only [] at zM2
 try dsimp only at M2 RN
 have zM2 := M2.size
 have nb : ∀ b, w.heap.size ≤ b → ¬ S1 b := fun b h h' => by have := (k1 b h').2.2.2; omega
 have Z2 := (M2.Ai _ Ad (nb _ Ad)).trans V2
 have Z4 := (M2.Ai _ Ad (nb _ Ad)).trans V4
 have Z5 := (M2.Ai _ Ad (nb _ Ad)).trans V5
 simp (disch := first | exact xD | fail) [-bind_some, -Aa, -Ab, qm, Z2]
 refine Af.bind (RN _ (fun b hb hbl => ?_) (by simp)) ?_
 ·refine Ac ?_
  rintro rfl
  rcases hb with h | h | h | h
  ·have := (k1 _ h).2.2.2; omega
  ·have := (k2 _ h).2.2.2; omega
  ·have := (k3 _ h).2.2.2; omega
  ·simp only [In] at h; omega
 rintro ⟨_, w3⟩ ⟨cs', p', rfl, f3, o3, M3⟩
 have zM3 := M3.size
 try simp only [qz] at zM3
 try dsimp only at o3 M3
 have zM3 := M3.size
 simp only [size_setRow] at zM3
 have nb3 : ∀ b, w.heap.size ≤ b → b < W.heap.size → ¬ (S1 b ∨ S2 b ∨ S3 b ∨ In W.heap.size w2.heap.size b) := by
  rintro b h1 h2 (h | h | h | h)
  ·have := (k1 b h).2.2.2; omega
  ·have := (k2 b h).2.2.2; omega
  ·have := (k3 b h).2.2.2; omega
  ·simp only [In] at h; omega
 have T4 : hp w3 (w.heap.size + 1) = _ := (M3.Ai _ (by simp; omega) (nb3 _ Ad Ad)).trans ((Ac Ad).trans Z4)
 have o3' := o3.d
 obtain ⟨a7, c7, a8, c8, a9, c9, rfl, _, _, _⟩ := D.place.1 o3'
 simp (disch := first | exact xD | fail) [-bind_some, -Aa, -Ab, qm, T4]
 refine hQ _ ⟨_, p', rfl, f3, (o3.Aj fun b hb hbl => ?_).wide ?_, ?_⟩
 ·refine Ac ?_
  rintro rfl
  rcases hb with h | h | h | h
  ·have := (k1 _ h).2.2.2; omega
  ·have := (k2 _ h).2.2.2; omega
  ·have := (k3 _ h).2.2.2; omega
  ·omega
 ·intro b hb hbl
  simp only [size_setRow] at hbl
  rcases hb with h | h | h | h
  ·exact .inl (kS b (.inl h)).1
  ·exact .inl (kS b (.inr (.inl h))).1
  ·exact .inl (kS b (.inr (.inr h))).1
  ·refine .inr ?_
   simp only [In, size_setRow]
   omega
 ·have Ma : Mod S w w2 := Mod.Bd (Mod.of FW S) M2 fun b _ h => (kS b (.inl h)).1
  have Mb : Mod S w (w2.setRow w.heap.size #[i64 p.me, i64 clk, .slice a p.chain.length c, .slice a1 p.log.length c1, .slice a2 p.BQ.length c2, .bool p.fell]) := Ma.AQ (.inl (Nat.le_refl _)) _
  have Mc : Mod S w w3 := Mod.Bd Mb M3 fun b hb h => by
   rcases h with h | h | h | h
   ·exact (kS b (.inl h)).1
   ·exact (kS b (.inr (.inl h))).1
   ·exact (kS b (.inr (.inr h))).1
   ·simp only [In] at h; omega
  exact Mc.AQ (.inl Ad) _
theorem Tn {M i : Nat} {S : Nat → Prop} {cs : List Value} {p : PlaceD} {x : CNode} {w : World} (hf : DA M p) (hM : M ≤ 1000000) (hi : i < 3) (hx : p.chain[0]? = some x) (h6 : x.wait.length < 6) (hlk : I5 p i ≠ -1) (ho : O Kp S w cs p) :
  Af (EV P 120 #[.agg cs.toArray, i64 i] w) fun r => ∃ (cs' : List Value) (p' : PlaceD), r.1 = .agg cs'.toArray ∧ DA (M + 4) p' ∧ O Kp (fun b => S b ∨ In w.heap.size r.2.heap.size b) r.2 cs' p' ∧ Mod S w r.2 := by
 have ho' := ho.d
 obtain ⟨a, c, a1, c1, a2, c2, S1, S2, S3, rfl, q1, q2, q3, k1, k2, k3⟩ := O.ID ho
 have hf' := hf
 obtain ⟨hI, hl, hlp, gl3, hgl⟩ := hf'
 obtain ⟨l, hgi, _⟩ := An (l := p.BQ) (k := i) Ad
 have hl60 := hgl l (List.mem_of_getElem? hgi)
 have hlk' : I5 p i = H8 x.store l 0 := by rw [I5, hx, hgi]
 obtain ⟨j, hj, hjl⟩ : ∃ j : Nat, I5 p i = (j : Int) ∧ j < l.length := by
  rcases L9 (head := x.store) l 0 with h | ⟨j, h, _, hj⟩
  ·rw [hlk'] at hlk; exact absurd h hlk
  ·exact ⟨j, by rw [hlk', h], by omega⟩
 obtain ⟨v, hv, _⟩ := An hjl
 have hvp := hl60.2 v (List.mem_of_getElem? hv)
 obtain ⟨b3, o3, cs3, rfl, A3, D3, _, _⟩ := q3.d.at AD hgi
 obtain ⟨a4, c4, rfl, D4⟩ := D3.It
 have p0 := A3 0 _ rfl
 simp only [Nat.add_zero] at p0
 simp only [HK, Nat.mul_one] at p0
 obtain ⟨b9, o9, cs9, rfl, A5, D5, _, _⟩ := D4.at AD hv
 have D5' := D5
 obtain ⟨av, cv, rfl, hq1, _⟩ := D.Cq.1 D5'
 have t0 := A5 0 _ rfl
 have t1 := A5 1 _ rfl
 have t2 := A5 2 _ rfl
 have t3 := A5 3 _ rfl
 have t4 := A5 4 _ rfl
 have t5 := A5 5 _ rfl
 simp only [Co, Nat.add_zero] at t0 t1 t2 t3 t4 t5
 have ya := A3.lt
 have yb := A5.lt
 have go : ∀ (Q : Value × World → Prop) (e : Env) (W : World) (b5 : Nat), (∀ r, (∃ (cs' : List Value) (p' : PlaceD), r.1 = .agg cs'.toArray ∧ DA (M + 4) p' ∧ O Kp (fun b => S b ∨ In w.heap.size r.2.heap.size b) r.2 cs' p' ∧ Mod S w r.2) → Q r) → e 2 = pt w.heap.size 0 → e 4 = pt (w.heap.size + 1) 0 → e 5 = pt b5 0 → w.heap.size + 1 + 1 ≤ b5 → Ext w W →
   hp W w.heap.size = some (.cells #[i64 p.me, i64 p.clock, .slice a p.chain.length c, .slice a1 p.log.length c1, .slice (some ⟨b3, o3, none⟩) p.BQ.length c2, .bool p.fell] 102 (0, 0)) → hp W (w.heap.size + 1) = some (.cells #[i64 0, i64 0, .slice none 0 0, .slice none 0 0, .slice none 0 0, .bool false] 102 (0, 0)) →
   hp W b5 = some (.cells #[i64 v.key, i64 v.tag.t, i64 v.tag.p, .slice av v.past.length cv, .string v.text, .bool v.gone] 110 (0, 0)) → Af (En e W) Q := by
  intro Q e W b5 hQ e2 e4 e5 hb5 FW V2 V4 V5
  have zFW := FW.size
  have y5 := Aq V5
  rw [J0]
  by_cases hgt : p.clock < v.tag.t
  ·simp (disch := first | exact xD | fail) [-bind_some, -Aa, -Ab, qm, e2, e5, V2, V5, hgt]
   refine Af.mono (P0 (clk := v.tag.t) (W := W.setRow w.heap.size #[i64 p.me, i64 v.tag.t, .slice a p.chain.length c, .slice a1 p.log.length c1, .slice (some ⟨b3, o3, none⟩) p.BQ.length c2, .bool p.fell]) hf hM hx h6 (Tl hvp) q1 q2 q3 k1 k2 k3 (FW.set Ad _) ((D5.ext FW).Aj (fun b hb hbl => Ac (by have := (k3 b hb).2.2.2; omega))) (fun b h => (k3 b h).2.1) xA xA xA hb5 (by first | assumption | rfl | (simp (disch := first | exact xD | fail) [-bind_some, -Aa, -Ab, V2]; done)) ((Ac Ad).trans V4) ((Ac Ad).trans V5)) hQ
  ·simp (disch := first | exact xD | fail) [-bind_some, -Aa, -Ab, e2, e5, V2, V5, hgt]
   exact Af.mono (P0 (clk := p.clock) hf hM hx h6 (Tl hvp) q1 q2 q3 k1 k2 k3 FW (D5.ext FW) (fun b h => (k3 b h).2.1) xA xA xA hb5 V2 V4 V5) hQ
 refine Af.post fun Q hQ => ?_
 refine Bw (MQ _ _ _) ?_
 simp (disch := first | exact xD | fail) [-bind_some, -Aa, -Ab]
 refine Jw _ _ ?_
 simp (disch := first | exact xD | fail) [-bind_some, qs, -Aa, -Ab, GR, p0]
 constructor
 ·skip
  refine Af.mono (Kx hf hi (ho'.ext xE)) ?_
  rintro ⟨_, w1⟩ ⟨rfl, E1⟩
  try dsimp only at E1
  have zE1 := E1.size
  try simp only [qz] at zE1
  rw [hj]
  simp (disch := first | exact xD | fail) [-bind_some, qs, -Aa, -Ab, qm, Ck, p0, t0, t1, t2, t3, t4, t5, E1.Ai]
  exact go Q _ _ (w1.heap.size) hQ xA xA xA Ad xE (by first | assumption | rfl | (simp (disch := first | exact xD | fail) [-bind_some, qs, -Aa, -Ab, E1.Ai]; done)) (by first | assumption | rfl | (simp (disch := first | exact xD | fail) [-bind_some, qs, -Aa, -Ab, E1.Ai]; done)) (by first | assumption | rfl | (simp (disch := first | exact xD | fail) [-bind_some, qs, -Aa, -Ab]; done))
 ·skip
  refine Af.mono (Kx hf hi (ho'.ext xE)) ?_
  rintro ⟨_, w1⟩ ⟨rfl, E1⟩
  try dsimp only at E1
  have zE1 := E1.size
  try simp only [qz] at zE1
  rw [hj]
  have N5 : hp w1 (w.heap.size + 1 + 1) = some (.cells #[i64 0, i64 0, i64 0, .slice none 0 0, .string ⟨#[]⟩, .bool false] 110 (0, 0)) := (E1.Ai (by simp)).trans (by first | assumption | rfl | (simp (disch := first | exact xD | fail) [-bind_some, qs, -Aa, -Ab]; done))
  simp (disch := first | exact xD | fail) [-bind_some, qs, -Aa, -Ab, qm, Ck, N5, p0, t0, t1, t2, t3, t4, t5, E1.Ai]
  exact go Q _ _ (w.heap.size + 1 + 1) hQ xA xA xA Ad xE (by first | assumption | rfl | (simp (disch := first | exact xD | fail) [-bind_some, qs, -Aa, -Ab, E1.Ai]; done)) (by first | assumption | rfl | (simp (disch := first | exact xD | fail) [-bind_some, qs, -Aa, -Ab, E1.Ai]; done)) (by first | assumption | rfl | (simp (disch := first | exact xD | fail) [-bind_some, -Aa, -Ab, N5]; done))
theorem P4 {M i : Nat} {at' : Int} {S Sv : Nat → Prop} {cs vcs : List Value} {p : PlaceD} {v : Ver} {w : World} (hf : DA M p) (hi : i < 3) (hv : Pq v) (dv : D Cu Sv w vcs v) (ho : O Kp S w cs p) :
  Af (EV P 121 #[.agg cs.toArray, i64 i, i64 at', .agg vcs.toArray] w) fun r => ∃ (cs' : List Value) (p' : PlaceD) (ok : Bool), r.1 = .tuple #[.agg cs'.toArray, .bool ok] ∧ (ok = false → Ext w r.2) ∧ DA M p' ∧ O Kp (fun b => S b ∨ In w.heap.size r.2.heap.size b) r.2 cs' p' ∧ Mod S w r.2 := by
 obtain ⟨av, cv, rfl, dv1, dv2⟩ := D.Cq.1 dv
 have dv : D Cu Sv w [i64 v.key, i64 v.tag.t, i64 v.tag.p, .slice av v.past.length cv, .string v.text, .bool v.gone] v := dv
 have ho0 := ho
 obtain ⟨a, c, a1, c1, a2, c2, S1, S2, S3, rfl, q1, q2, q3, k1, k2, k3⟩ := O.ID ho
 have hf' := hf
 obtain ⟨hI, hl, hlp, gl3, hgl⟩ := hf'
 obtain ⟨l, hgi, _⟩ := An (l := p.BQ) (k := i) Ad
 have hl60 := hgl l (List.mem_of_getElem? hgi)
 obtain ⟨g, cur, ds, S4, rfl, hSg, hgL, hgr, hle, hx1, hS4, put⟩ := q3.PO AD hgi
 obtain ⟨a4, c4, rfl, ol⟩ := hx1.It
 simp only [HK, Nat.mul_one] at hgr hle put
 have hip : i < p.BQ.length := by omega
 have fail : ∀ (Q : Value × World → Prop) (w' : World), (∀ r, (∃ (cs' : List Value) (p' : PlaceD) (ok : Bool), r.1 = .tuple #[.agg cs'.toArray, .bool ok] ∧ (ok = false → Ext w r.2) ∧ DA M p' ∧ O Kp (fun b => S b ∨ In w.heap.size r.2.heap.size b) r.2 cs' p' ∧ Mod S w r.2) → Q r) → Ext w w' → Q (.tuple #[.agg #[i64 p.me, i64 p.clock, .slice a p.chain.length c, .slice a1 p.log.length c1, .slice (some ⟨g, 0, none⟩) p.BQ.length c2, .bool p.fell], .bool false], w') :=
  fun Q w' hQ hE => hQ _ ⟨_, p, false, rfl, fun _ => hE, hf, (ho0.ext hE).wide fun b h _ => .inl h, Mod.of hE S⟩
 refine Af.post fun Q hQ => ?_
 refine Bw (MR _ _ _ _ _) ?_
 cases hme : ((i : Int) == p.me)
 ·cases hat : (at' != (l.length : Int))
  ·have hat' : at' = (l.length : Int) := by simpa using hat
   subst hat'
   by_cases h60 : l.length < 60
   ·simp (disch := first | exact xD | fail) [-bind_some, qs, -Aa, -Ab, qm, hme, hgr, GR, show ¬ (60 : Int) ≤ l.length by omega]
    refine Af.bind (LZ (t := v.tag) (ol.d.ext xE) Ad) ?_
    rintro ⟨_, w1⟩ ⟨lg, rfl, E1⟩
    try dsimp only at lg E1
    have zE1 := E1.size
    try simp only [qz] at zE1
    cases lg
    ·have G1 : hp w1 g = _ := (E1.Ai (by simp only [World.size_alloc, Ak]; omega)).trans ((by first | assumption | rfl | (simp (disch := first | exact xD | fail) [-bind_some, qs, -Aa, -Ab]; done)) : _ = hp w g) |>.trans hgr
     have P1 : hp w1 w.heap.size = some (.cells #[i64 p.me, i64 p.clock, .slice a p.chain.length c, .slice a1 p.log.length c1, .slice (some ⟨g, 0, none⟩) p.BQ.length c2, .bool p.fell] 102 (0, 0)) := (E1.Ai (by simp only [World.size_alloc, Ak]; omega)).trans (by first | assumption | rfl | (simp (disch := first | exact xD | fail) [-bind_some, qs, -Aa, -Ab]; done))
     have R1 : hp w1 (w.heap.size + 1 + 1) = some (.cells #[i64 0, i64 0, .slice none 0 0, .slice none 0 0, .slice none 0 0, .bool false] 102 (0, 0)) := (E1.Ai (by simp only [World.size_alloc, Ak]; omega)).trans (by first | assumption | rfl | (simp (disch := first | exact xD | fail) [-bind_some, qs, -Aa, -Ab]; done))
     have F1 : Ext w w1 := xE
     simp (disch := first | exact xD | fail) [-bind_some, qs, -Aa, -Ab, qm, G1, P1, GR, E1.Ai]
     refine Af.bind (Bf (dv.ext xE)) ?_
     rintro ⟨_, w2⟩ ⟨ds, rfl, o2, E2⟩
     try dsimp only at ds o2 E2
     have zE2 := E2.size
     try simp only [qz] at zE2
     have zo2 := O.Cq.1 o2
     obtain ⟨a5, c5, rfl, _, _⟩ := zo2
     simp only [Ak] at zE2 o2
     have G2 := (E2.Ai (b := g) (by simp only [Ak]; omega)).trans ((BW _ _).trans G1)
     have P2 := (E2.Ai (b := w.heap.size) (by simp only [Ak]; omega)).trans ((BW _ _).trans P1)
     have R2 := (E2.Ai (b := w.heap.size + 1 + 1) (by simp only [Ak]; omega)).trans ((BW _ _).trans R1)
     have F2 : Ext w w2 := xE
     have zF2 := F2.size
     simp (disch := first | exact xD | fail) [-bind_some, qs, -Aa, -Ab, qm, G2, P2]
     have ol2 : O AW S4 (w2.alloc (.cells #[i64 v.key, i64 v.tag.t, i64 v.tag.p, .slice a5 v.past.length c5, .string v.text, .bool v.gone] 110)) [.slice a4 l.length c4] l := ol.ext (F2.al _)
     refine Af.bind (O.app (L := Cu) (mx := 1954687338211) (xs := l) (x := v) DK D8 rfl AD ol2 (o2.Aj (by intro b hS hb; (try dsimp only at hS); (try simp only [In] at hS hb); first | rfl | (simp (disch := first | exact xF | fail) only [qk]; done))) ?_ At.new Ad AD AD) ?_
     ·intro b hb q1 q2
      simp only [In] at q2
      have := (hS4 b q1).2.2
      omega
     rintro ⟨_, w3⟩ ⟨a7, c7, rfl, o7, M7⟩
     have zM7 := M7.size
     try simp only [qz] at zM7
     try dsimp only at o7 M7
     have zM7 := M7.size
     try simp only [World.size_alloc] at zM7
     have G3 := (M7.Ai g (by simp only [World.size_alloc]; omega) (fun h => (hS4 _ h).2.1 rfl)).trans ((Ag Ad).trans G2)
     have P3 := (M7.Ai w.heap.size (by simp only [World.size_alloc]; omega) (fun h => by have := (hS4 _ h).2.2; omega)).trans ((Ag Ad).trans P2)
     have R3 := (M7.Ai (w.heap.size + 1 + 1) (by simp only [World.size_alloc]; omega) (fun h => by have := (hS4 _ h).2.2; omega)).trans ((Ag Ad).trans R2)
     simp (disch := first | exact xD | fail) [-bind_some, qs, -Aa, -Ab, qm, G3, P3, R3]
     have kS : ∀ b, S1 b ∨ S2 b ∨ S3 b → S b ∧ b < w.heap.size := by
      rintro b (h | h | h)
      ·exact ⟨(k1 b h).1, (k1 b h).2.2.2⟩
      ·exact ⟨(k2 b h).1, (k2 b h).2.2.2⟩
      ·exact ⟨(k3 b h).1, (k3 b h).2.2.2⟩
     have hle' : (l ++ [v]).length = l.length + 1 := by simp
     obtain ⟨W, hW⟩ : ∃ W : World, W = w3.setRow g (Bu cur i [.slice a7 (l.length + 1) c7]).toArray := ⟨_, rfl⟩
     rw [← hW]
     have sW : W.heap.size = w3.heap.size := by rw [hW, size_setRow]
     have kW : ∀ b, b ≠ g → hp W b = hp w3 b := fun b h => by rw [hW, Ac h]
     have k7 : ∀ b, b < w.heap.size → ¬ S4 b → hp w3 b = hp w b := fun b hb h => (M7.Ai b (by simp only [World.size_alloc]; omega) h).trans ((Ag Ad).trans (F2.Ai hb))
     have o7' : O AW (fun b => (S4 b ∨ In w.heap.size w3.heap.size b) ∧ b ≠ g ∧ b ≠ w.heap.size ∧ b ≠ w.heap.size + 1 + 1) w3 [.slice a7 (l ++ [v]).length c7] (l ++ [v]) := by
      rw [hle']
      refine o7.wide fun b hb hbl => ?_
      simp only [In, World.size_alloc] at hb ⊢
      rcases hb with h | h | h
      ·have := hS4 b h
       exact ⟨.inl h, by omega, by omega, by omega⟩
      ·exact ⟨.inr Ad, by omega, by omega, by omega⟩
      ·exact ⟨.inr Ad, by omega, by omega, by omega⟩
     have oW := put (W.setRow (w.heap.size + 1 + 1) #[i64 p.me, i64 p.clock, .slice a p.chain.length c, .slice a1 p.log.length c1, .slice (some ⟨g, 0, none⟩) p.BQ.length c2, .bool p.fell]) [.slice a7 (l.length + 1) c7] (l ++ [v]) _ (by rw [← hle']; exact o7'.Aj fun b hb hbl => (Ac hb.2.2.2).trans (kW b hb.2.1)) ((Ac Ad).trans (by rw [hW]; exact (by first | assumption | rfl | (simp (disch := first | exact xD | fail) [-bind_some, -Aa, -Ab, G3]; done)))) (fun b hb h3 hne h4 => (Ac Ad).trans ((kW b hne).trans (k7 b hb h4))) (fun b hb h => by rcases h.1 with h' | h'; exact .inl h'; exact .inr (fun hh => by simp only [In] at h'; omega))
     have hne2 : ∀ b, S1 b ∨ S2 b → b ≠ g ∧ ¬ S4 b ∧ b < w.heap.size := by
      rintro b (h | h)
      ·exact ⟨fun hh => (k1 b h).2.2.1 (hh ▸ hSg), fun hh => (k1 b h).2.2.1 (hS4 b hh).1, (k1 b h).2.2.2⟩
      ·exact ⟨fun hh => (k2 b h).2.2.1 (hh ▸ hSg), fun hh => (k2 b h).2.2.1 (hS4 b hh).1, (k2 b h).2.2.2⟩
     obtain ⟨p1, hp1⟩ : ∃ p1 : PlaceD, p1 = { p with BQ := p.BQ.set i (l ++ [v]) } := ⟨_, rfl⟩
     have kk : ∀ b, S1 b ∨ S2 b → hp (W.setRow (w.heap.size + 1 + 1) #[i64 p.me, i64 p.clock, .slice a p.chain.length c, .slice a1 p.log.length c1, .slice (some ⟨g, 0, none⟩) p.BQ.length c2, .bool p.fell]) b = hp w b := fun b hb => by
      have := hne2 b hb
      exact (Ac Ad).trans ((kW b this.1).trans (k7 b this.2.2 this.2.1))
     have oP := O.Fi (p := p1) (S1 := S1) (S2 := S2) (s := .slice a p.chain.length c) (t := .slice a1 p.log.length c1) (by rw [hp1]; exact q1.Aj fun b hb _ => kk b (.inl hb)) (by rw [hp1]; exact q2.Aj fun b hb _ => kk b (.inr hb)) (by rw [hp1]; exact oW) (fun b _ h h' => (k1 b h).2.1 h')
      (fun b _ h h' => by
       rcases h' with h' | h'
       ·exact (k1 b h).2.2.1 h'.1
       ·rcases h'.1 with h'' | h''
        ·exact (hne2 b (.inl h)).2.1 h''
        ·have := (k1 b h).2.2.2; simp only [In] at h''; omega)
      (fun b _ h h' => by
       rcases h' with h' | h'
       ·exact (k2 b h).2.2.1 h'.1
       ·rcases h'.1 with h'' | h''
        ·exact (hne2 b (.inr h)).2.1 h''
        ·have := (k2 b h).2.2.2; simp only [In] at h''; omega)
     have ecs : [i64 p1.me, i64 p1.clock, .slice a p.chain.length c, .slice a1 p.log.length c1, .slice (some ⟨g, 0, none⟩) p.BQ.length c2, .bool p1.fell] = [i64 p.me, i64 p.clock, .slice a p.chain.length c, .slice a1 p.log.length c1, .slice (some ⟨g, 0, none⟩) p.BQ.length c2, .bool p.fell] := by rw [hp1]
     rw [ecs] at oP
     have PW := (kW w.heap.size Ad).trans P3
     have RW := (kW (w.heap.size + 1 + 1) Ad).trans R3
     refine hQ _ ⟨_, p1, true, rfl, by simp, ?_, oP.wide ?_, ?_⟩
     ·rw [hp1]
      refine ⟨hI, hl, hlp, by simpa using gl3, fun l' hl' => ?_⟩
      rcases List.mem_or_eq_of_mem_set hl' with h | rfl
      ·exact hgl l' h
      ·refine ⟨by omega, fun u hu => ?_⟩
       rcases List.mem_append.1 hu with h | h
       ·exact hl60.2 u h
       ·rw [List.mem_singleton.1 h]; exact hv
     ·intro b hb hbl
      try simp only [size_setRow] at hbl
      rcases hb with h | h | h | h
      ·exact .inl (kS b (.inl h)).1
      ·exact .inl (kS b (.inr (.inl h))).1
      ·exact .inl (kS b (.inr (.inr h.1))).1
      ·rcases h.1 with h' | h'
       ·exact .inl (kS b (.inr (.inr (hS4 b h').1))).1
       ·refine .inr ?_
        simp only [In, size_setRow] at h' ⊢
        omega
     ·have Mb : Mod S w w3 := Mod.Bd (Mod.of (F2.al _) S) M7 fun b hb h => (kS b (.inr (.inr (hS4 b h).1))).1
      rw [hW]
      exact (Mb.AQ (.inr (kS g (.inr (.inr hSg))).1) _).AQ (.inl Ad) _
    ·have P1 : hp w1 w.heap.size = some (.cells #[i64 p.me, i64 p.clock, .slice a p.chain.length c, .slice a1 p.log.length c1, .slice (some ⟨g, 0, none⟩) p.BQ.length c2, .bool p.fell] 102 (0, 0)) := (E1.Ai (by simp only [World.size_alloc, Ak]; omega)).trans (by first | assumption | rfl | (simp (disch := first | exact xD | fail) [-bind_some, qs, -Aa, -Ab]; done))
     have R1 : hp w1 (w.heap.size + 1 + 1) = some (.cells #[i64 0, i64 0, .slice none 0 0, .slice none 0 0, .slice none 0 0, .bool false] 102 (0, 0)) := (E1.Ai (by simp only [World.size_alloc, Ak]; omega)).trans (by first | assumption | rfl | (simp (disch := first | exact xD | fail) [-bind_some, qs, -Aa, -Ab]; done))
     simp (disch := first | exact xD | fail) [-bind_some, -Aa, -Ab, qm, P1, R1]
     exact fail Q _ hQ xE
   ·simp (disch := first | exact xD | fail) [-bind_some, qs, -Aa, -Ab, qm, hme, hgr, GR, show (60 : Int) ≤ l.length by omega]
    exact fail Q _ hQ xE
  ·simp (disch := first | exact xD | fail) [-bind_some, qs, -Aa, -Ab, qm, hme, hat, hgr, GR]
   exact fail Q _ hQ xE
 ·simp (disch := first | exact xD | fail) [-bind_some, qs, -Aa, -Ab, qm, hme]
  exact fail Q _ hQ xE
theorem NT {a b : Option Addr} {c c' : Nat} {S S' : Nat → Prop} {xs ys : List Tag} {w : World} (hx : xs.length = 4) (hy : ys.length = 4) (ha : D Cr S w [.slice a xs.length c] xs) (hb : D Cr S' w [.slice b ys.length c'] ys) :
  Af (EV P 135 #[.agg #[.slice a xs.length c], .agg #[.slice b ys.length c']] w) fun r => ∃ a2 c2, r.1 = .agg #[.slice a2 (Db xs ys).length c2] ∧ O Cr (In w.heap.size r.2.heap.size) r.2 [.slice a2 (Db xs ys).length c2] (Db xs ys) ∧ Ext w r.2 := by
 refine Af.mono (Ow hx hy ha.Cb hb.Cb) ?_
 rintro r ⟨s', h1, h2, h3⟩
 obtain ⟨a2, c2, hs, h4⟩ := (Ue h2).It
 simp only [List.cons.injEq, and_true] at hs
 subst hs
 exact ⟨a2, c2, h1, h4, h3⟩
theorem NU {a : Option Addr} {c : Nat} {S : Nat → Prop} {xs : List Tag} {t : Tag} {k : Nat} {w : World} (hk : k < xs.length) (ha : D Cr S w [.slice a xs.length c] xs) :
  Af (EV P 134 #[.agg #[.slice a xs.length c], i64 k, .agg #[i64 t.t, i64 t.p]] w) fun r => ∃ a2 c2, r.1 = .agg #[.slice a2 (Ey xs k t).length c2] ∧ O Cr (In w.heap.size r.2.heap.size) r.2 [.slice a2 (Ey xs k t).length c2] (Ey xs k t) ∧ Ext w r.2 := by
 have hn := ha.n
 rw [Ht]
 refine Af.post fun Q hQ => ?_
 refine Bw (MU _ _ _ _) ?_
 simp (disch := first | exact xD | fail) [-bind_some, qs, -Aa, -Ab]
 refine Af.bind (O.I3 (L := F6) (mx := 8796093021952) B8 DC HN rfl AD (O.empty (g := w.heap.size + 1 + 1 + 1) (by first | assumption | rfl | (simp (disch := first | exact xD | fail) [-bind_some, qs]; done))) (ha.ext xE) (by simp; omega) AD AD) ?_
 rintro ⟨_, w1⟩ ⟨a1, c1, rfl, o1, M1⟩
 have zM1 := M1.size
 try simp only [qz] at zM1
 try dsimp only at o1 M1
 have zM1 := M1.size
 simp only [World.size_alloc, List.nil_append, List.length_nil, Nat.zero_add] at o1 zM1
 have X1 := M1.Ai w.heap.size (by simp only [World.size_alloc]; omega) Ad
 have X2 := M1.Ai (w.heap.size + 1) (by simp only [World.size_alloc]; omega) Ad
 have X3 := M1.Ai (w.heap.size + 1 + 1) (by simp only [World.size_alloc]; omega) Ad
 have F1 : Ext w w1 := Mod.after (a := w) xE M1 (by intro x hx h; omega)
 obtain ⟨x, hx, _⟩ := An hk
 have hgd : xs.getD k ⟨0, 0⟩ = x := by rw [List.getD_eq_getElem?_getD, hx]; rfl
 obtain ⟨g, cur, cs, S1, rfl, hSg, hgl, hg, hle, hx1, hS1, put⟩ := o1.row AD hx
 obtain rfl := O.tag.1 hx1
 simp only [Rj] at hg hle put
 have hg3 : w.heap.size + 1 + 1 + 1 ≤ g := by rcases hSg with h | h <;> omega
 have hk0 : (k : Int) < xs.length := by omega
 simp (disch := first | exact xD | fail) [-bind_some, qs, -Aa, -Ab, qm, KI, hg, M1.Ai]
 refine Af.bind (J5 x t _) ?_
 rintro ⟨_, w2⟩ ⟨rfl, E2⟩
 try dsimp only at E2
 have zE2 := E2.size
 try simp only [qz] at zE2
 simp (disch := first | exact xD | fail) [-bind_some, qs, -Aa, -Ab, qm, hg, M1.Ai, E2.Ai]
 have hset : Ey xs k t = xs.set k (FZ x t) := by unfold Ey; rw [hgd]
 have E12 : Ext w w2 := xE
 have zE12 := E12.size
 try simp only [qz] at zE12
 refine hQ _ ⟨_, _, rfl, ?_, Ext.set (Ext.set E12 Ad _) Ad _⟩
 rw [hset]
 refine O.wide (put _ _ (FZ x t) (fun _ => False) (O.tag.2 rfl) (by first | assumption | rfl | (simp (disch := first | exact xD | fail) [-bind_some, qs, -Aa, -Ab, hg, E2.Ai]; done)) (by intro b _ _ _ _; first | rfl | (simp (disch := first | exact xF | fail) only [E2.Ai, qk]; done)) (fun _ _ h => h.elim)) ?_
 intro b h hb
 (try dsimp only at hb)
 simp only [size_setRow, In] at *
 rcases h with (h | h) | h
 ·omega
 ·omega
 ·exact h.elim
abbrev tW : Lay WorldD := De 39 110 159 99 102 108 112 41
abbrev Xa : Lay SessD := Jf 39
def VS (s : SessD) : Prop := 0 ≤ s.place ∧ s.place ≤ 2 ∧ s.past.length = 4 ∧ 0 ≤ s.key ∧ s.key ≤ 3
def VT (f : FrameD) : Prop := 0 ≤ f.src ∧ f.src ≤ 2 ∧ 0 ≤ f.dst ∧ f.dst ≤ 2 ∧ Pq f.Cq
def B6 (M : Nat) (x : WorldD) : Prop := x.places.length = 3 ∧ (∀ p ∈ x.places, DA M p) ∧ x.Ay.length ≤ 4 ∧ (∀ s ∈ x.Ay, VS s) ∧ x.net.length ≤ 12 ∧ (∀ f ∈ x.net, VT f) ∧ x.AM.length ≤ 80
theorem B6.up {M M' : Nat} {x : WorldD} (h : B6 M x) (k : M ≤ M') : B6 M' x := ⟨h.1, fun p hp' => (h.2.1 p hp').up k, h.2.2⟩
theorem B6.place {M M' : Nat} {x : WorldD} {i : Nat} {p : PlaceD} (h : B6 M x) (k : M ≤ M') (hp' : DA M' p) : B6 M' { x with places := x.places.set i p } := by
 refine ⟨by simpa using h.1, fun q hq => ?_, h.2.2⟩
 rcases List.mem_or_eq_of_mem_set hq with hq | rfl
 ·exact (h.2.1 q hq).up k
 ·exact hp'
theorem B6.Ay {M : Nat} {x : WorldD} {i : Nat} {s : SessD} (h : B6 M x) (hs : VS s) : B6 M { x with Ay := x.Ay.set i s } := by
 refine ⟨h.1, h.2.1, by simpa using h.2.2.1, fun q hq => ?_, h.2.2.2.2⟩
 rcases List.mem_or_eq_of_mem_set hq with hq | rfl
 ·exact h.2.2.2.1 q hq
 ·exact hs
theorem B6.AM {M : Nat} {x : WorldD} {d : Done} (h : B6 M x) (hh : x.AM.length < 80) : B6 M { x with AM := x.AM ++ [d] } :=
 ⟨h.1, h.2.1, h.2.2.1, h.2.2.2.1, h.2.2.2.2.1, h.2.2.2.2.2.1, by simp; omega⟩
def Step (M : Nat) (S : Nat → Prop) (w : World) (cs : List Value) (r : Value × World) : Prop := ∃ (cs' : List Value) (st' : WorldD) (ok : Bool), r.1 = .tuple #[.agg cs'.toArray, .bool ok] ∧ (ok = false → cs' = cs) ∧ B6 (M + 16) st' ∧ O tW (fun b => S b ∨ In w.heap.size r.2.heap.size b) r.2 cs' st' ∧ Mod S w r.2
theorem Step.fail {M : Nat} {S : Nat → Prop} {w w' : World} {cs : List Value} {st : WorldD} (hf : B6 M st) (ho : O tW S w cs st) (hE : Ext w w') : Step M S w cs (.tuple #[.agg cs.toArray, .bool false], w') :=
 ⟨cs, st, false, rfl, fun _ => rfl, hf.up Ad, (ho.ext hE).wide fun b h _ => .inl h, Mod.of hE S⟩
theorem Md {S : Nat → Prop} {cs : List Value} {st : WorldD} {d : Done} {w : World} (hh : st.AM.length ≤ 1000) (ho : O tW S w cs st) :
  Af (EV P 131 #[.agg cs.toArray, i64 d.Ay, i64 d.kind, i64 d.key, .agg #[i64 d.tag.t, i64 d.tag.p]] w) fun r => ∃ cs', r.1 = .agg cs'.toArray ∧ O tW (fun b => S b ∨ In w.heap.size r.2.heap.size b) r.2 cs' { st with AM := st.AM ++ [d] } ∧ Mod S w r.2 := by
 obtain ⟨a, c, a1, c1, a2, c2, a3, c3, S3, rfl, oh, hS3, put⟩ := O.Vb (ho.lt)
 refine Af.post fun Q hQ => ?_
 refine Bw (Ih _ _ _ _ _ _) ?_
 simp (disch := first | exact xD | fail) [-bind_some, qs, -Aa, -Ab]
 refine Af.bind (O.app (L := GK) (mx := 3518437208883) (S1 := fun _ => False) (x := d) (cs := Cd d) JQ OS rfl AD (oh.ext xE) (O.done.2 rfl) (fun _ _ _ h => h) (At.nw (by simp)) Ad AD AD) ?_
 rintro ⟨_, w1⟩ ⟨a7, c7, rfl, o7, M7⟩
 have zM7 := M7.size
 try simp only [qz] at zM7
 try dsimp only at o7 M7
 have zM7 := M7.size
 simp only [World.size_alloc] at zM7 o7
 have n3 : ∀ b, w.heap.size ≤ b → ¬ S3 b := fun b h h' => by have := (hS3 b h').2; omega
 have Y1 : hp w1 w.heap.size = some (.cells #[.slice a st.places.length c, .slice a1 st.Ay.length c1, .slice a2 st.net.length c2, .slice a3 st.AM.length c3] 67 (0, 0)) := (M7.Ai _ (by simp; omega) (n3 _ Ad)).trans (by first | assumption | rfl | (simp (disch := first | exact xD | fail) [-bind_some, qs, -Aa, -Ab]; done))
 have Y3 : hp w1 (w.heap.size + 1 + 1) = some (.cells #[.slice none 0 0, .slice none 0 0, .slice none 0 0, .slice none 0 0] 67 (0, 0)) := (M7.Ai _ (by simp) (n3 _ Ad)).trans (by first | assumption | rfl | (simp (disch := first | exact xD | fail) [-bind_some, qs, -Aa, -Ab]; done))
 simp (disch := first | exact xD | fail) [-bind_some, qs, -Aa, -Ab, qm, Y1, Y3]
 have hle : (st.AM ++ [d]).length = st.AM.length + 1 := by simp
 refine hQ _ ⟨_, rfl, ?_, ?_⟩
 ·refine (put _ (.slice a7 (st.AM.length + 1) c7) (st.AM ++ [d]) (fun b => (S3 b ∨ In (w.heap.size + 1 + 1 + 1) w1.heap.size b)) ?_ ?_ ?_).wide ?_
  ·refine (o7.Aj fun b hb hbl => ?_).wide fun b hb _ => ?_
   ·have : b ≠ w.heap.size ∧ b ≠ w.heap.size + 1 + 1 := by
     rcases hb with h | h | h
     ·have := (hS3 b h).2; omega
     ·exact h.elim
     ·omega
    rw [Ac this.2, Ac this.1]
   ·rcases hb with h | h | h
    ·exact .inl h
    ·exact h.elim
    ·exact .inr ⟨by omega, h.2⟩
  ·intro b hb _ hn
   rw [Ac Ad, Ac Ad, M7.Ai b (by simp; omega) hn, Ag (by simp; omega), Ag (by simp; omega), Ag (by simp; omega), Ag Ad]
  ·intro b hb h
   rcases h with h | h
   ·exact .inl h
   ·exact .inr fun hh => by simp only [In] at h; omega
  ·intro b hb hbl
   simp only [size_setRow] at hbl
   simp only [In, size_setRow]
   rcases hb with h | h | h
   ·exact .inl h.1
   ·exact .inl (hS3 b h).1.1
   ·simp only [In] at h; exact .inr Ad
 ·have Mb : Mod S w w1 := Mod.Bd (Mod.of xE S) M7 fun b _ h => (hS3 b h).1.1
  exact (Mb.AQ (.inl (Nat.le_refl _)) _).AQ (.inl Ad) _
 -- STEPS
attribute [local irreducible] World.alloc World.setRow Go.Ev.dw
theorem Sy {M i : Nat} {kind num key : Int} {text : ByteArray} {gone : Bool} {S : Nat → Prop} {cs : List Value} {st : WorldD} {w : World} (hf : B6 M st) (hM : M ≤ 900000) (hi : i < st.Ay.length) (htx : text.size ≤ 1000) (ho : O tW S w cs st) :
  Af (EV P 109 #[.agg cs.toArray, .agg #[i64 kind, i64 i, i64 num, i64 key, .string text, .bool gone]] w) (Step M S w cs) := by
 have ho := ho.lt
 have hf' := hf
 obtain ⟨pl3, hfp, sl4, hfs, nl, hfn, hl80⟩ := hf'
 obtain ⟨s, hs, _⟩ := An hi
 obtain ⟨hs0, hs2, hsp, hsk0, hsk3⟩ := hfs s (List.mem_of_getElem? hs)
 obtain ⟨k, hk⟩ := Int.eq_ofNat_of_zero_le hs0
 have hk3 : k < st.places.length := by omega
 obtain ⟨p, hp', _⟩ := An hk3
 have hpf := hfp p (List.mem_of_getElem? hp')
 obtain ⟨x, hx, _⟩ := An (l := p.chain) (k := 0) (by have := hpf.1.1; omega)
 obtain ⟨c, a1, c1, a2, c2, a3, c3, gp, curp, dp, Sp, rfl, hSgp, hgpl, hgp, hlep, op, hSp, putp⟩ := O.Ho ho hp'
 obtain ⟨a', c', c1', a2', c2', a3', c3', gs, curs, ap, cp, Ss, hcs, hSgs, hgsl, hgs, hles, os, hSs, _⟩ := O.FG ho hs
 simp only [List.cons.injEq, Value.slice.injEq, and_true, true_and] at hcs
 obtain ⟨⟨rfl, rfl⟩, ⟨rfl, rfl⟩, ⟨rfl, rfl⟩, rfl, rfl⟩ := hcs
 have op' := op.d
 obtain ⟨ac, cc, al, cl, ag, cg, rfl, _, _, _⟩ := D.place.1 op'
 rw [hsp, hk] at hgs
 have As := Ew hgs (by simpa using hles)
 have Ap := Ew hgp (by simpa using hlep)
 have t0 := As 0 _ rfl
 have t1 := As 1 _ rfl
 have t2 := As 2 _ rfl
 have t3 := As 3 _ rfl
 have t4 := As 4 _ rfl
 simp only [Nat.add_zero] at t0 t1 t2 t3 t4
 have m0 := Ap 0 _ rfl
 have m1 := Ap 1 _ rfl
 have m2 := Ap 2 _ rfl
 have m3 := Ap 3 _ rfl
 have m4 := Ap 4 _ rfl
 have m5 := Ap 5 _ rfl
 simp only [Nat.add_zero] at m0 m1 m2 m3 m4 m5
 have ok : ∀ (w' : World), Ext w w' → Step M S w [.slice (some ⟨gp, 0, none⟩) st.places.length c, .slice (some ⟨gs, 0, none⟩) st.Ay.length c1, .slice a2 st.net.length c2, .slice a3 st.AM.length c3] (.tuple #[.agg #[.slice (some ⟨gp, 0, none⟩) st.places.length c, .slice (some ⟨gs, 0, none⟩) st.Ay.length c1, .slice a2 st.net.length c2, .slice a3 st.AM.length c3], .bool false], w') :=
  fun w' hE => Step.fail hf (ho.wide fun b h _ => h.1) hE
 refine Af.post fun Q hQ => ?_
 refine Bw (Lz _ _ _) ?_
 by_cases hwt : 0 < s.wait.t
 ·simp (maxSteps := 1000000) (disch := first | exact xD | fail) [-bind_some, qs, -Aa, -Ab, qm, EB, DJ, hwt, t0, t1, t2, t3, t4, m0, m1, m2, m3, m4, m5]
  exact hQ _ (ok _ xE)
 simp (maxSteps := 1000000) (disch := first | exact xD | fail) [-bind_some, qs, -Aa, -Ab, qm, EB, DJ, hwt, t0, t1, t2, t3, t4, m0, m1, m2, m3, m4, m5]
 refine Af.bind (AN _ _ _ _) ?_
 rintro _ rfl
 cases hky : (decide (0 ≤ key) && decide (key ≤ 3))
 ·simp (maxSteps := 1000000) (disch := first | exact xD | fail) [-bind_some, qs, -Aa, -Ab, qm]
  exact hQ _ (ok _ xE)
 simp (maxSteps := 1000000) (disch := first | exact xD | fail) [-bind_some, qs, -Aa, -Ab]
 refine Af.bind (LF Ad _) ?_
 rintro _ rfl
 cases hto : Ub text
 ·simp (maxSteps := 1000000) (disch := first | exact xD | fail) [-bind_some, qs, -Aa, -Ab, qm]
  exact hQ _ (ok _ xE)
 simp (maxSteps := 1000000) (disch := first | exact xD | fail) [-bind_some, qs, -Aa, -Ab]
 have osd : D Cr Ss w [.slice ap 4 cp] s.past := by rw [← hsp]; exact os.d
 simp only [Bool.and_eq_true, decide_eq_true_eq] at hky
 have hgc : (gone = false ∧ True) ∨ (gone = true ∧ text.toList.isEmpty = true) ∨ (gone = true ∧ text.toList.isEmpty = false) := by
  cases gone <;> cases text.toList.isEmpty <;> simp
 rcases hgc with ⟨hgn, ht⟩ | ⟨hgn, ht⟩ | ⟨hgn, ht⟩
 rotate_left 2
 ·simp (maxSteps := 1000000) (disch := first | exact xD | fail) [-bind_some, qs, -Aa, -Ab, qm, hgn, ht]
  exact hQ _ (ok _ xE)
 all_goals
  simp (maxSteps := 1000000) (disch := first | exact xD | fail) [-bind_some, qs, -Aa, -Ab, hgn, ht]
  refine Af.bind (UJ hpf hx (op.d.ext xE) hsp (osd.ext xE)) ?_
  rintro ⟨_, w1⟩ ⟨q, rfl, hq, E1⟩
  try dsimp only at q hq E1
  have zE1 := E1.size
  try simp only [qz] at zE1
  cases q
  ·simp (maxSteps := 1000000) (disch := first | exact xD | fail) [-bind_some, qs, -Aa, -Ab, qm, E1.Ai]
   exact hQ _ (ok _ xE)
  by_cases h80 : st.AM.length < 80
  ·have F1 : Ext w w1 := xE
   have zF1 := F1.size
   have B0 : hp w1 w.heap.size = some (.cells #[.slice (some ⟨gp, 0, none⟩) st.places.length c, .slice (some ⟨gs, 0, none⟩) st.Ay.length c1, .slice a2 st.net.length c2, .slice a3 st.AM.length c3] 67 (0, 0)) := (E1.Ai xB).trans (by first | assumption | rfl | (simp (maxSteps := 1000000) (disch := first | exact xD | fail) [-bind_some, qs, -Aa, -Ab]; done))
   have B1 : hp w1 (w.heap.size + 1) = some (.cells #[i64 kind, i64 i, i64 num, i64 key, .string text, .bool gone] 118 (0, 0)) := (E1.Ai xB).trans (by first | assumption | rfl | (simp (maxSteps := 1000000) (disch := first | exact xD | fail) [-bind_some, qs, -Aa, -Ab, hgn]; done))
   have B2 : hp w1 (w.heap.size + 1 + 1) = some (.cells #[.slice none 0 0, .slice none 0 0, .slice none 0 0, .slice none 0 0] 67 (0, 0)) := (E1.Ai xB).trans (by first | assumption | rfl | (simp (maxSteps := 1000000) (disch := first | exact xD | fail) [-bind_some, qs, -Aa, -Ab]; done))
   have B3 : hp w1 (w.heap.size + 1 + 1 + 1) = some (.cells #[i64 k, .slice ap 4 cp, i64 s.wait.t, i64 s.wait.p, i64 s.key] 108 (0, 0)) := (E1.Ai xB).trans (by first | assumption | rfl | (simp (maxSteps := 1000000) (disch := first | exact xD | fail) [-bind_some, qs, -Aa, -Ab]; done))
   have B4 : hp w1 (w.heap.size + 1 + 1 + 1 + 1) = some (.cells #[i64 p.me, i64 p.clock, .slice ac p.chain.length cc, .slice al p.log.length cl, .slice ag p.BQ.length cg, .bool p.fell] 102 (0, 0)) := (E1.Ai xB).trans (by first | assumption | rfl | (simp (maxSteps := 1000000) (disch := first | exact xD | fail) [-bind_some, qs, -Aa, -Ab]; done))
   have nSp : ∀ b, w.heap.size ≤ b → ¬ Sp b := fun b h h' => by have := (hSp b h').2.2; omega
   simp (maxSteps := 1000000) (disch := first | exact xD | fail) [-bind_some, -Aa, -Ab, show ¬ (80 : Int) ≤ st.AM.length by omega, B0, B1, B3, B4]
   refine Af.bind (Su (M := M) hpf Ad hx (hq rfl) hky.1 hky.2 Ad hsp (op.ext F1) (osd.ext F1)) ?_
   rintro ⟨_, w2⟩ ⟨csx, p2, t, rfl, f2, o2, M2⟩
   try dsimp only at csx p2 t f2 o2 M2
   have zM2 := M2.size
   try simp only [qz] at zM2
   have K2 : ∀ b, b < w1.heap.size → ¬ Sp b → hp w2 b = hp w1 b := fun b hb h => M2.Ai b hb h
   have C0 := (K2 w.heap.size Ad (nSp _ Ad)).trans B0
   have C1 := (K2 (w.heap.size + 1) Ad (nSp _ Ad)).trans B1
   have C2 := (K2 (w.heap.size + 1 + 1) Ad (nSp _ Ad)).trans B2
   have C3 := (K2 (w.heap.size + 1 + 1 + 1) Ad (nSp _ Ad)).trans B3
   have G2 := (K2 gp Ad (fun h => (hSp gp h).2.1 rfl)).trans ((F1.Ai hgpl).trans hgp)
   have o2' := o2.d
   obtain ⟨ad, cd, ae, ce, af, cf, rfl, _, _, _⟩ := D.place.1 o2'
   simp (maxSteps := 1000000) (disch := first | exact xD | fail) [-bind_some, qs, -Aa, -Ab, qm, C0, C1, C3, G2, DJ, EB]
   generalize hW1 : World.setRow _ gp _ = W1
   have sW1 : W1.heap.size = w2.heap.size + 1 + 1 := by rw [← hW1]; simp
   have kW1 : ∀ b, b ≠ gp → b < w2.heap.size → hp W1 b = hp w2 b := fun b h1 h2 => by
    rw [← hW1]
    simp (disch := (first | omega | (simp only [World.size_alloc, size_setRow]; omega))) only [Ac, Ag]
   have G3 : hp W1 gp = some (.cells (Bu curp (k * 6) [i64 p2.me, i64 p2.clock, .slice ad p2.chain.length cd, .slice ae p2.log.length ce, .slice af p2.BQ.length cf, .bool p2.fell]).toArray 102 (0, 0)) := by
    rw [← hW1]
    exact (by first | assumption | rfl | (simp (maxSteps := 1000000) (disch := first | exact xD | fail) [-bind_some, qs, -Aa, -Ab, G2]; done))
   have T5 : hp W1 (w2.heap.size + 1) = some (.cells #[i64 t.t, i64 t.p] 39 (0, 0)) := by
    rw [← hW1]
    exact (by first | assumption | rfl | (simp (maxSteps := 1000000) (disch := first | exact xD | fail) [-bind_some, qs, -Aa, -Ab]; done))
   have MW1 : Mod S w W1 := by
    rw [← hW1]
    exact (((((Mod.Bd (Mod.of F1 S) M2 (fun b hb h => (hSp b h).1.1)).al _).al _).AQ (.inl Ad) _).AQ (.inl Ad) _).AQ (.inr hSgp.1) _
   have oW1 := (putp W1 _ p2 (fun b => Sp b ∨ In w1.heap.size w2.heap.size b) (o2.Aj fun b hb hbl => kW1 b (by rcases hb with h | h; exact (hSp b h).2.1; simp only [In] at h; omega) hbl) G3 (fun b hb _ hne hn => (kW1 b hne Ad).trans ((K2 b Ad hn).trans (F1.Ai hb))) (fun b _ h => by rcases h with h | h; exact .inl h; exact .inr (fun hh => by simp only [In] at h; omega))).wide (S' := fun b => (S b ∧ b < w.heap.size) ∨ In w1.heap.size w2.heap.size b) (fun b h _ => by rcases h with h | h | h; exact .inl h; exact .inl (hSp b h).1; exact .inr h)
   obtain ⟨a'', c'', c1'', a2'', c2'', a3'', c3'', gs', curs', ap', cp', Ss', hcs', hSgs', hgsl', hgs', hles', os', hSs', puts⟩ := O.FG oW1 (i := i) (s := s) hs
   simp only [List.cons.injEq, Value.slice.injEq, Option.some.injEq, Addr.mk.injEq, List.length_set, and_true, true_and] at hcs'
   obtain ⟨⟨rfl, rfl⟩, ⟨rfl, rfl⟩, ⟨rfl, rfl⟩, rfl, rfl⟩ := hcs'
   rw [hsp, hk] at hgs'
   have hne : gs ≠ gp := by
    rintro rfl
    rw [G3] at hgs'
    simp at hgs'
   have D0 := (kW1 w.heap.size Ad Ad).trans C0
   have D1 := (kW1 (w.heap.size + 1) Ad Ad).trans C1
   have D2 := (kW1 (w.heap.size + 1 + 1) Ad Ad).trans C2
   simp (maxSteps := 1000000) (disch := first | exact xD | fail) [-bind_some, qs, -Aa, -Ab, qm, hgs', D0, D1, T5, EB]
   generalize hW2 : World.setRow _ gs _ = W2
   have sW2 : W2.heap.size = W1.heap.size := by rw [← hW2]; simp
   have kW2 : ∀ b, b ≠ gs → hp W2 b = hp W1 b := fun b h1 => by
    rw [← hW2]
    simp (disch := omega) only [Ac]
   have MW2 : Mod S w W2 := by
    rw [← hW2]
    first | exact MW1.AQ (.inr hSgs.1) _ | exact (MW1.AQ (.inr hSgs.1) _).AQ (.inr hSgs.1) _
   have H3 : hp W2 gs = some (.cells (Bu curs' (i * 5) [i64 k, .slice ap' 4 cp', i64 t.t, i64 t.p, i64 key]).toArray 108 (0, 0)) := by
    rw [← hW2]
    exact (by first | assumption | rfl | (simp (maxSteps := 1000000) (disch := first | exact xD | fail) [-bind_some, -Aa, -Ab, hgs']; done))
   have oW2 := (puts W2 _ ⟨s.place, s.past, t, key⟩ Ss' (O.Ay.2 ⟨ap', cp', (by rw [hk, hsp]), os'.Aj fun b hb hbl => kW2 b (hSs' b hb).2.1⟩) H3 (fun b hb _ hne' _ => kW2 b hne') (fun b _ h => .inl h)).wide (S' := fun b => (S b ∧ b < w.heap.size) ∨ In w1.heap.size w2.heap.size b) (fun b h _ => by rcases h with h | h; exact h; exact (hSs' b h).1)
   have L0 := (kW2 w.heap.size Ad).trans D0
   have L1 := (kW2 (w.heap.size + 1) Ad).trans D1
   have L2 := (kW2 (w.heap.size + 1 + 1) Ad).trans D2
   refine Af.bind (Md (d := ⟨i, 1, key, t⟩) (by show st.AM.length ≤ 1000; omega) oW2) ?_
   rintro ⟨_, w3⟩ ⟨cs3, rfl, o3, M3⟩
   have zM3 := M3.size
   try simp only [] at zM3
   try dsimp only at o3 M3
   have zM3 := M3.size
   obtain ⟨u1, l1, d1, u2, l2, d2, u3, l3, d3, u4, l4, d4, rfl⟩ := o3.Cv
   have J2 := (M3.Ai (w.heap.size + 1 + 1) Ad (fun h => by simp only [In] at h; omega)).trans L2
   simp (maxSteps := 1000000) (disch := first | exact xD | fail) [-bind_some, -Aa, -Ab, qm, J2]
   refine hQ _ ⟨_, _, true, rfl, by simp, ((((hf.place (i := k) (M' := M + 4) Ad f2).Ay (i := i) (s := ⟨s.place, s.past, t, key⟩) ⟨hs0, hs2, hsp, hky.1, hky.2⟩).AM (d := ⟨i, 1, key, t⟩) h80).up Ad), (o3.Aj fun b hb hbl => Ac ?_).wide ?_, ?_⟩
   ·rintro rfl
    simp only [In] at hb
    omega
   ·intro b hb hbl
    simp only [In, size_setRow] at hb hbl ⊢
    rcases hb with (h | h) | h
    ·exact .inl h.1
    ·exact .inr Ad
    ·exact .inr Ad
   ·exact (Mod.Bd MW2 M3 fun b hb h => by rcases h with h | h; exact h.1; simp only [In] at h; omega).AQ (.inl Ad) _
  ·simp (maxSteps := 1000000) (disch := first | exact xD | fail) [-bind_some, qs, -Aa, -Ab, qm, show (80 : Int) ≤ st.AM.length by omega, E1.Ai]
   exact hQ _ (ok _ xE)
end Go.Proofs.YtkhbpmhagpljiaaGreatDoor.X
namespace Go.Proofs.YtkhbpmhagpljiaaGreatDoor.X
open Go Go.Ev Go.RowKit
open Option (bind_some)
 -- STEPS
attribute [local irreducible] World.alloc World.setRow Go.Ev.dw
theorem Me {a : Option Addr} {c : Nat} {S : Nat → Prop} {xs : List Tag} {t : Tag} {k : Nat} {w : World} (h4 : xs.length = 4) (hk : k < 4) (ha : D Cr S w [.slice a 4 c] xs) :
  Af (EV P 134 #[.agg #[.slice a 4 c], i64 k, .agg #[i64 t.t, i64 t.p]] w) fun r => ∃ a2 c2, r.1 = .agg #[.slice a2 4 c2] ∧ O Cr (In w.heap.size r.2.heap.size) r.2 [.slice a2 4 c2] (Ey xs k t) ∧ Ext w r.2 := by
 have := NU (k := k) (t := t) (xs := xs) Ad (by rw [h4]; exact ha)
 rwa [Ht, h4] at this
theorem RA {M M' i : Nat} {kind num key : Int} {text : ByteArray} {gone : Bool} {S T : Nat → Prop} {cs0 cs1 : List Value} {st1 : WorldD} {s : SessD} {e : Env} {w W : World} (hf : B6 M' st1) (hM' : M' ≤ M + 16) (hs : st1.Ay[i]? = some s)
  (ho : O tW T W cs1 st1) (hT : ∀ b, T b → (S b ∧ b < w.heap.size) ∨ w.heap.size + 3 ≤ b) (hMod : Mod S w W)
  (e2 : e 2 = pt w.heap.size 0) (e3 : e 3 = pt (w.heap.size + 1) 0) (e4 : e 4 = pt (w.heap.size + 1 + 1) 0)
  (X2 : hp W w.heap.size = some (.cells cs1.toArray 67 (0, 0))) (X3 : hp W (w.heap.size + 1) = some (.cells #[i64 kind, i64 i, i64 num, i64 key, .string text, .bool gone] 118 (0, 0)))
  (X4 : hp W (w.heap.size + 1 + 1) = some (.cells #[.slice none 0 0, .slice none 0 0, .slice none 0 0, .slice none 0 0] 67 (0, 0))) :
  Af (ER e W) (Step M S w cs0) := by
 have y4 := Aq X4
 obtain ⟨a, c, c1, a2, c2, a3, c3, gs, cur, ap, cp, Ss, rfl, hTg, hgl, hgs, hle, os, hSs, puts⟩ := O.FG ho hs
 have hi : i < st1.Ay.length := (List.getElem?_eq_some_iff.1 hs).1
 have hg9 := hT gs hTg
 obtain ⟨hs0, hs2, hsp, hsk0, hsk3⟩ := hf.2.2.2.1 s (List.mem_of_getElem? hs)
 rw [KP]
 refine Af.post fun Q hQ => ?_
 simp (maxSteps := 1000000) (disch := first | exact xD | fail) [-bind_some, qs, -Aa, -Ab, qm, e2, e3, e4, X2, X3, X4, hgs, EB]
 generalize hW1 : World.setRow _ gs _ = W1
 have sW1 : W1.heap.size = W.heap.size := by rw [← hW1]; simp
 have kW1 : ∀ b, b ≠ gs → hp W1 b = hp W b := fun b h1 => by
  rw [← hW1]
  simp (disch := omega) only [Ac]
 have G1 : hp W1 gs = some (.cells (Bu cur (i * 5) [i64 s.place, .slice ap s.past.length cp, i64 0, i64 0, i64 0]).toArray 108 (0, 0)) := by
  rw [← hW1]
  exact (by first | assumption | rfl | (simp (maxSteps := 1000000) (disch := first | exact xD | fail) [-bind_some, -Aa, -Ab, hgs]; done))
 have hgS : w.heap.size ≤ gs ∨ S gs := by rcases hg9 with h | h; exact .inr h.1; exact .inl Ad
 have MW1 : Mod S w W1 := by
  rw [← hW1]
  first | exact hMod.AQ hgS _ | exact (hMod.AQ hgS _).AQ hgS _
 have oW1 := (puts W1 _ ⟨s.place, s.past, ⟨0, 0⟩, 0⟩ Ss (O.Ay.2 ⟨ap, cp, rfl, os.Aj fun b hb hbl => kW1 b (hSs b hb).2.1⟩) G1 (fun b hb _ hne' _ => kW1 b hne') (fun b _ h => .inl h)).wide (S' := T) (fun b h _ => by rcases h with h | h; exact h; exact (hSs b h).1)
 refine hQ _ ⟨_, _, true, rfl, by simp, ((hf.Ay (i := i) (s := ⟨s.place, s.past, ⟨0, 0⟩, 0⟩) ⟨hs0, hs2, hsp, Int.le_refl 0, by show (0 : Int) ≤ 3; decide⟩).up hM'), (oW1.Aj fun b hb hbl => Ac ?_).wide ?_, MW1.AQ (.inl Ad) _⟩
 ·rintro rfl
  have := hT _ hb
  omega
 ·intro b hb hbl
  simp only [In, size_setRow] at hbl ⊢
  rcases hT b hb with h | h
  ·exact .inl h.1
  ·exact .inr Ad
theorem UK {M i : Nat} {kind num key : Int} {text : ByteArray} {gone : Bool} {S : Nat → Prop} {cs : List Value} {st : WorldD} {w : World} (hf : B6 M st) (hM : M ≤ 900000) (hi : i < st.Ay.length) (ho : O tW S w cs st) :
  Af (EV P 110 #[.agg cs.toArray, .agg #[i64 kind, i64 i, i64 num, i64 key, .string text, .bool gone]] w) (Step M S w cs) := by
 have ho := ho.lt
 have hf' := hf
 obtain ⟨pl3, hfp, sl4, hfs, nl, hfn, hl80⟩ := hf'
 obtain ⟨s, hs, _⟩ := An hi
 obtain ⟨hs0, hs2, hsp, hsk0, hsk3⟩ := hfs s (List.mem_of_getElem? hs)
 obtain ⟨k, hk⟩ := Int.eq_ofNat_of_zero_le hs0
 obtain ⟨ky, hky⟩ := Int.eq_ofNat_of_zero_le hsk0
 have hk3 : k < st.places.length := by omega
 have hky4 : ky < 4 := by omega
 obtain ⟨p, hp', _⟩ := An hk3
 have hpf := hfp p (List.mem_of_getElem? hp')
 obtain ⟨x, hx, _⟩ := An (l := p.chain) (k := 0) (by have := hpf.1.1; omega)
 have hxn := hpf.1.2.2 x (List.mem_of_getElem? hx)
 obtain ⟨v, hv, _⟩ := An (l := x.store) (k := ky) (by have := hxn.1; omega)
 obtain ⟨c, a1, c1, a2, c2, a3, c3, gp, curp, dp, Sp, rfl, hSgp, hgpl, hgp, hlep, op, hSp, _⟩ := O.Ho ho hp'
 obtain ⟨a', c', c1', a2', c2', a3', c3', gs, curs, ap, cp, Ss, hcs, hSgs, hgsl, hgs, hles, os, hSs, puts⟩ := O.FG ho hs
 simp only [List.cons.injEq, Value.slice.injEq, and_true, true_and] at hcs
 obtain ⟨⟨rfl, rfl⟩, ⟨rfl, rfl⟩, ⟨rfl, rfl⟩, rfl, rfl⟩ := hcs
 have op' := op.d
 obtain ⟨ac, cc, al, cl, ag, cg, rfl, q1, _, _⟩ := D.place.1 op'
 rw [hsp, hk, hky] at hgs
 have As := Ew hgs (by simpa using hles)
 have Ap := Ew hgp (by simpa using hlep)
 have t0 := As 0 _ rfl
 have t1 := As 1 _ rfl
 have t2 := As 2 _ rfl
 have t3 := As 3 _ rfl
 have t4 := As 4 _ rfl
 simp only [Nat.add_zero] at t0 t1 t2 t3 t4
 have m0 := Ap 0 _ rfl
 have m1 := Ap 1 _ rfl
 have m2 := Ap 2 _ rfl
 have m3 := Ap 3 _ rfl
 have m4 := Ap 4 _ rfl
 have m5 := Ap 5 _ rfl
 simp only [Nat.add_zero] at m0 m1 m2 m3 m4 m5
 obtain ⟨b1, o1, cs1, rfl, A1, D1, _, l1⟩ := q1.at AD hx
 obtain ⟨a4, c4, a5, c5, rfl, h2, h3⟩ := D.node.1 D1
 have n0 := A1 0 _ rfl
 have n1 := A1 1 _ rfl
 simp only [BN, Nat.add_zero] at n0 n1
 obtain ⟨b2, o2, cs2, rfl, A2, D2, _, l2⟩ := h2.at AD hv
 obtain ⟨av, cv, rfl, _, _⟩ := D.Cq.1 D2
 have j0 := A2 0 _ rfl
 have j1 := A2 1 _ rfl
 have j2 := A2 2 _ rfl
 have j3 := A2 3 _ rfl
 have j4 := A2 4 _ rfl
 have j5 := A2 5 _ rfl
 simp only [Co, Nat.add_zero] at j0 j1 j2 j3 j4 j5
 have osd : D Cr Ss w [.slice ap 4 cp] s.past := by rw [← hsp]; exact os.d
 have ok : ∀ (w' : World), Ext w w' → Step M S w [.slice (some ⟨gp, 0, none⟩) st.places.length c, .slice (some ⟨gs, 0, none⟩) st.Ay.length c1, .slice a2 st.net.length c2, .slice a3 st.AM.length c3] (.tuple #[.agg #[.slice (some ⟨gp, 0, none⟩) st.places.length c, .slice (some ⟨gs, 0, none⟩) st.Ay.length c1, .slice a2 st.net.length c2, .slice a3 st.AM.length c3], .bool false], w') :=
  fun w' hE => Step.fail hf (ho.wide fun b h _ => h.1) hE
 have x0 : 0 < p.chain.length := hpf.1.1
 have sl4' : ky < x.store.length := by have := hxn.1; omega
 refine Af.post fun Q hQ => ?_
 refine Bw (Oi _ _ _) ?_
 cases hwt : (s.wait.t == 0)
 ·simp (maxSteps := 1000000) (disch := first | exact xD | fail) [-bind_some, qs, -Aa, -Ab, qm, EB, DJ, hwt, t0, t1, t2, t3, t4, m2]
  refine Af.bind (OQ (k := 0) (key := ky) hpf.1 x0 hky4 (q1.ext xE)) ?_
  rintro ⟨_, w1⟩ ⟨ds, u, huK, rfl, o3, E1⟩
  try dsimp only at ds u huK o3 E1
  have zE1 := E1.size
  try simp only [qz] at zE1
  have F1 : Ext w w1 := xE
  have zF1 := F1.size
  have zo3 := O.Cq.1 o3
  obtain ⟨au, cu, rfl, _, _⟩ := zo3
  have fvt : ∀ w', fv P 110 (.agg #[i64 u.key, i64 u.tag.t, i64 u.tag.p, .slice au u.past.length cu, .string u.text, .bool u.gone]) 1 w' = some (.agg #[i64 u.tag.t, i64 u.tag.p], w') := fun w' => Wh (P := P) (s := 110) (f := 1) (off := 1) (n := 2) (by kernel_rfl) [i64 u.key, i64 u.tag.t, i64 u.tag.p, .slice au u.past.length cu, .string u.text, .bool u.gone] w'
  have B0 : hp w1 w.heap.size = some (.cells #[.slice (some ⟨gp, 0, none⟩) st.places.length c, .slice (some ⟨gs, 0, none⟩) st.Ay.length c1, .slice a2 st.net.length c2, .slice a3 st.AM.length c3] 67 (0, 0)) := (E1.Ai xB).trans (by first | assumption | rfl | (simp (maxSteps := 1000000) (disch := first | exact xD | fail) [-bind_some, qs, -Aa, -Ab]; done))
  have B1 : hp w1 (w.heap.size + 1) = some (.cells #[i64 kind, i64 i, i64 num, i64 key, .string text, .bool gone] 118 (0, 0)) := (E1.Ai xB).trans (by first | assumption | rfl | (simp (maxSteps := 1000000) (disch := first | exact xD | fail) [-bind_some, qs, -Aa, -Ab]; done))
  have B2 : hp w1 (w.heap.size + 1 + 1) = some (.cells #[.slice none 0 0, .slice none 0 0, .slice none 0 0, .slice none 0 0] 67 (0, 0)) := (E1.Ai xB).trans (by first | assumption | rfl | (simp (maxSteps := 1000000) (disch := first | exact xD | fail) [-bind_some, qs, -Aa, -Ab]; done))
  have B3 : hp w1 (w.heap.size + 1 + 1 + 1) = some (.cells #[i64 k, .slice ap 4 cp, i64 s.wait.t, i64 s.wait.p, i64 ky] 108 (0, 0)) := (E1.Ai xB).trans (by first | assumption | rfl | (simp (maxSteps := 1000000) (disch := first | exact xD | fail) [-bind_some, qs, -Aa, -Ab]; done))
  have B4 : hp w1 (w.heap.size + 1 + 1 + 1 + 1) = some (.cells #[.slice (some ⟨b1, o1, none⟩) p.chain.length cc] 98 (0, 0)) := (E1.Ai xB).trans (by first | assumption | rfl | (simp (maxSteps := 1000000) (disch := first | exact xD | fail) [-bind_some, qs, -Aa, -Ab]; done))
  simp (maxSteps := 1000000) (disch := first | exact xD | fail) [-bind_some, qs, -Aa, -Ab, qm, B3, B4, fvt, Da, Ck, n0, j1, j2, E1.Ai]
  refine Af.bind (AU u.tag s.wait _) ?_
  rintro ⟨_, w2⟩ ⟨rfl, E2⟩
  try dsimp only at E2
  have zE2 := E2.size
  try simp only [qz] at zE2
  cases hb1 : BF u.tag s.wait
  ·simp (maxSteps := 1000000) (disch := first | exact xD | fail) [-bind_some, qs, -Aa, -Ab, E1.Ai, E2.Ai]
   refine Af.bind (AU u.tag s.wait _) ?_
   rintro ⟨_, w3⟩ ⟨rfl, E3⟩
   try dsimp only at E3
   have zE3 := E3.size
   try simp only [qz] at zE3
   by_cases h80 : st.AM.length < 80
   ·simp (maxSteps := 1000000) (disch := first | exact xD | fail) [-bind_some, qs, -Aa, -Ab, hb1, show ¬ (80 : Int) ≤ st.AM.length by omega, E1.Ai, E2.Ai, E3.Ai]
    refine Af.bind (AU u.tag s.wait _) ?_
    rintro ⟨_, w4⟩ ⟨rfl, E4⟩
    try dsimp only at E4
    have zE4 := E4.size
    try simp only [qz] at zE4
    simp (maxSteps := 1000000) (disch := first | exact xD | fail) [-bind_some, qs, -Aa, -Ab, hb1, E1.Ai, E2.Ai, E3.Ai, E4.Ai]
    refine Af.bind (Me (xs := s.past) (t := s.wait) (k := ky) hsp hky4 (osd.ext xE)) ?_
    rintro ⟨_, w5⟩ ⟨a7, c7, rfl, o7, E5⟩
    try dsimp only at a7 c7 o7 E5
    have zE5 := E5.size
    try simp only [qz] at zE5
    have F5 : Ext w w5 := xE
    have zF5 := F5.size
    have C0 : hp w5 w.heap.size = hp w1 w.heap.size := (by first | assumption | rfl | (simp (maxSteps := 1000000) (disch := first | exact xD | fail) [-bind_some, qs, -Aa, -Ab, E1.Ai, E2.Ai, E3.Ai, E4.Ai, E5.Ai]; done))
    have C1 : hp w5 (w.heap.size + 1) = hp w1 (w.heap.size + 1) := (by first | assumption | rfl | (simp (maxSteps := 1000000) (disch := first | exact xD | fail) [-bind_some, qs, -Aa, -Ab, E1.Ai, E2.Ai, E3.Ai, E4.Ai, E5.Ai]; done))
    have C2 : hp w5 (w.heap.size + 1 + 1) = hp w1 (w.heap.size + 1 + 1) := (by first | assumption | rfl | (simp (maxSteps := 1000000) (disch := first | exact xD | fail) [-bind_some, qs, -Aa, -Ab, E1.Ai, E2.Ai, E3.Ai, E4.Ai, E5.Ai]; done))
    have G5 := (F5.Ai hgsl).trans hgs
    simp (maxSteps := 1000000) (disch := first | exact xD | fail) [-bind_some, qs, -Aa, -Ab, qm, G5, EB, E1.Ai, E2.Ai, E3.Ai, E4.Ai, E5.Ai]
    generalize hW1 : World.setRow _ gs _ = W1
    have sW1 : W1.heap.size = w5.heap.size := by rw [← hW1]; simp
    have kW1 : ∀ b, b ≠ gs → hp W1 b = hp w5 b := fun b h1 => by
     rw [← hW1]
     simp (disch := omega) only [Ac]
    have G6 : hp W1 gs = some (.cells (Bu curs (i * 5) [i64 k, .slice a7 4 c7, i64 s.wait.t, i64 s.wait.p, i64 ky]).toArray 108 (0, 0)) := by
     rw [← hW1]
     exact (by first | assumption | rfl | (simp (maxSteps := 1000000) (disch := first | exact xD | fail) [-bind_some, -Aa, -Ab, G5]; done))
    have MW1 : Mod S w W1 := by
     rw [← hW1]
     exact (Mod.of F5 S).AQ (.inr hSgs.1) _
    have wl4 : (Ey s.past ky s.wait).length = 4 := by rw [Ht]; exact hsp
    have oW1 := (puts W1 _ ⟨s.place, Ey s.past ky s.wait, s.wait, s.key⟩ (In w4.heap.size w5.heap.size) (O.Ay.2 ⟨a7, c7, (by rw [hk, hky, wl4]), (by rw [wl4]; exact (o7.Aj fun b hb hbl => kW1 b (by simp only [In, Ak] at hb; omega)).wide fun b hb _ => by simp only [In, Ak] at hb ⊢; omega)⟩) G6 (fun b hb _ hne' _ => (kW1 b hne').trans (F5.Ai hb)) (fun b _ h => .inr fun hh => by simp only [In] at h; omega)).wide (S' := fun b => (S b ∧ b < w.heap.size) ∨ w.heap.size + 5 ≤ b) (fun b h _ => by rcases h with h | h; exact .inl h; exact .inr (by simp only [In] at h; omega))
    have D0 := (kW1 w.heap.size Ad).trans (C0.trans B0)
    have D1 := (kW1 (w.heap.size + 1) Ad).trans (C1.trans B1)
    have D2 := (kW1 (w.heap.size + 1 + 1) Ad).trans (C2.trans B2)
    refine Af.bind (Md (d := ⟨i, 3, ky, s.wait⟩) (by show st.AM.length ≤ 1000; omega) oW1) ?_
    rintro ⟨_, w6⟩ ⟨cs3, rfl, o8, M6⟩
    have zM6 := M6.size
    try simp only [] at zM6
    try dsimp only at o8 M6
    have zM6 := M6.size
    obtain ⟨u1, l1, d1, u2, l2, d2, u3, l3, d3, u4, l4, d4, rfl⟩ := o8.Cv
    have nT : ∀ b, w.heap.size ≤ b → b < w.heap.size + 5 → ¬ ((S b ∧ b < w.heap.size) ∨ w.heap.size + 5 ≤ b) := fun b h1 h2 h => by omega
    have L0 := (M6.Ai w.heap.size Ad (nT _ Ad Ad)).trans D0
    have L1 := (M6.Ai (w.heap.size + 1) Ad (nT _ Ad Ad)).trans D1
    have L2 := (M6.Ai (w.heap.size + 1 + 1) Ad (nT _ Ad Ad)).trans D2
    simp (maxSteps := 1000000) (disch := first | exact xD | fail) [-bind_some, -Aa, -Ab, qm, L0]
    have fA := ((hf.Ay (i := i) (s := ⟨s.place, Ey s.past ky s.wait, s.wait, s.key⟩) ⟨hs0, hs2, wl4, hsk0, hsk3⟩).AM (d := ⟨i, 3, ky, s.wait⟩) h80)
    refine Af.mono (RA (M := M) (M' := M) (w := w) (i := i) (T := fun b => (S b ∧ b < w.heap.size) ∨ w.heap.size + 5 ≤ b) (kind := kind) (num := num) (key := key) (text := text) (gone := gone) fA Ad (s := ⟨s.place, Ey s.past ky s.wait, s.wait, s.key⟩) (by rw [List.getElem?_set_self hi]) ((o8.Aj fun b hb hbl => Ac ?_).wide ?_) (fun b h => by rcases h with h | h; exact .inl h; exact .inr Ad) ?_ xA xA xA (by first | assumption | rfl | (simp (maxSteps := 1000000) (disch := first | exact xD | fail) [-bind_some, -Aa, -Ab, L0]; done)) ((Ac Ad).trans L1) ((Ac Ad).trans L2)) hQ
    ·rintro rfl
     simp only [In] at hb
     omega
    ·intro b hb hbl
     simp only [In, size_setRow] at hb hbl ⊢
     rcases hb with (h | h) | h
     ·exact .inl h
     ·exact .inr h
     ·exact .inr Ad
    ·exact (Mod.Bd MW1 M6 fun b hb h => by rcases h with h | h; exact h.1; omega).AQ (.inl Ad) _
   ·simp (maxSteps := 1000000) (disch := first | exact xD | fail) [-bind_some, qs, -Aa, -Ab, qm, hb1, show (80 : Int) ≤ st.AM.length by omega, E1.Ai, E2.Ai, E3.Ai]
    exact hQ _ (ok _ xE)
  ·simp (maxSteps := 1000000) (disch := first | exact xD | fail) [-bind_some, qs, -Aa, -Ab, E1.Ai, E2.Ai]
   refine Af.bind (AU v.tag s.wait _) ?_
   rintro ⟨_, w3⟩ ⟨rfl, E3⟩
   try dsimp only at E3
   have zE3 := E3.size
   try simp only [qz] at zE3
   cases hb2 : BF v.tag s.wait
   ·simp (maxSteps := 1000000) (disch := first | exact xD | fail) [-bind_some, qs, -Aa, -Ab, qm, E1.Ai, E2.Ai, E3.Ai]
    exact hQ _ (ok _ xE)
   ·simp (maxSteps := 1000000) (disch := first | exact xD | fail) [-bind_some, qs, -Aa, -Ab, E1.Ai, E2.Ai, E3.Ai]
    refine Af.bind (AU u.tag s.wait _) ?_
    rintro ⟨_, w4⟩ ⟨rfl, E4⟩
    try dsimp only at E4
    have zE4 := E4.size
    try simp only [qz] at zE4
    simp (maxSteps := 1000000) (disch := first | exact xD | fail) [-bind_some, qs, -Aa, -Ab, hb1, E1.Ai, E2.Ai, E3.Ai, E4.Ai]
    refine Af.bind (AU u.tag s.wait _) ?_
    rintro ⟨_, w5⟩ ⟨rfl, E5⟩
    try dsimp only at E5
    have zE5 := E5.size
    try simp only [qz] at zE5
    simp (maxSteps := 1000000) (disch := first | exact xD | fail) [-bind_some, -Aa, -Ab, hb1]
    have F5 : Ext w w5 := xE
    exact Af.mono (RA (M := M) (w := w) (kind := kind) (num := num) (key := key) (text := text) (gone := gone) hf Ad hs (ho.ext F5) (fun b h => .inl h) (Mod.of F5 S) xA xA xA (by first | assumption | rfl | (simp (maxSteps := 1000000) (disch := first | exact xD | fail) [-bind_some, qs, -Aa, -Ab, E1.Ai, E2.Ai, E3.Ai, E4.Ai, E5.Ai]; done)) (by first | assumption | rfl | (simp (maxSteps := 1000000) (disch := first | exact xD | fail) [-bind_some, qs, -Aa, -Ab, E1.Ai, E2.Ai, E3.Ai, E4.Ai, E5.Ai]; done)) (by first | assumption | rfl | (simp (maxSteps := 1000000) (disch := first | exact xD | fail) [-bind_some, qs, -Aa, -Ab, E1.Ai, E2.Ai, E3.Ai, E4.Ai, E5.Ai]; done))) hQ
 ·simp (maxSteps := 1000000) (disch := first | exact xD | fail) [-bind_some, qs, -Aa, -Ab, qm, EB, hwt, t0, t1, t2, t3, t4]
  exact hQ _ (ok _ xE)
end Go.Proofs.YtkhbpmhagpljiaaGreatDoor.X
namespace Go.Proofs.YtkhbpmhagpljiaaGreatDoor.X
open Go Go.Ev Go.RowKit
open Option (bind_some)
 -- STEPS
attribute [local irreducible] World.alloc World.setRow Go.Ev.dw
theorem To {a b : Option Addr} {c c' : Nat} {S S' : Nat → Prop} {xs ys : List Tag} {w : World} (hx : xs.length = 4) (hy : ys.length = 4) (ha : D Cr S w [.slice a 4 c] xs) (hb : D Cr S' w [.slice b 4 c'] ys) :
  Af (EV P 135 #[.agg #[.slice a 4 c], .agg #[.slice b 4 c']] w) fun r => ∃ a2 c2, (Db xs ys).length = 4 ∧ r.1 = .agg #[.slice a2 4 c2] ∧ O Cr (In w.heap.size r.2.heap.size) r.2 [.slice a2 4 c2] (Db xs ys) ∧ Ext w r.2 := by
 have := NT hx hy (by rw [hx]; exact ha) (by rw [hy]; exact hb)
 rw [hx, hy] at this
 refine Af.mono this ?_
 rintro r ⟨a2, c2, h1, h2, h3⟩
 have hl : (Db xs ys).length = 4 := by first | (rw [HE Ad]; omega) | (simp [Db]; omega)
 rw [hl] at h1 h2
 exact ⟨a2, c2, hl, h1, h2, h3⟩
theorem P5 {M M' i b8 : Nat} {kind num key : Int} {text : ByteArray} {gone : Bool} {S T : Nat → Prop} {cs0 cs1 : List Value} {st1 : WorldD} {u : Ver} {au : Option Addr} {cu : Nat} {e : Env} {w W : World} (hf : B6 M' st1) (hM' : M' ≤ M + 16) (h80 : st1.AM.length < 80)
  (ho : O tW T W cs1 st1) (hT : ∀ b, T b → (S b ∧ b < w.heap.size) ∨ w.heap.size + 3 ≤ b) (hMod : Mod S w W)
  (e2 : e 2 = pt w.heap.size 0) (e3 : e 3 = pt (w.heap.size + 1) 0) (e4 : e 4 = pt (w.heap.size + 1 + 1) 0) (e8 : e 8 = pt b8 0)
  (X2 : hp W w.heap.size = some (.cells cs1.toArray 67 (0, 0))) (X3 : hp W (w.heap.size + 1) = some (.cells #[i64 kind, i64 i, i64 num, i64 key, .string text, .bool gone] 118 (0, 0)))
  (X4 : hp W (w.heap.size + 1 + 1) = some (.cells #[.slice none 0 0, .slice none 0 0, .slice none 0 0, .slice none 0 0] 67 (0, 0))) (X8 : hp W b8 = some (.cells #[i64 u.key, i64 u.tag.t, i64 u.tag.p, .slice au u.past.length cu, .string u.text, .bool u.gone] 110 (0, 0))) :
  Af (Ej e W) (Step M S w cs0) := by
 have y4 := Aq X4
 obtain ⟨u1, l1, d1, u2, l2, d2, u3, l3, d3, u4, l4, d4, rfl⟩ := ho.Cv
 rw [JV]
 refine Af.post fun Q hQ => ?_
 simp (maxSteps := 1000000) (disch := first | exact xD | fail) [-bind_some, -Aa, -Ab, e2, e3, e4, e8, X2, X3, X8]
 refine Af.bind (Md (d := ⟨i, 2, key, u.tag⟩) Ad ho) ?_
 rintro ⟨_, w3⟩ ⟨cs3, rfl, o3, M3⟩
 have zM3 := M3.size
 try simp only [] at zM3
 try dsimp only at o3 M3
 have zM3 := M3.size
 obtain ⟨u5, l5, d5, u6, l6, d6, u7, l7, d7, u8, l8, d8, rfl⟩ := o3.Cv
 have L4 := (M3.Ai _ Ad (fun h => by have := hT _ h; omega)).trans X4
 simp (maxSteps := 1000000) (disch := first | exact xD | fail) [-bind_some, -Aa, -Ab, qm, L4]
 refine hQ _ ⟨_, _, true, rfl, by simp, (hf.AM (d := ⟨i, 2, key, u.tag⟩) h80).up hM', (o3.Aj fun b hb hbl => Ac ?_).wide ?_, (Mod.Bd hMod M3 fun b hb h => by rcases hT b h with h | h; exact h.1; omega).AQ (.inl Ad) _⟩
 ·rintro rfl
  simp only [In] at hb
  rcases hb with h | h
  ·have := hT _ h
   omega
  ·omega
 ·intro b hb hbl
  simp only [In, size_setRow] at hb hbl ⊢
  rcases hb with h | h
  ·rcases hT b h with h | h
   ·exact .inl h.1
   ·exact .inr Ad
  ·exact .inr Ad
theorem Tp {M i : Nat} {kind num key : Int} {text : ByteArray} {gone : Bool} {S : Nat → Prop} {cs : List Value} {st : WorldD} {w : World} (hf : B6 M st) (hM : M ≤ 900000) (hi : i < st.Ay.length) (ho : O tW S w cs st) :
  Af (EV P 111 #[.agg cs.toArray, .agg #[i64 kind, i64 i, i64 num, i64 key, .string text, .bool gone]] w) (Step M S w cs) := by
 have ho := ho.lt
 have hf' := hf
 obtain ⟨pl3, hfp, sl4, hfs, nl, hfn, hl80⟩ := hf'
 obtain ⟨s, hs, _⟩ := An hi
 obtain ⟨hs0, hs2, hsp, hsk0, hsk3⟩ := hfs s (List.mem_of_getElem? hs)
 obtain ⟨k, hk⟩ := Int.eq_ofNat_of_zero_le hs0
 have hk3 : k < st.places.length := by omega
 obtain ⟨p, hp', _⟩ := An hk3
 have hpf := hfp p (List.mem_of_getElem? hp')
 obtain ⟨c, a1, c1, a2, c2, a3, c3, gp, curp, dp, Sp, rfl, hSgp, hgpl, hgp, hlep, op, hSp, _⟩ := O.Ho ho hp'
 obtain ⟨a', c', c1', a2', c2', a3', c3', gs, curs, ap, cp, Ss, hcs, hSgs, hgsl, hgs, hles, os, hSs, puts⟩ := O.FG ho hs
 simp only [List.cons.injEq, Value.slice.injEq, and_true, true_and] at hcs
 obtain ⟨⟨rfl, rfl⟩, ⟨rfl, rfl⟩, ⟨rfl, rfl⟩, rfl, rfl⟩ := hcs
 have op' := op.d
 obtain ⟨ac, cc, al, cl, ag, cg, rfl, q1, _, _⟩ := D.place.1 op'
 rw [hsp, hk] at hgs
 have As := Ew hgs (by simpa using hles)
 have Ap := Ew hgp (by simpa using hlep)
 have t0 := As 0 _ rfl
 have t1 := As 1 _ rfl
 have t2 := As 2 _ rfl
 have t3 := As 3 _ rfl
 have t4 := As 4 _ rfl
 simp only [Nat.add_zero] at t0 t1 t2 t3 t4
 have m0 := Ap 0 _ rfl
 have m1 := Ap 1 _ rfl
 have m2 := Ap 2 _ rfl
 have m3 := Ap 3 _ rfl
 have m4 := Ap 4 _ rfl
 have m5 := Ap 5 _ rfl
 simp only [Nat.add_zero] at m0 m1 m2 m3 m4 m5
 have osd : D Cr Ss w [.slice ap 4 cp] s.past := by rw [← hsp]; exact os.d
 have ok : ∀ (w' : World), Ext w w' → Step M S w [.slice (some ⟨gp, 0, none⟩) st.places.length c, .slice (some ⟨gs, 0, none⟩) st.Ay.length c1, .slice a2 st.net.length c2, .slice a3 st.AM.length c3] (.tuple #[.agg #[.slice (some ⟨gp, 0, none⟩) st.places.length c, .slice (some ⟨gs, 0, none⟩) st.Ay.length c1, .slice a2 st.net.length c2, .slice a3 st.AM.length c3], .bool false], w') :=
  fun w' hE => Step.fail hf (ho.wide fun b h _ => h.1) hE
 have x0 : 0 < p.chain.length := hpf.1.1
 have x4 := hpf.1.2.1
 have hw1 : IntKind.i64.wrap ((p.chain.length : Int) - 1) = ((p.chain.length - 1 : Nat) : Int) := by rw [HS Ad Ad]; omega
 refine Af.post fun Q hQ => ?_
 refine Bw (MK _ _ _) ?_
 by_cases hwt : 0 < s.wait.t
 ·simp (maxSteps := 1000000) (disch := first | exact xD | fail) [-bind_some, qs, -Aa, -Ab, qm, EB, DJ, hwt, t0, t1, t2, t3, t4, m2]
  exact hQ _ (ok _ xE)
 simp (maxSteps := 1000000) (disch := first | exact xD | fail) [-bind_some, qs, -Aa, -Ab, qm, EB, DJ, hwt, t0, t1, t2, t3, t4, m2]
 refine Af.bind (AN _ _ _ _) ?_
 rintro _ rfl
 cases hky : (decide (0 ≤ key) && decide (key ≤ 3))
 ·simp (maxSteps := 1000000) (disch := first | exact xD | fail) [-bind_some, qs, -Aa, -Ab, qm]
  exact hQ _ (ok _ xE)
 simp only [Bool.and_eq_true, decide_eq_true_eq] at hky
 obtain ⟨ky, rfl⟩ := Int.eq_ofNat_of_zero_le hky.1
 have hky4 : ky < 4 := by omega
 simp (maxSteps := 1000000) (disch := first | exact xD | fail) [-bind_some, qs, -Aa, -Ab, hw1]
 refine Af.bind (AN _ _ _ _) ?_
 rintro _ rfl
 cases hnm : (decide (0 ≤ num) && decide (num ≤ ((p.chain.length - 1 : Nat) : Int)))
 ·simp (maxSteps := 1000000) (disch := first | exact xD | fail) [-bind_some, qs, -Aa, -Ab, qm]
  exact hQ _ (ok _ xE)
 have hnm' := hnm
 simp only [Bool.and_eq_true, decide_eq_true_eq] at hnm'
 obtain ⟨nm, rfl⟩ := Int.eq_ofNat_of_zero_le hnm'.1
 have hnml : nm < p.chain.length := by omega
 by_cases h80 : st.AM.length < 80
 ·simp (maxSteps := 1000000) (disch := first | exact xD | fail) [-bind_some, qs, -Aa, -Ab, show ¬ (80 : Int) ≤ st.AM.length by omega]
  refine Af.bind (OQ (k := nm) (key := ky) hpf.1 hnml hky4 (q1.ext xE)) ?_
  rintro ⟨_, w1⟩ ⟨ds, u, huK, rfl, o3, E1⟩
  try dsimp only at ds u huK o3 E1
  have zE1 := E1.size
  try simp only [qz] at zE1
  have F1 : Ext w w1 := xE
  have zF1 := F1.size
  have zo3 := O.Cq.1 o3
  obtain ⟨au, cu, rfl, ou, _⟩ := zo3
  obtain ⟨tg, htg, _⟩ := An (l := s.past) (k := ky) Ad
  obtain ⟨b2, o2, cs2, rfl, A2, D2, _, _⟩ := osd.at AD htg
  obtain rfl := D.tag.1 D2
  have j0 := A2 0 _ rfl
  have j1 := A2 1 _ rfl
  simp only [Rj, Nat.add_zero] at j0 j1
  have B0 : hp w1 w.heap.size = some (.cells #[.slice (some ⟨gp, 0, none⟩) st.places.length c, .slice (some ⟨gs, 0, none⟩) st.Ay.length c1, .slice a2 st.net.length c2, .slice a3 st.AM.length c3] 67 (0, 0)) := (E1.Ai xB).trans (by first | assumption | rfl | (simp (maxSteps := 1000000) (disch := first | exact xD | fail) [-bind_some, qs, -Aa, -Ab]; done))
  have B1 : hp w1 (w.heap.size + 1) = some (.cells #[i64 kind, i64 i, i64 nm, i64 ky, .string text, .bool gone] 118 (0, 0)) := (E1.Ai xB).trans (by first | assumption | rfl | (simp (maxSteps := 1000000) (disch := first | exact xD | fail) [-bind_some, qs, -Aa, -Ab]; done))
  have B2 : hp w1 (w.heap.size + 1 + 1) = some (.cells #[.slice none 0 0, .slice none 0 0, .slice none 0 0, .slice none 0 0] 67 (0, 0)) := (E1.Ai xB).trans (by first | assumption | rfl | (simp (maxSteps := 1000000) (disch := first | exact xD | fail) [-bind_some, qs, -Aa, -Ab]; done))
  have B3 : hp w1 (w.heap.size + 1 + 1 + 1) = some (.cells #[i64 k, .slice (some ⟨b2, o2, none⟩) 4 cp, i64 s.wait.t, i64 s.wait.p, i64 s.key] 108 (0, 0)) := (E1.Ai xB).trans (by first | assumption | rfl | (simp (maxSteps := 1000000) (disch := first | exact xD | fail) [-bind_some, qs, -Aa, -Ab]; done))
  simp (maxSteps := 1000000) (disch := first | exact xD | fail) [-bind_some, qs, -Aa, -Ab, qm, B1, B3, KI, E1.Ai, j0, j1]
  refine Af.bind (AU u.tag tg _) ?_
  rintro ⟨_, w2⟩ ⟨rfl, E2⟩
  try dsimp only at E2
  have zE2 := E2.size
  try simp only [qz] at zE2
  have V2 : hp w2 w1.heap.size = some (.cells #[i64 u.key, i64 u.tag.t, i64 u.tag.p, .slice au u.past.length cu, .string u.text, .bool u.gone] 110 (0, 0)) := (E2.Ai xB).trans (by first | assumption | rfl | (simp (maxSteps := 1000000) (disch := first | exact xD | fail) [-bind_some, qs, -Aa, -Ab]; done))
  cases hb1 : BF u.tag tg
  ·by_cases hut : 0 < u.tag.t
   ·have hu4 := huK.2.2 hut
    have ou4 : D Cr (fun b => w.heap.size ≤ b) w1 [.slice au 4 cu] u.past := by rw [← hu4]; exact ou.d.wide fun b hb _ => by simp only [In, World.size_alloc, size_setRow] at hb; omega
    rw [hu4] at V2
    simp (maxSteps := 1000000) (disch := first | exact xD | fail) [-bind_some, qs, -Aa, -Ab, hut, V2, E1.Ai, E2.Ai]
    refine Af.bind (To hsp hu4 (osd.ext xE) (ou4.ext xE)) ?_
    rintro ⟨_, w3⟩ ⟨a6, c6, hj4, rfl, o6, E3⟩
    try dsimp only at a6 c6 hj4 o6 E3
    have zE3 := E3.size
    try simp only [qz] at zE3
    simp (maxSteps := 1000000) (disch := first | exact xD | fail) [-bind_some, qs, -Aa, -Ab, V2, E1.Ai, E2.Ai, E3.Ai]
    refine Af.bind (Me (t := u.tag) (k := ky) hj4 hky4 (o6.d.ext xE)) ?_
    rintro ⟨_, w5⟩ ⟨a7, c7, rfl, o7, E5⟩
    try dsimp only at a7 c7 o7 E5
    have zE5 := E5.size
    try simp only [qz] at zE5
    have F5 : Ext w w5 := xE
    have zF5 := F5.size
    have C0 : hp w5 w.heap.size = hp w1 w.heap.size := (by first | assumption | rfl | (simp (maxSteps := 1000000) (disch := first | exact xD | fail) [-bind_some, qs, -Aa, -Ab, E1.Ai, E2.Ai, E3.Ai, E5.Ai]; done))
    have C1 : hp w5 (w.heap.size + 1) = hp w1 (w.heap.size + 1) := (by first | assumption | rfl | (simp (maxSteps := 1000000) (disch := first | exact xD | fail) [-bind_some, qs, -Aa, -Ab, E1.Ai, E2.Ai, E3.Ai, E5.Ai]; done))
    have C2 : hp w5 (w.heap.size + 1 + 1) = hp w1 (w.heap.size + 1 + 1) := (by first | assumption | rfl | (simp (maxSteps := 1000000) (disch := first | exact xD | fail) [-bind_some, qs, -Aa, -Ab, E1.Ai, E2.Ai, E3.Ai, E5.Ai]; done))
    have C8 : hp w5 w1.heap.size = hp w2 w1.heap.size := (by first | assumption | rfl | (simp (maxSteps := 1000000) (disch := first | exact xD | fail) [-bind_some, qs, -Aa, -Ab, E2.Ai, E3.Ai, E5.Ai]; done))
    have G5 := (F5.Ai hgsl).trans hgs
    simp (maxSteps := 1000000) (disch := first | exact xD | fail) [-bind_some, qs, -Aa, -Ab, qm, G5, EB, E1.Ai, E2.Ai, E3.Ai, E5.Ai]
    generalize hW1 : World.setRow _ gs _ = W1
    have sW1 : W1.heap.size = w5.heap.size := by rw [← hW1]; simp
    have kW1 : ∀ b, b ≠ gs → hp W1 b = hp w5 b := fun b h1 => by
     rw [← hW1]
     simp (disch := omega) only [Ac]
    have G6 : hp W1 gs = some (.cells (Bu curs (i * 5) [i64 k, .slice a7 4 c7, i64 s.wait.t, i64 s.wait.p, i64 s.key]).toArray 108 (0, 0)) := by
     rw [← hW1]
     exact (by first | assumption | rfl | (simp (maxSteps := 1000000) (disch := first | exact xD | fail) [-bind_some, -Aa, -Ab, G5]; done))
    have MW1 : Mod S w W1 := by
     rw [← hW1]
     exact (Mod.of F5 S).AQ (.inr hSgs.1) _
    have wl4 : (Ey (Db s.past u.past) ky u.tag).length = 4 := by rw [Ht]; exact hj4
    have oW1 := (puts W1 _ ⟨s.place, Ey (Db s.past u.past) ky u.tag, s.wait, s.key⟩ (fun b => w.heap.size + 5 ≤ b) (O.Ay.2 ⟨a7, c7, (by rw [hk, wl4]), (by rw [wl4]; exact (o7.Aj fun b hb hbl => kW1 b (by simp only [In] at hb; omega)).wide fun b hb _ => by simp only [In] at hb ⊢; omega)⟩) G6 (fun b hb _ hne' _ => (kW1 b hne').trans (F5.Ai hb)) (fun b _ h => .inr fun hh => by omega)).wide (S' := fun b => (S b ∧ b < w.heap.size) ∨ w.heap.size + 5 ≤ b) (fun b h _ => h)
    exact Af.mono (P5 (M := M) (M' := M) (i := i) (w := w) (b8 := w1.heap.size) (u := u) (au := au) (cu := cu) (kind := kind) (num := nm) (key := ky) (text := text) (gone := gone) (hf.Ay (i := i) (s := ⟨s.place, Ey (Db s.past u.past) ky u.tag, s.wait, s.key⟩) ⟨hs0, hs2, wl4, hsk0, hsk3⟩) Ad h80 oW1 (fun b h => by rcases h with h | h; exact .inl h; exact .inr Ad) MW1 xA xA xA xA ((kW1 _ Ad).trans (C0.trans B0)) ((kW1 _ Ad).trans (C1.trans B1)) ((kW1 _ Ad).trans (C2.trans B2)) (by rw [hu4]; exact (kW1 _ Ad).trans (C8.trans V2))) hQ
   ·simp (maxSteps := 1000000) (disch := first | exact xD | fail) [-bind_some, -Aa, -Ab, hut, V2]
    have F5 : Ext w w2 := xE
    exact Af.mono (P5 (M := M) (M' := M) (i := i) (w := w) (b8 := w1.heap.size) (u := u) (au := au) (cu := cu) (kind := kind) (num := nm) (key := ky) (text := text) (gone := gone) hf Ad h80 (ho.ext F5) (fun b h => .inl h) (Mod.of F5 S) xA xA xA xA (by first | assumption | rfl | (simp (maxSteps := 1000000) (disch := first | exact xD | fail) [-bind_some, qs, -Aa, -Ab, B0, E2.Ai]; done)) (by first | assumption | rfl | (simp (maxSteps := 1000000) (disch := first | exact xD | fail) [-bind_some, qs, -Aa, -Ab, B1, E2.Ai]; done)) (by first | assumption | rfl | (simp (maxSteps := 1000000) (disch := first | exact xD | fail) [-bind_some, qs, -Aa, -Ab, B2, E2.Ai]; done)) V2) hQ
  ·simp (maxSteps := 1000000) (disch := first | exact xD | fail) [-bind_some, qs, -Aa, -Ab, qm, E1.Ai, E2.Ai]
   exact hQ _ (ok _ xE)
 ·simp (maxSteps := 1000000) (disch := first | exact xD | fail) [-bind_some, qs, -Aa, -Ab, qm, show (80 : Int) ≤ st.AM.length by omega]
  exact hQ _ (ok _ xE)
end Go.Proofs.YtkhbpmhagpljiaaGreatDoor.X
namespace Go.Proofs.YtkhbpmhagpljiaaGreatDoor.X
open Go Go.Ev Go.RowKit
open Option (bind_some)
attribute [local irreducible] World.alloc World.setRow Go.Ev.dw
abbrev UL (w : World) (x : WorldD) (s t u v : Value) (S1 S2 S3 S4 : Nat → Prop) : Prop := Parts 39 110 159 99 102 108 112 41 w x s t u v S1 S2 S3 S4
theorem Tq {a a1 a2 a3 : Option Addr} {n n1 n2 n3 c c1 c2 c3 : Nat} {S1 S2 S3 S4 : Nat → Prop} {st : WorldD} {d : Done} {w : World} (hh : st.AM.length ≤ 1000) (Pt : UL w st (.slice a n c) (.slice a1 n1 c1) (.slice a2 n2 c2) (.slice a3 n3 c3) S1 S2 S3 S4) (hl : ∀ b, (S1 b ∨ S2 b ∨ S3 b ∨ S4 b) → b < w.heap.size) :
  Af (EV P 131 #[.agg #[.slice a n c, .slice a1 n1 c1, .slice a2 n2 c2, .slice a3 n3 c3], i64 d.Ay, i64 d.kind, i64 d.key, .agg #[i64 d.tag.t, i64 d.tag.p]] w) fun r => ∃ a4 n4 c4, r.1 = .agg #[.slice a n c, .slice a1 n1 c1, .slice a2 n2 c2, .slice a4 n4 c4] ∧
   UL r.2 { st with AM := st.AM ++ [d] } (.slice a n c) (.slice a1 n1 c1) (.slice a2 n2 c2) (.slice a4 n4 c4) S1 S2 S3 (fun b => (S4 b ∨ w.heap.size ≤ b) ∧ b < r.2.heap.size) ∧ Mod S4 w r.2 := by
 have hl4 := fun b h => hl b (.inr (.inr (.inr h)))
 refine Af.post fun Q hQ => ?_
 refine Bw (Ih _ _ _ _ _ _) ?_
 simp (disch := first | exact xD | fail) [-bind_some, qs, -Aa, -Ab]
 refine Af.bind (O.app (L := GK) (mx := 3518437208883) (S1 := fun _ => False) (x := d) (cs := Cd d) JQ OS rfl AD (Pt.o4.ext xE) (O.done.2 rfl) (fun _ _ _ h => h) (At.nw (by simp)) Ad AD AD) ?_
 rintro ⟨_, w1⟩ ⟨a7, c7, rfl, o7, M7⟩
 have zM7 := M7.size
 try simp only [qz] at zM7
 try dsimp only at o7 M7
 have zM7 := M7.size
 simp only [World.size_alloc] at zM7 o7
 have nn3 : ∀ b, w.heap.size ≤ b → ¬ S4 b := fun b h h' => by have := hl4 b h'; omega
 have Y1 : hp w1 w.heap.size = some (.cells #[.slice a n c, .slice a1 n1 c1, .slice a2 n2 c2, .slice a3 n3 c3] 67 (0, 0)) := (M7.Ai _ (by simp; omega) (nn3 _ Ad)).trans (by first | assumption | rfl | (simp (disch := first | exact xD | fail) [-bind_some, qs, -Aa, -Ab]; done))
 have Y3 : hp w1 (w.heap.size + 1 + 1) = some (.cells #[.slice none 0 0, .slice none 0 0, .slice none 0 0, .slice none 0 0] 67 (0, 0)) := (M7.Ai _ (by simp) (nn3 _ Ad)).trans (by first | assumption | rfl | (simp (disch := first | exact xD | fail) [-bind_some, qs, -Aa, -Ab]; done))
 simp (disch := first | exact xD | fail) [-bind_some, qs, -Aa, -Ab, qm, Y1, Y3]
 have kk : ∀ b, b < w.heap.size → ¬ S4 b → hp ((w1.setRow w.heap.size #[.slice a n c, .slice a1 n1 c1, .slice a2 n2 c2, .slice a7 (st.AM.length + 1) c7]).setRow (w.heap.size + 1 + 1) #[.slice a n c, .slice a1 n1 c1, .slice a2 n2 c2, .slice a7 (st.AM.length + 1) c7]) b = hp w b := fun b hb hn => by
  rw [Ac Ad, Ac Ad, M7.Ai b (by simp; omega) hn, Ag (by simp; omega), Ag (by simp; omega), Ag (by simp; omega), Ag Ad]
 refine hQ _ ⟨_, _, _, rfl, Pt.Va hl ((o7.Aj fun b hb hbl => ?_).wide ?_) (fun b hb hn => kk b (hl b (by rcases hb with h | h | h; exact .inl h; exact .inr (.inl h); exact .inr (.inr (.inl h)))) hn) (fun b h => h.1), ?_⟩
 ·have : b ≠ w.heap.size ∧ b ≠ w.heap.size + 1 + 1 := by
   rcases hb with h | h | h
   ·have := hl4 b h; omega
   ·exact h.elim
   ·omega
  rw [Ac this.2, Ac this.1]
 ·intro b hb hbl
  refine ⟨?_, hbl⟩
  rcases hb with h | h | h
  ·exact .inl h
  ·exact h.elim
  ·exact .inr Ad
 ·have Mb : Mod S4 w w1 := Mod.Bd (Mod.of xE S4) M7 fun b _ h => h
  exact (Mb.AQ (.inl (Nat.le_refl _)) _).AQ (.inl Ad) _
theorem UM {M i gs n1 c1 n c n2 c2 c8 b8 : Nat} {a a2 a8 : Option Addr} {kind num key : Int} {text : ByteArray} {gone : Bool} {S S1 S2 S3 S4 : Nat → Prop} {cs0 : List Value} {x : CNode} {w : World}
  (hl : ∀ b, (S1 b ∨ S2 b ∨ S3 b ∨ S4 b) → S b ∧ b < w.heap.size) (hx4 : x.store.length = 4) (hst : D AW S1 w [.slice a8 4 c8] x.store) (hin : i < n1) (hb8 : w.heap.size + 3 ≤ b8 ∧ b8 < w.heap.size + 6) :
  ∀ (d k : Nat) (e : Env) (W : World) (a4 : Option Addr) (n4 c4 : Nat) (st1 : WorldD) (s1 : SessD) (T2 T4 : Nat → Prop), k + d = 4 → e 2 = pt w.heap.size 0 → e 3 = pt (w.heap.size + 1) 0 → e 4 = pt (w.heap.size + 1 + 1) 0 → e 8 = pt b8 0 → e 9 = i64 k →
   hp W w.heap.size = some (.cells #[.slice a n c, .slice (some ⟨gs, 0, none⟩) n1 c1, .slice a2 n2 c2, .slice a4 n4 c4] 67 (0, 0)) → hp W (w.heap.size + 1) = some (.cells #[i64 kind, i64 i, i64 num, i64 key, .string text, .bool gone] 118 (0, 0)) →
   hp W (w.heap.size + 1 + 1) = some (.cells #[.slice none 0 0, .slice none 0 0, .slice none 0 0, .slice none 0 0] 67 (0, 0)) → hp W b8 = some (.cells #[.slice a8 4 c8] 156 (0, 0)) →
   UL W st1 (.slice a n c) (.slice (some ⟨gs, 0, none⟩) n1 c1) (.slice a2 n2 c2) (.slice a4 n4 c4) S1 T2 S3 T4 → (∀ b, T2 b → (S2 b ∨ w.heap.size + 6 ≤ b) ∧ b < W.heap.size) → (∀ b, T4 b → (S4 b ∨ w.heap.size + 6 ≤ b) ∧ b < W.heap.size) → w.heap.size + 6 ≤ W.heap.size →
   (∀ b, S1 b → hp W b = hp w b) → st1.Ay[i]? = some s1 → B6 M st1 → st1.AM.length + d ≤ 80 → Mod S w W → Af (ES e W) (Step M S w cs0) := by
 have hl1 := fun b h => hl b (.inl h)
 have hl2 := fun b h => hl b (.inr (.inl h))
 have hl3 := fun b h => hl b (.inr (.inr (.inl h)))
 have hl4 := fun b h => hl b (.inr (.inr (.inr h)))
 intro d
 induction d with
 | zero =>
  intro k e W a4 n4 c4 st1 s1 T2 T4 hd e2 e3 e4 e8 e9 X2 X3 X4 X8 Pt hT2 hT4 hz hk1 hs hf h80 hM
  rw [Hi]
  obtain rfl : k = 4 := by omega
  have y4 := Aq X4
  refine Af.post fun Q hQ => ?_
  simp (disch := first | exact xD | fail) [-bind_some, -Aa, -Ab, qm, e2, e4, e9, X2, X4]
  refine hQ _ ⟨_, st1, true, rfl, by simp, hf.up Ad, (Pt.mk'.Aj fun b hb hbl => Ac ?_).wide ?_, hM.AQ (.inl Ad) _⟩
  ·rintro rfl
   rcases hb with h | h | h | h
   ·have := (hl1 _ h).2; omega
   ·have := (hT2 _ h).1; rcases this with h | h; have := (hl2 _ h).2; omega; omega
   ·have := (hl3 _ h).2; omega
   ·have := (hT4 _ h).1; rcases this with h | h; have := (hl4 _ h).2; omega; omega
  ·intro b hb hbl
   simp only [In, size_setRow] at hbl ⊢
   rcases hb with h | h | h | h
   ·exact .inl (hl1 _ h).1
   ·have := (hT2 _ h).1; rcases this with h | h; exact .inl (hl2 _ h).1; exact .inr Ad
   ·exact .inl (hl3 _ h).1
   ·have := (hT4 _ h).1; rcases this with h | h; exact .inl (hl4 _ h).1; exact .inr Ad
 | succ d ih =>
  intro k e W a4 n4 c4 st1 s1 T2 T4 hd e2 e3 e4 e8 e9 X2 X3 X4 X8 Pt hT2 hT4 hz hk1 hs hf h80 hM
  rw [Hi]
  have hk4 : k < 4 := by omega
  have hlW : ∀ b, (S1 b ∨ T2 b ∨ S3 b ∨ T4 b) → b < W.heap.size := by
   rintro b (h | h | h | h)
   ·have := (hl1 _ h).2; omega
   ·exact (hT2 b h).2
   ·have := (hl3 _ h).2; omega
   ·exact (hT4 b h).2
  have box : ∀ b, w.heap.size ≤ b → b < w.heap.size + 6 → ¬ (S1 b ∨ T2 b ∨ S3 b ∨ T4 b) := by
   rintro b h1 h2 (h | h | h | h)
   ·have := (hl1 _ h).2; omega
   ·have := (hT2 _ h).1; rcases this with h | h; have := (hl2 _ h).2; omega; omega
   ·have := (hl3 _ h).2; omega
   ·have := (hT4 _ h).1; rcases this with h | h; have := (hl4 _ h).2; omega; omega
  obtain ⟨cur, ap, cp, Sx, rfl, hTg, hgs, hle, os, hSx, puts⟩ := Pt.FG hlW hs
  have hi : i < st1.Ay.length := hin
  obtain ⟨hs0, hs2, hsp, hsk0, hsk3⟩ := hf.2.2.2.1 s1 (List.mem_of_getElem? hs)
  rw [hsp] at hgs os
  have hgW := (hT2 gs hTg).2
  obtain ⟨v, hv, _⟩ := An (l := x.store) (k := k) Ad
  have hstW : D AW S1 W [.slice a8 4 c8] x.store := hst.Aj fun b hb _ => hk1 b hb
  obtain ⟨b9, o9, cs9, rfl, A9, D9, hSb9, yb9⟩ := hstW.at AD hv
  obtain ⟨av, cv, rfl, _, _⟩ := D.Cq.1 D9
  have m0 := A9 0 _ rfl
  have m1 := A9 1 _ rfl
  have m2 := A9 2 _ rfl
  have m3 := A9 3 _ rfl
  have m4 := A9 4 _ rfl
  have m5 := A9 5 _ rfl
  simp only [Co, Nat.add_zero] at m0 m1 m2 m3 m4 m5
  have As := Ew hgs (by simpa using hle)
  have t0 := As 0 _ rfl
  have t1 := As 1 _ rfl
  have t2 := As 2 _ rfl
  have t3 := As 3 _ rfl
  have t4 := As 4 _ rfl
  simp only [Nat.add_zero] at t0 t1 t2 t3 t4
  refine Af.post fun Q hQ => ?_
  simp (disch := first | exact xD | fail) [-bind_some, qs, -Aa, -Ab, e2, e3, e8, e9, X2, X3, X8, show (k : Int) < 4 by omega, EB, Ck, m1, m2, t1]
  refine Af.bind (Me (xs := s1.past) (t := v.tag) (k := k) hsp hk4 (os.d.ext xE)) ?_
  rintro ⟨_, w1⟩ ⟨a7, c7, rfl, o7, E1⟩
  try dsimp only at a7 c7 o7 E1
  have zE1 := E1.size
  try simp only [qz] at zE1
  simp only [Ak] at zE1 o7
  have F1 : Ext W w1 := xE
  have G1 := (F1.Ai hgW).trans hgs
  have N0 := (F1.Ai (b := w.heap.size) Ad).trans X2
  have N1 := (F1.Ai (b := w.heap.size + 1) Ad).trans X3
  have N2 := (F1.Ai (b := w.heap.size + 1 + 1) Ad).trans X4
  have N8 := (F1.Ai (b := b8) Ad).trans X8
  have gbx : ∀ b, w.heap.size ≤ b → b < w.heap.size + 6 → b ≠ gs := fun b h1 h2 h => box b h1 h2 (.inr (.inl (h ▸ hTg)))
  have ng0 := gbx w.heap.size (Nat.le_refl _) Ad
  have ng1 := gbx (w.heap.size + 1) Ad Ad
  have ng2 := gbx (w.heap.size + 1 + 1) Ad Ad
  have ng8 := gbx b8 Ad Ad
  have hb9 : b9 ≠ gs := fun h => Pt.d12 b9 yb9 hSb9 (h ▸ hTg)
  simp (disch := first | exact xD | fail) [-bind_some, qs, -Aa, -Ab, qm, G1, N0, N1, N8, Ck, m1, m2, E1.Ai]
  generalize hW1 : Go.Ev.dw (World.setRow _ gs _) = W1
  have sW1 : W1.heap.size = w1.heap.size := by rw [← hW1]; simp
  have kW1 : ∀ b, b ≠ gs → hp W1 b = hp w1 b := fun b h1 => by
   rw [← hW1]
   simp (disch := omega) only [Ac, BW]
  have G6 : hp W1 gs = some (.cells (Bu cur (i * 5) [i64 s1.place, .slice a7 4 c7, i64 s1.wait.t, i64 s1.wait.p, i64 s1.key]).toArray 108 (0, 0)) := by
   rw [← hW1]
   exact (by first | assumption | rfl | (simp (disch := first | exact xD | fail) [-bind_some, -Aa, -Ab, G1]; done))
  have hgS : w.heap.size ≤ gs ∨ S gs := by rcases (hT2 gs hTg).1 with h | h; exact .inr (hl2 _ h).1; exact .inl Ad
  have MW1 : Mod S w W1 := by
   rw [← hW1]
   exact ((hM.ex F1).AQ hgS _).Ud
  have wl4 : (Ey s1.past k v.tag).length = 4 := by rw [Ht]; exact hsp
  have Pt1 := puts W1 _ ⟨s1.place, Ey s1.past k v.tag, s1.wait, s1.key⟩ (In W.heap.size w1.heap.size) (O.Ay.2 ⟨a7, c7, (by rw [wl4]), (by rw [wl4]; exact o7.Aj fun b hb hbl => kW1 b (by simp only [In] at hb; omega))⟩) G6 (fun b hb hne _ => (kW1 b hne).trans (F1.Ai (hlW b hb))) (fun b h => .inr h.1)
  have hlW1 : ∀ b, (S1 b ∨ (T2 b ∨ In W.heap.size w1.heap.size b) ∨ S3 b ∨ T4 b) → b < W1.heap.size := by
   rintro b (h | (h | h) | h | h)
   ·have := hlW b (.inl h); omega
   ·have := hlW b (.inr (.inl h)); omega
   ·simp only [In] at h; omega
   ·have := hlW b (.inr (.inr (.inl h))); omega
   ·have := hlW b (.inr (.inr (.inr h))); omega
  have box1 : ∀ b, w.heap.size ≤ b → b < w.heap.size + 6 → ¬ (S1 b ∨ (T2 b ∨ In W.heap.size w1.heap.size b) ∨ S3 b ∨ T4 b) := by
   rintro b h1 h2 (h | (h | h) | h | h)
   ·exact box b h1 h2 (.inl h)
   ·exact box b h1 h2 (.inr (.inl h))
   ·simp only [In] at h; omega
   ·exact box b h1 h2 (.inr (.inr (.inl h)))
   ·exact box b h1 h2 (.inr (.inr (.inr h)))
  refine Af.bind (Tq (d := ⟨i, 2, k, v.tag⟩) (by show st1.AM.length ≤ 1000; omega) Pt1 hlW1) ?_
  rintro ⟨_, w2⟩ ⟨a5, n5, c5, rfl, Pt2, M2⟩
  have zM2 := M2.size
  try simp only [] at zM2
  try dsimp only at Pt2 M2
  have zM2 := M2.size
  have keep2 : ∀ b, w.heap.size ≤ b → b < w.heap.size + 6 → hp w2 b = hp W b := fun b h1 h2 => (M2.Ai b Ad (fun h => box1 b h1 h2 (.inr (.inr (.inr h))))).trans ((kW1 b (gbx b h1 h2)).trans (F1.Ai Ad))
  have L0 := (keep2 w.heap.size Ad Ad).trans X2
  have L1 := (keep2 (w.heap.size + 1) Ad Ad).trans X3
  have L2 := (keep2 (w.heap.size + 1 + 1) Ad Ad).trans X4
  have L8 := (keep2 b8 Ad Ad).trans X8
  simp (disch := first | exact xD | fail) [-bind_some, -Aa, -Ab, qm, L0]
  have hl2' : ∀ b, (S1 b ∨ (T2 b ∨ In W.heap.size w1.heap.size b) ∨ S3 b ∨ ((T4 b ∨ W1.heap.size ≤ b) ∧ b < w2.heap.size)) → b < w2.heap.size := by
   rintro b (h | h | h | h)
   ·have := hlW1 b (.inl h); omega
   ·have := hlW1 b (.inr (.inl h)); omega
   ·have := hlW1 b (.inr (.inr (.inl h))); omega
   ·exact h.2
  have hne0 : ∀ b, (S1 b ∨ (T2 b ∨ In W.heap.size w1.heap.size b) ∨ S3 b ∨ ((T4 b ∨ W1.heap.size ≤ b) ∧ b < w2.heap.size)) → b ≠ w.heap.size := by
   rintro b (h | h | h | h) rfl
   ·exact box1 _ (Nat.le_refl _) Ad (.inl h)
   ·exact box1 _ (Nat.le_refl _) Ad (.inr (.inl h))
   ·exact box1 _ (Nat.le_refl _) Ad (.inr (.inr (.inl h)))
   ·rcases h.1 with h | h
    ·exact box1 _ (Nat.le_refl _) Ad (.inr (.inr (.inr h)))
    ·omega
  refine Af.mono (ih (k + 1) _ _ a5 n5 c5 _ ⟨s1.place, Ey s1.past k v.tag, s1.wait, s1.key⟩ (fun b => T2 b ∨ In W.heap.size w1.heap.size b) (fun b => (T4 b ∨ W1.heap.size ≤ b) ∧ b < w2.heap.size) Ad xA xA xA xA xA (by first | assumption | rfl | (simp (disch := first | exact xD | fail) [-bind_some, -Aa, -Ab, L0]; done)) ((Ac Ad).trans L1) ((Ac Ad).trans L2) ((Ac Ad).trans L8) (Pt2.Aj hl2' fun b hb => Ac (hne0 b hb)) ?_ ?_ (by simp only [size_setRow]; omega) ?_ (by rw [List.getElem?_set_self hi]) ((hf.Ay (i := i) (s := ⟨s1.place, Ey s1.past k v.tag, s1.wait, s1.key⟩) ⟨hs0, hs2, wl4, hsk0, hsk3⟩).AM (d := ⟨i, 2, k, v.tag⟩) (by show st1.AM.length < 80; omega)) (by simp; omega) ?_) hQ
  ·intro b hb
   simp only [size_setRow]
   rcases hb with h | h
   ·have := hT2 b h
    exact ⟨this.1, by omega⟩
   ·simp only [In] at h
    exact ⟨.inr Ad, by omega⟩
  ·intro b hb
   simp only [size_setRow]
   refine ⟨?_, hb.2⟩
   rcases hb.1 with h | h
   ·exact (hT4 b h).1
   ·exact .inr Ad
  ·intro b hb
   have hbl := (hl1 b hb).2
   exact (Ac (hne0 b (.inl hb))).trans ((M2.Ai b Ad (fun h => Pt.d14 b Ad hb h)).trans ((kW1 b (fun e => Pt.d12 b Ad hb (e ▸ hTg))).trans ((F1.Ai Ad).trans (hk1 b hb))))
  ·exact (Mod.Bd MW1 M2 fun b hb h => by rcases (hT4 b h).1 with h | h; exact (hl4 b h).1; omega).AQ (.inl (Nat.le_refl _)) _
theorem UN {M i : Nat} {kind num key : Int} {text : ByteArray} {gone : Bool} {S : Nat → Prop} {cs : List Value} {st : WorldD} {w : World} (hf : B6 M st) (hM : M ≤ 900000) (hi : i < st.Ay.length) (ho : O tW S w cs st) :
  Af (EV P 112 #[.agg cs.toArray, .agg #[i64 kind, i64 i, i64 num, i64 key, .string text, .bool gone]] w) (Step M S w cs) := by
 have hf' := hf
 obtain ⟨pl3, hfp, sl4, hfs, nl, hfn, hl80⟩ := hf'
 obtain ⟨s, hs, _⟩ := An hi
 obtain ⟨hs0, hs2, hsp, hsk0, hsk3⟩ := hfs s (List.mem_of_getElem? hs)
 obtain ⟨k, hk⟩ := Int.eq_ofNat_of_zero_le hs0
 have hk3 : k < st.places.length := by omega
 obtain ⟨p, hp', _⟩ := An hk3
 have hpf := hfp p (List.mem_of_getElem? hp')
 have x0 : 0 < p.chain.length := hpf.1.1
 have x4 := hpf.1.2.1
 obtain ⟨x, hx, _⟩ := An (l := p.chain) (k := p.chain.length - 1) Ad
 have hxn := hpf.1.2.2 x (List.mem_of_getElem? hx)
 obtain ⟨a, c, a1, c1, a2, c2, a3, c3, S1, S2, S3, S4, rfl, Pt, hl⟩ := O.Il ho
 have hl' := fun b h => (hl b h).2
 obtain ⟨g0, _, _, _, _, rfl, _⟩ : ∃ (g : Nat) (_ _ _ _ : Unit), a1 = some ⟨g, 0, none⟩ ∧ True := by
  obtain ⟨g, cur, ds, Sx, h1, _⟩ := Pt.o2.PO (by show 0 < 5; decide) hs
  exact ⟨g, (), (), (), (), h1, trivial⟩
 obtain ⟨curs, ap, cp, Ss, _, hTg, hgs, hles, os, hSs, puts⟩ := Pt.FG hl' hs
 have hgl := hl' g0 (.inr (.inl hTg))
 obtain ⟨b0, o0, cs2, rfl, Ap, Dp, hSp, _⟩ := Pt.o1.d.at (by show 0 < 6; decide) hp'
 obtain ⟨ac, cc, al, cl, ag, cg, rfl, q1, _, _⟩ := D.place.1 Dp
 obtain ⟨b1, o1, cs1, rfl, A1, D1, _, l1⟩ := q1.at AD hx
 obtain ⟨a4, c4, a5, c5, rfl, h2, h3⟩ := D.node.1 D1
 rw [hxn.1] at h2 A1
 rw [hsp, hk] at hgs
 have As := Ew hgs (by simpa using hles)
 have t0 := As 0 _ rfl
 have t1 := As 1 _ rfl
 have t2 := As 2 _ rfl
 have t3 := As 3 _ rfl
 have t4 := As 4 _ rfl
 simp only [Nat.add_zero] at t0 t1 t2 t3 t4
 have m0 := Ap 0 _ rfl
 have m1 := Ap 1 _ rfl
 have m2 := Ap 2 _ rfl
 simp only [Nat.add_zero] at m0 m1 m2
 simp only [NQ] at m0 m1 m2
 have n0 := A1 0 _ rfl
 have n1 := A1 1 _ rfl
 simp only [BN, Nat.add_zero] at n0 n1
 have osd : D Cr Ss w [.slice ap 4 cp] s.past := by rw [← hsp]; exact os.d
 have ok : ∀ (w' : World), Ext w w' → Step M S w [.slice (some ⟨b0, o0, none⟩) st.places.length c, .slice (some ⟨g0, 0, none⟩) st.Ay.length c1, .slice a2 st.net.length c2, .slice a3 st.AM.length c3] (.tuple #[.agg #[.slice (some ⟨b0, o0, none⟩) st.places.length c, .slice (some ⟨g0, 0, none⟩) st.Ay.length c1, .slice a2 st.net.length c2, .slice a3 st.AM.length c3], .bool false], w') :=
  fun w' hE => Step.fail hf ho hE
 have hw1 : IntKind.i64.wrap ((p.chain.length : Int) - 1) = ((p.chain.length - 1 : Nat) : Int) := by rw [HS Ad Ad]; omega
 have hw4 : IntKind.i64.wrap ((st.AM.length : Int) + 4) = (st.AM.length : Int) + 4 := HS Ad Ad
 have hln : p.chain.length - 1 < p.chain.length := by omega
 refine Af.post fun Q hQ => ?_
 refine Bw (Oj _ _ _) ?_
 by_cases hwt : 0 < s.wait.t
 ·simp (disch := first | exact xD | fail) [-bind_some, qs, -Aa, -Ab, qm, hw1, EB, DJ, Da, hwt, t0, t1, t2, t3, t4, m2, n0]
  exact hQ _ (ok _ xE)
 simp (disch := first | exact xD | fail) [-bind_some, qs, -Aa, -Ab, qm, hw1, EB, DJ, Da, hwt, t0, t1, t2, t3, t4, m2, n0]
 refine Af.bind (Jb hxn.1 (h2.ext xE)) ?_
 rintro ⟨_, w1⟩ ⟨a6, c6, rfl, o6, E1⟩
 try dsimp only at a6 c6 o6 E1
 have zE1 := E1.size
 try simp only [qz] at zE1
 have ht4 : (CF x.store).length = 4 := by rw [CF, List.length_map]; exact hxn.1
 rw [ht4] at o6
 have F1 : Ext w w1 := xE
 have zF1 := F1.size
 have B0 : hp w1 w.heap.size = some (.cells #[.slice (some ⟨b0, o0, none⟩) st.places.length c, .slice (some ⟨g0, 0, none⟩) st.Ay.length c1, .slice a2 st.net.length c2, .slice a3 st.AM.length c3] 67 (0, 0)) := (E1.Ai xB).trans (by first | assumption | rfl | (simp (disch := first | exact xD | fail) [-bind_some, qs, -Aa, -Ab]; done))
 have B1 : hp w1 (w.heap.size + 1) = some (.cells #[i64 kind, i64 i, i64 num, i64 key, .string text, .bool gone] 118 (0, 0)) := (E1.Ai xB).trans (by first | assumption | rfl | (simp (disch := first | exact xD | fail) [-bind_some, qs, -Aa, -Ab]; done))
 have B2 : hp w1 (w.heap.size + 1 + 1) = some (.cells #[.slice none 0 0, .slice none 0 0, .slice none 0 0, .slice none 0 0] 67 (0, 0)) := (E1.Ai xB).trans (by first | assumption | rfl | (simp (disch := first | exact xD | fail) [-bind_some, qs, -Aa, -Ab]; done))
 have B3 : hp w1 (w.heap.size + 1 + 1 + 1) = some (.cells #[i64 k, .slice ap 4 cp, i64 s.wait.t, i64 s.wait.p, i64 s.key] 108 (0, 0)) := (E1.Ai xB).trans (by first | assumption | rfl | (simp (disch := first | exact xD | fail) [-bind_some, qs, -Aa, -Ab]; done))
 have B5 : hp w1 (w.heap.size + 1 + 1 + 1 + 1 + 1) = some (.cells #[.slice a4 4 c4] 156 (0, 0)) := (E1.Ai xB).trans (by first | assumption | rfl | (simp (disch := first | exact xD | fail) [-bind_some, qs, -Aa, -Ab]; done))
 simp (disch := first | exact xD | fail) [-bind_some, -Aa, -Ab, ht4, B3]
 refine Af.bind (Fq hsp ht4 (D.Cb (osd.ext xE)) (D.Cb o6.d)) ?_
 rintro ⟨_, w2⟩ ⟨rfl, E2⟩
 try dsimp only at E2
 have zE2 := E2.size
 try simp only [qz] at zE2
 cases hu : under s.past (CF x.store)
 ·simp (disch := first | exact xD | fail) [-bind_some, qs, -Aa, -Ab, qm, E1.Ai, E2.Ai]
  exact hQ _ (ok _ xE)
 by_cases h80 : st.AM.length + 4 ≤ 80
 ·have F2 : Ext w w2 := xE
  have zF2 := F2.size
  simp (disch := first | exact xD | fail) [-bind_some, -Aa, -Ab, hw4, B0, show ¬ (80 : Int) < (st.AM.length : Int) + 4 by omega, E2.Ai]
  exact Af.mono (UM (M := M) (i := i) (gs := g0) (b8 := w.heap.size + 1 + 1 + 1 + 1 + 1) (kind := kind) (num := num) (key := key) (text := text) (gone := gone) (S := S) (S1 := S1) (S2 := S2) (S3 := S3) (S4 := S4) (x := x) hl hxn.1 h2 hi Ad 4 0 _ w2 a3 _ c3 st s S2 S4 Ad xA xA xA xA xA ((E2.Ai Ad).trans B0) ((E2.Ai Ad).trans B1) ((E2.Ai Ad).trans B2) ((E2.Ai Ad).trans B5) (Pt.Aj hl' fun b hb => F2.Ai (hl' b hb)) (fun b h => ⟨.inl h, by have := hl' b (.inr (.inl h)); omega⟩) (fun b h => ⟨.inl h, by have := hl' b (.inr (.inr (.inr h))); omega⟩) Ad (fun b h => F2.Ai (hl' b (.inl h))) hs hf h80 (Mod.of F2 S)) hQ
 ·simp (disch := first | exact xD | fail) [-bind_some, qs, -Aa, -Ab, qm, hw4, B0, show (80 : Int) < (st.AM.length : Int) + 4 by omega, E1.Ai, E2.Ai]
  exact hQ _ (ok _ xE)
end Go.Proofs.YtkhbpmhagpljiaaGreatDoor.X
namespace Go.Proofs.YtkhbpmhagpljiaaGreatDoor.X
open Go Go.Ev Go.RowKit
open Option (bind_some)
attribute [local irreducible] World.alloc World.setRow Go.Ev.dw
theorem Step.out {M g : Nat} {S : Nat → Prop} {w wB : World} {cs : List Value} {r : Value × World} (h : Step M (fun b => S b ∧ b < w.heap.size) wB cs r) (hE : Ext w wB) (hg : w.heap.size ≤ g) (hg2 : g < wB.heap.size) :
  ∃ u1 n1 c1 u2 n2 c2 u3 n3 c3 u4 n4 c4 ok, r.1 = .tuple #[.agg #[.slice u1 n1 c1, .slice u2 n2 c2, .slice u3 n3 c3, .slice u4 n4 c4], .bool ok] ∧ hp r.2 g = hp wB g ∧ Step M S w cs (.tuple #[.agg #[.slice u1 n1 c1, .slice u2 n2 c2, .slice u3 n3 c3, .slice u4 n4 c4], .bool ok], r.2.setRow g #[.slice u1 n1 c1, .slice u2 n2 c2, .slice u3 n3 c3, .slice u4 n4 c4]) := by
 obtain ⟨v, w3⟩ := r
 obtain ⟨cs', st', ok, h1, h2, h3, h4, h5⟩ := h
 dsimp only at h1 h4 h5 ⊢
 obtain ⟨u1, n1, c1, u2, n2, c2, u3, n3, c3, u4, n4, c4, rfl⟩ := h4.Cv
 have zE := hE.size
 have zM := h5.size
 refine ⟨u1, n1, c1, u2, n2, c2, u3, n3, c3, u4, n4, c4, ok, h1, h5.Ai g hg2 Ad, ⟨_, st', ok, rfl, h2, h3, (h4.Aj fun b hb hbl => Ac ?_).wide ?_, ?_⟩⟩
 ·rintro rfl
  simp only [In] at hb
  omega
 ·intro b hb hbl
  simp only [In, size_setRow] at hb hbl ⊢
  rcases hb with h | h
  ·exact .inl h.1
  ·exact .inr Ad
 ·exact (Mod.Bd (Mod.of hE S) h5 fun b hb h => h.1).AQ (.inl hg) _
theorem QX {M : Nat} {kind at' num key : Int} {text : ByteArray} {gone : Bool} {S : Nat → Prop} {cs : List Value} {st : WorldD} {w : World} (hf : B6 M st) (hM : M ≤ 900000) (htx : text.size ≤ 1000) (ho : O tW S w cs st) :
  Af (EV P 90 #[.agg cs.toArray, .agg #[i64 kind, i64 at', i64 num, i64 key, .string text, .bool gone]] w) (Step M S w cs) := by
 have ho0 := ho
 have ho := ho.lt
 obtain ⟨pa, pn, pc, sa, sn, sc, na, nn, nc, ha, hn, hc, rfl⟩ := ho.Cv
 have hsn : sn = st.Ay.length := by
  obtain ⟨_, _, _, _, _, _, _, _, e, _⟩ := D.world.1 ho.d
  simp only [List.cons.injEq, Value.slice.injEq] at e
  exact e.2.1.2.1
 subst hsn
 have ok : ∀ (w' : World), Ext w w' → Step M S w [.slice pa pn pc, .slice sa st.Ay.length sc, .slice na nn nc, .slice ha hn hc] (.tuple #[.agg #[.slice pa pn pc, .slice sa st.Ay.length sc, .slice na nn nc, .slice ha hn hc], .bool false], w') :=
  fun w' hE => Step.fail hf ho0 hE
 have sl4 := hf.2.2.1
 have hw1 : IntKind.i64.wrap ((st.Ay.length : Int) - 1) = (st.Ay.length : Int) - 1 := HS Ad Ad
 refine Af.post fun Q hQ => ?_
 refine Bw (KK _ _ _) ?_
 simp (disch := first | exact xD | fail) [-bind_some, qs, -Aa, -Ab, hw1]
 refine Af.bind (AN _ _ _ _) ?_
 rintro _ rfl
 cases hat : (decide (0 ≤ at') && decide (at' ≤ (st.Ay.length : Int) - 1))
 ·simp (disch := first | exact xD | fail) [-bind_some, qs, -Aa, -Ab, qm]
  exact hQ _ (ok _ xE)
 have hat' := hat
 simp only [Bool.and_eq_true, decide_eq_true_eq] at hat'
 obtain ⟨i, rfl⟩ := Int.eq_ofNat_of_zero_le hat'.1
 have hi : i < st.Ay.length := by omega
 obtain ⟨s, hs, _⟩ := An hi
 obtain ⟨hs0, hs2, hsp, hsk0, hsk3⟩ := hf.2.2.2.1 s (List.mem_of_getElem? hs)
 cases hk1 : (kind == 1)
 case true =>
  simp (disch := first | exact xD | fail) [-bind_some, qs, -Aa, -Ab, hk1]
  refine Af.bind (Sy hf hM hi htx (ho.ext xE)) ?_
  rintro ⟨_, w3⟩ h3
  obtain ⟨u1, n1, c1, u2, n2, c2, u3, n3, c3, u4, n4, c4, q, rfl, hg, hS⟩ := h3.out (g := w.heap.size + 1 + 1) xE Ad xB
  have hg' := hg.trans (by first | assumption | rfl | (simp (disch := first | exact xD | fail) [-bind_some, qs, -Aa, -Ab, qm, hg]; done))
  simp (disch := first | exact xD | fail) [-bind_some, qs, -Aa, -Ab, qm, hg']
  exact hQ _ hS
 cases hk2 : (kind == 2)
 case true =>
  simp (disch := first | exact xD | fail) [-bind_some, qs, -Aa, -Ab, hk1, hk2]
  refine Af.bind (UK hf hM hi (ho.ext xE)) ?_
  rintro ⟨_, w3⟩ h3
  obtain ⟨u1, n1, c1, u2, n2, c2, u3, n3, c3, u4, n4, c4, q, rfl, hg, hS⟩ := h3.out (g := w.heap.size + 1 + 1) xE Ad xB
  have hg' := hg.trans (by first | assumption | rfl | (simp (disch := first | exact xD | fail) [-bind_some, qs, -Aa, -Ab, qm, hg]; done))
  simp (disch := first | exact xD | fail) [-bind_some, qs, -Aa, -Ab, qm, hg']
  exact hQ _ hS
 cases hk3 : (kind == 3)
 case true =>
  simp (disch := first | exact xD | fail) [-bind_some, qs, -Aa, -Ab, hk1, hk2, hk3]
  refine Af.bind (Tp hf hM hi (ho.ext xE)) ?_
  rintro ⟨_, w3⟩ h3
  obtain ⟨u1, n1, c1, u2, n2, c2, u3, n3, c3, u4, n4, c4, q, rfl, hg, hS⟩ := h3.out (g := w.heap.size + 1 + 1) xE Ad xB
  have hg' := hg.trans (by first | assumption | rfl | (simp (disch := first | exact xD | fail) [-bind_some, qs, -Aa, -Ab, qm, hg]; done))
  simp (disch := first | exact xD | fail) [-bind_some, qs, -Aa, -Ab, qm, hg']
  exact hQ _ hS
 cases hk4 : (kind == 4)
 case true =>
  simp (disch := first | exact xD | fail) [-bind_some, qs, -Aa, -Ab, hk1, hk2, hk3, hk4]
  refine Af.bind (UN hf hM hi (ho.ext xE)) ?_
  rintro ⟨_, w3⟩ h3
  obtain ⟨u1, n1, c1, u2, n2, c2, u3, n3, c3, u4, n4, c4, q, rfl, hg, hS⟩ := h3.out (g := w.heap.size + 1 + 1) xE Ad xB
  have hg' := hg.trans (by first | assumption | rfl | (simp (disch := first | exact xD | fail) [-bind_some, qs, -Aa, -Ab, qm, hg]; done))
  simp (disch := first | exact xD | fail) [-bind_some, qs, -Aa, -Ab, qm, hg']
  exact hQ _ hS
 obtain ⟨a', c', c1', a2', c2', a3', c3', gs, curs, ap, cp, Ss, hcs, hSgs, hgsl, hgs, hles, os, hSs, puts⟩ := O.FG ho hs
 simp only [List.cons.injEq, Value.slice.injEq, and_true, true_and] at hcs
 obtain ⟨⟨rfl, rfl, rfl⟩, ⟨rfl, rfl⟩, ⟨rfl, rfl, rfl⟩, rfl, rfl, rfl⟩ := hcs
 by_cases hwt : 0 < s.wait.t
 ·simp (disch := first | exact xD | fail) [-bind_some, qs, -Aa, -Ab, qm, hk1, hk2, hk3, hk4, hgs, EB, hwt]
  exact hQ _ (ok _ xE)
 ·simp (disch := first | exact xD | fail) [-bind_some, qs, -Aa, -Ab, qm, hk1, hk2, hk3, hk4, hgs, EB, hwt]
  refine Af.bind (AN _ _ _ _) ?_
  rintro _ rfl
  cases hnm : (decide (0 ≤ num) && decide (num ≤ 2))
  ·simp (disch := first | exact xD | fail) [-bind_some, qs, -Aa, -Ab, qm]
   exact hQ _ (ok _ xE)
  ·have hnm' := hnm
   simp only [Bool.and_eq_true, decide_eq_true_eq] at hnm'
   simp (disch := first | exact xD | fail) [-bind_some, qs, -Aa, -Ab, qm, hgs, EB]
   generalize hW1 : World.setRow _ gs _ = W1
   have sW1 : W1.heap.size = w.heap.size + 1 + 1 + 1 := by rw [← hW1]; simp
   have kW1 : ∀ b, b ≠ gs → b < w.heap.size → hp W1 b = hp w b := fun b h1 h2 => by
    rw [← hW1]
    simp (disch := (first | omega | (simp only [World.size_alloc, size_setRow]; omega))) only [Ac, Ag]
   have G1 : hp W1 gs = some (.cells (Bu curs (i * 5) [i64 num, .slice ap s.past.length cp, i64 s.wait.t, i64 s.wait.p, i64 s.key]).toArray 108 (0, 0)) := by
    rw [← hW1]
    exact (by first | assumption | rfl | (simp (disch := first | exact xD | fail) [-bind_some, qs, -Aa, -Ab, hgs]; done))
   have MW1 : Mod S w W1 := by
    rw [← hW1]
    exact Mod.AQ xM (.inr hSgs.1) _
   have oW1 := (puts W1 _ ⟨num, s.past, s.wait, s.key⟩ Ss (O.Ay.2 ⟨ap, cp, rfl, os.Aj fun b hb hbl => kW1 b (hSs b hb).2.1 hbl⟩) G1 (fun b hb _ hne' _ => kW1 b hne' hb) (fun b _ h => .inl h)).wide (S' := fun b => S b ∧ b < w.heap.size) (fun b h _ => by rcases h with h | h; exact h; exact (hSs b h).1)
   refine hQ _ ⟨_, _, true, rfl, by simp, ((hf.Ay (i := i) (s := ⟨num, s.past, s.wait, s.key⟩) ⟨hnm'.1, hnm'.2, hsp, hsk0, hsk3⟩).up Ad), (oW1.Aj fun b hb hbl => Ac Ad).wide fun b h _ => .inl h.1, MW1.AQ (.inl Ad) _⟩
end Go.Proofs.YtkhbpmhagpljiaaGreatDoor.X
