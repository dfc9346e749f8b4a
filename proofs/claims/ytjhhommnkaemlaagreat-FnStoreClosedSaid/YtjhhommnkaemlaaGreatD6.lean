/- A part of the proof, without conditions. -/
import Derived.Test.YtjhhommnkaemlaaGreatS16
import Derived.Test.YtjhhommnkaemlaaGreatEvX
import Derived.Test.YtjhhommnkaemlaaGreatEvWo
set_option linter.unusedVariables false
set_option linter.unusedSimpArgs false
set_option linter.deprecated false
set_option maxRecDepth 100000
set_option maxHeartbeats 1000000
namespace Go.Proofs.YtjhhommnkaemlaaGreat.X
open Go Go.Ev Go.RowKit
def addNode (n : CNode) (v : Ver) (last : Bool) : CNode := ⟨n.store.set v.key.toNat v, if last then n.wait else n.wait ++ [v]⟩
def F8 (ns : List CNode) (i : Nat) (v : Ver) : List CNode := match ns[i]? with
 | some n => (match n.store[v.key.toNat]? with
  | some u => if AH u.tag v.tag then ns.set i (addNode n v (decide (ns.length ≤ i + 1))) else ns
  | none => ns)
 | none => ns
theorem I4 {a : Option Addr} {n c i : Nat} {S S1 : Nat → Prop} {ns : List CNode} {cs : List Value} {v : Ver} {x : CNode} {w : World} (ho : O AU S w [.slice a n c] ns) (hv : D Bz S1 w cs v) (hd : ∀ b, b < w.heap.size → S1 b → ¬ S b)
  (hx : ns[i]? = some x) (h0 : 0 ≤ v.key) (h1 : v.key.toNat < x.store.length) (h6 : x.wait.length ≤ 1000000) (h4 : ns.length ≤ 1000000) :
  Ag (EV P 138 #[.agg #[.slice a n c], i64 i, .agg cs.toArray] w) fun r => r.1 = .agg #[.slice a ns.length c] ∧ O AU (fun b => S b ∨ In w.heap.size r.2.heap.size b) r.2 [.slice a ns.length c] (F8 ns i v) ∧ Mod S w r.2 := by
 obtain ⟨rfl, hm, _⟩ := ho.n
 have ho' := ho
 obtain ⟨av, cv, rfl, hv1, hv2⟩ := D.Bv.1 hv
 obtain ⟨u, hu, _⟩ := Am h1
 have hlt : i < ns.length := (List.getElem?_eq_some_iff.1 hx).1
 obtain ⟨g, cur, ds, S2, rfl, hSg, hgl, hg, hle, hx1, hS2, put⟩ := ho.row (by decide) hx
 obtain ⟨a2, c2, a3, c3, Ss, Sw, rfl, o2, o3, hSs, hSw⟩ := O.KK hx1
 simp only [AO] at hg hle put
 have o2' := o2
 obtain ⟨g2, cur2, ds2, S3, rfl, hSg2, hgl2, hg2, hle2, hx2, hS3, put2⟩ := o2.row (by decide) hu
 obtain ⟨au, cu, rfl, hu1, hu2⟩ := O.Bv.1 hx2
 simp only [AX] at hg2 hle2 put2
 have hk : v.key < x.store.length := by omega
 have hne : g2 ≠ g := (hS2 g2 (hSs g2 hSg2).1).2.1
 refine Ag.post fun Q hQ => ?_
 refine Ag.enter plain mixed (Mh _ _ _ _) (by kernel_rfl) (n := 3) (by kernel_rfl) rfl ?_
 simp (disch := first | exact xD | fail) [-Option.bind_some, qs, -Aa, -Ab, qm, Cr, AW, hg, hg2]
 refine Ag.bind (AN u.tag v.tag _) ?_
 rintro ⟨_, w1⟩ ⟨rfl, E1⟩
 try dsimp only at E1
 have zE1 := E1.size
 try simp only [qz] at zE1
 cases hl : AH u.tag v.tag
 ·have e : F8 ns i v = ns := by rw [F8, hx]; simp [hu, hl]
  rw [e] at hQ
  simp (disch := first | exact xD | fail) [-Option.bind_some, qs, -Aa, -Ab, qm, E1.Ah]
  exact hQ _ ⟨rfl, (ho'.Ak (by intro b hS hb; (try dsimp only at hS); (try simp only [In, qz] at hS hb); first | rfl | (simp (disch := first | exact xF | fail) only [E1.Ah, qk]; done))).wide (fun b h _ => .inl h), xM⟩
 ·have e : F8 ns i v = ns.set i (addNode x v (decide (ns.length ≤ i + 1))) := by rw [F8, hx]; simp [hu, hl]
  rw [e] at hQ
  have hst : DI x.store v = x.store.set v.key.toNat v := L7 hu hl
  simp (disch := first | exact xD | fail) [-Option.bind_some, qs, -Aa, -Ab, qm, Cr, hg, E1.Ah]
  refine Ag.bind (Jh (o2'.Ak (by intro b hS hb; (try dsimp only at hS); (try simp only [In, qz] at hS hb); first | rfl | (simp (disch := first | exact xF | fail) only [E1.Ah, qk]; done))) (hv.ext xE) h0 h1) ?_
  rintro ⟨_, w2⟩ ⟨rfl, o4, M2⟩
  have zM2 := M2.size
  try simp only [qz] at zM2
  try dsimp only at o4 M2
  have zM2 := M2.size
  simp only [Ac] at zM2
  have nS : ∀ b, w.heap.size ≤ b → ¬ Ss b := fun b hb h => by have := (hSs b h).2.2; omega
  have G2 : hp w2 g = hp w g := (M2.Ah g xN (fun h => (hS2 g (hSs g h).1).2.1 rfl)).trans (by first | assumption | rfl | (simp (disch := first | exact xD | fail) [-Option.bind_some, qs, hg, E1.Ah]; done))
  have Y1 : hp w2 w.heap.size = some (.cells #[.slice (some ⟨g, 0, none⟩) ns.length c] 81 (0, 0)) := (M2.Ah w.heap.size xN (nS _ (by omega))).trans (by first | assumption | rfl | (simp (disch := first | exact xD | fail) [-Option.bind_some, qs, -Aa, -Ab, E1.Ah]; done))
  have Y2 : hp w2 (w.heap.size + 1) = some (.cells #[i64 v.key, i64 v.tag.t, i64 v.tag.p, .slice av v.past.length cv, .string v.text, .bool v.gone] 49 (0, 0)) := (M2.Ah (w.heap.size + 1) xN (nS _ (by omega))).trans (by first | assumption | rfl | (simp (disch := first | exact xD | fail) [-Option.bind_some, qs, -Aa, -Ab, E1.Ah]; done))
  have Y3 : hp w2 (w.heap.size + 1 + 1) = some (.cells #[.slice none 0 0] 81 (0, 0)) := (M2.Ah (w.heap.size + 1 + 1) xN (nS _ (by omega))).trans (by first | assumption | rfl | (simp (disch := first | exact xD | fail) [-Option.bind_some, qs, -Aa, -Ab, E1.Ah]; done))
  have hw : IntKind.i64.wrap ((ns.length : Int) - 1) = (ns.length : Int) - 1 := Ho (by omega) (by omega)
  have MA : Mod S w w2 := Mod.A8 (Mod.of xE S) M2 (fun x _ h => (hS2 x (hSs x h).1).1)
  rw [hst] at o4
  by_cases hlast : i + 1 < ns.length
  ·simp (disch := first | exact xD | fail) [-Option.bind_some, qs, -Aa, -Ab, qm, Cr, Y1, Y2, G2, hg, hw, show (i : Int) < (ns.length : Int) - 1 by omega]
   have hg2' : hp (w2.setRow g (Ba cur (i * 2) [.slice (some ⟨g2, 0, none⟩) x.store.length c2, .slice a3 x.wait.length c3]).toArray) g = some (.cells (Ba cur (i * 2) [.slice (some ⟨g2, 0, none⟩) x.store.length c2, .slice a3 x.wait.length c3]).toArray 86 (0, 0)) := (by first | assumption | rfl | (simp (disch := first | exact xD | fail) [-Option.bind_some, -Aa, -Ab, G2, hg]; done))
   have hvk : D Bz S1 (dw (w2.setRow g (Ba cur (i * 2) [.slice (some ⟨g2, 0, none⟩) x.store.length c2, .slice a3 x.wait.length c3]).toArray)) [i64 v.key, i64 v.tag.t, i64 v.tag.p, .slice av v.past.length cv, .string v.text, .bool v.gone] v := by
    refine hv.Ak fun b hb hbl => ?_
    have q1 : b ≠ g := fun h => hd b hbl hb (h ▸ hSg)
    have q2 : ¬ Ss b := fun h => hd b hbl hb (hS2 b (hSs b h).1).1
    rw [Bg, Ad q1]
    exact (M2.Ah b xN q2).trans (by first | assumption | rfl | (simp (disch := first | exact xD | fail) [-Option.bind_some, qs, E1.Ah]; done))
   refine Ag.bind (AZ hvk) ?_
   rintro ⟨_, w3⟩ ⟨es, rfl, o5, E3⟩
   try dsimp only at es o5 E3
   have zE3 := E3.size
   try simp only [qz] at zE3
   have zds := O.Bv.1 o5
   obtain ⟨ae, ce, rfl, _, _⟩ := zds
   have zE3 := E3.size
   simp only [size_setRow, Ac] at zE3
   have hkw : ∀ b, b < w.heap.size → b ≠ g → ¬ Ss b → hp w3 b = hp w b := by
    intro b q1 q2 q3
    refine (E3.Ah (by simp only [size_setRow, Ac]; omega)).trans ?_
    rw [Bg, Ad q2]
    exact (M2.Ah b xN q3).trans (by first | assumption | rfl | (simp (disch := first | exact xD | fail) [-Option.bind_some, qs, E1.Ah]; done))
   have hkn : ∀ b, b ≠ g → b < w2.heap.size → hp w3 b = hp w2 b := by
    intro b q1 q2
    refine (E3.Ah (by simp only [size_setRow, Ac]; omega)).trans ?_
    rw [Bg, Ad q1]
   have hg3 : hp w3 g = some (.cells (Ba cur (i * 2) [.slice (some ⟨g2, 0, none⟩) x.store.length c2, .slice a3 x.wait.length c3]).toArray 86 (0, 0)) := (E3.Ah (by simp only [size_setRow, Ac]; omega)).trans ((Bg _ _).trans hg2')
   simp (disch := first | exact xD | fail) [-Option.bind_some, qs, -Aa, -Ab, qm, Y1, hg2', E3.Ah]
   refine Ag.bind (O.app (L := Bz) (S := fun b => Sw b) (mx := 1954687338211) (xs := x.wait) (x := v) Cj Ed rfl (by decide) (o3.Ak ?_) (o5.Ak (by intro b hS hb; (try dsimp only at hS); (try simp only [In, qz] at hS hb); first | rfl | (simp (disch := first | exact xF | fail) only [qk]; done))) ?_ At.new (by omega) (by decide) (by decide)) ?_
   ·intro b hS hb
    rw [Ae (by omega)]
    exact hkw b hb (hS2 b (hSw b hS).1).2.1 (hSw b hS).2.1
   ·intro b hb q1 q2
    have := (hSw b q1).2.2
    simp only [In, size_setRow, Ac] at q2
    omega
   rintro ⟨_, w4⟩ ⟨a7, c7, rfl, o7, M7⟩
   have zM7 := M7.size
   try simp only [qz] at zM7
   try dsimp only at o7 M7
   have zM7 := M7.size
   simp only [World.size_alloc] at zM7
   have nW : ∀ b, w.heap.size ≤ b → ¬ Sw b := fun b hb h => by have := (hSw b h).2.2; omega
   have hg4 : hp w4 g = some (.cells (Ba cur (i * 2) [.slice (some ⟨g2, 0, none⟩) x.store.length c2, .slice a3 x.wait.length c3]).toArray 86 (0, 0)) := (M7.Ah g xN (fun h => (hS2 g (hSw g h).1).2.1 rfl)).trans ((Ae (by omega)).trans hg3)
   have hk7 : ∀ b, b < w3.heap.size → ¬ Sw b → hp w4 b = hp w3 b := fun b q1 q2 => (M7.Ah b xN q2).trans (Ae q1)
   have Z1 : hp w4 w.heap.size = some (.cells #[.slice (some ⟨g, 0, none⟩) ns.length c] 81 (0, 0)) := (hk7 _ (by omega) (nW _ (by omega))).trans ((hkn _ (by omega) (by omega)).trans Y1)
   have Z3 : hp w4 (w.heap.size + 1 + 1) = some (.cells #[.slice none 0 0] 81 (0, 0)) := (hk7 _ (by omega) (nW _ (by omega))).trans ((hkn _ (by omega) (by omega)).trans Y3)
   simp (disch := first | exact xD | fail) [-Option.bind_some, qs, -Aa, -Ab, qm, Z1, Z3, hg4, FP]
   have hns : decide (ns.length ≤ i + 1) = false := by simp only [decide_eq_false_iff_not]; omega
   rw [hns] at hQ
   have MB : Mod S w w3 := ((MA.AE (.inr hSg) _).Sq).ex E3
   have MC : Mod S w w4 := Mod.A8 (MB.al _) M7 (fun x _ h => (hS2 x (hSw x h).1).1)
   refine hQ _ ⟨rfl, (put _ _ (addNode x v false) _ (O.FF (v := addNode x v false) (o4.Ak ?_) (o7.Ak ?_) ?_) (by first | assumption | rfl | (simp (disch := first | exact xD | fail) [-Option.bind_some, qs, -Aa, -Ab, hg4]; done)) ?_ ?_).wide ?_, (MC.AE (.inr hSg) _).AE (.inl (by omega)) _⟩
   ·intro b hS hb
    have q1 : b ≠ g ∧ b ≠ w.heap.size + 1 + 1 ∧ ¬ Sw b := by
     rcases hS with h | h
     ·have := hS2 b (hSs b h).1
      exact ⟨this.2.1, by omega, (hSs b h).2.1⟩
     ·simp only [In, Ac] at h
      exact ⟨by omega, by omega, nW b (by omega)⟩
    rw [Ad q1.2.1, Ad q1.1]
    exact (hk7 b (by omega) q1.2.2).trans (hkn b q1.1 hb)
   ·intro b hS hb
    have q1 : b ≠ g ∧ b ≠ w.heap.size + 1 + 1 := by
     rcases hS with h | h
     ·have := hS2 b (hSw b h).1
      exact ⟨this.2.1, by omega⟩
     ·simp only [In, World.size_alloc, size_setRow, Ac] at h
      omega
    rw [Ad q1.2, Ad q1.1]
   ·intro b hb h1 h2
    simp only [In, World.size_alloc, size_setRow, Ac] at h1 h2
    rcases h1 with h | h
    ·have := hSs b h
     rcases h2 with k | k
     ·exact this.2.1 k
     ·omega
    ·rcases h2 with k | k
     ·exact nW b (by omega) k
     ·omega
   ·intro b hb hS hne hn
    have q2 : ¬ Ss b := fun h => hn (hSs b h).1
    have q3 : ¬ Sw b := fun h => hn (hSw b h).1
    rw [Ad (by omega), Ad hne]
    exact (hk7 b (by omega) q3).trans (hkw b hb hne q2)
   ·intro b hb h
    simp only [In, World.size_alloc, size_setRow, Ac] at h
    rcases h with (h | h) | (h | h)
    ·exact .inl (hSs b h).1
    ·exact .inr (by omega)
    ·exact .inl (hSw b h).1
    ·exact .inr (by omega)
   ·intro b h hb
    simp only [In, World.size_alloc, size_setRow, Ac] at h hb ⊢
    rcases h with h | (h | h) | (h | h)
    ·exact .inl h
    ·exact .inl (hS2 b (hSs b h).1).1
    ·exact .inr (by omega)
    ·exact .inl (hS2 b (hSw b h).1).1
    ·exact .inr (by omega)
  ·simp (disch := first | exact xD | fail) [-Option.bind_some, qs, -Aa, -Ab, qm, Y1, Y3, G2, hg, hw, FP, show ¬ (i : Int) < (ns.length : Int) - 1 by omega]
   have hns : decide (ns.length ≤ i + 1) = true := by simp only [decide_eq_true_eq]; omega
   rw [hns] at hQ
   refine hQ _ ⟨rfl, (put _ _ (addNode x v true) _ (O.FF (v := addNode x v true) (o4.Ak ?_) (o3.Ak ?_) ?_) (by first | assumption | rfl | (simp (disch := first | exact xD | fail) [-Option.bind_some, qs, -Aa, -Ab, G2, hg]; done)) ?_ ?_).wide ?_, (MA.AE (.inr hSg) _).AE (.inl (by omega)) _⟩
   ·intro b hS hb
    have q1 : b ≠ g ∧ b ≠ w.heap.size + 1 + 1 := by
     rcases hS with h | h
     ·have := hS2 b (hSs b h).1
      exact ⟨this.2.1, by omega⟩
     ·simp only [In, Ac] at h
      omega
    rw [Ad q1.2, Ad q1.1]
   ·intro b hS hb
    have q1 := hSw b hS
    rw [Ad (by omega), Ad (hS2 b q1.1).2.1]
    exact (M2.Ah b xN q1.2.1).trans (by first | assumption | rfl | (simp (disch := first | exact xD | fail) [-Option.bind_some, qs, E1.Ah]; done))
   ·intro b hb h1 h2
    have := hSw b h2
    simp only [In, Ac] at h1
    rcases h1 with h | h
    ·exact this.2.1 h
    ·omega
   ·intro b hb hS hne hn
    have q2 : ¬ Ss b := fun h => hn (hSs b h).1
    rw [Ad (by omega), Ad hne]
    exact (M2.Ah b xN q2).trans (by first | assumption | rfl | (simp (disch := first | exact xD | fail) [-Option.bind_some, qs, E1.Ah]; done))
   ·intro b hb h
    simp only [In, Ac] at h
    rcases h with (h | h) | h
    ·exact .inl (hSs b h).1
    ·exact .inr (by omega)
    ·exact .inl (hSw b h).1
   ·intro b h hb
    simp only [In, size_setRow, Ac] at h hb ⊢
    rcases h with h | (h | h) | h
    ·exact .inl h
    ·exact .inl (hS2 b (hSs b h).1).1
    ·exact .inr (by omega)
    ·exact .inl (hS2 b (hSw b h).1).1
theorem I5 (ns : List CNode) (i : Nat) (v : Ver) : (F8 ns i v).length = ns.length := by
 unfold F8
 split
 ·split
  ·split
   ·rw [List.length_set]
   ·rfl
  ·rfl
 ·rfl
def Fv (ns : List CNode) (i : Int) : Bool := (decide (0 ≤ i) && decide (i ≤ (ns.length : Int) - 2)) && (match ns[i.toNat]?, ns[i.toNat + 1]? with
 | some n, some m => decide (0 < n.wait.length) && decide (m.wait.length < 6)
 | _, _ => false)
theorem Mt {ns : List CNode} {i : Int} (h : Fv ns i = true) : ∃ (k : Nat) (n m : CNode) (v : Ver) (l : List Ver), i = k ∧ k + 1 < ns.length ∧ ns[k]? = some n ∧ ns[k + 1]? = some m ∧ n.wait = v :: l ∧ m.wait.length < 6 := by
 simp only [Fv, Bool.and_eq_true, decide_eq_true_eq] at h
 obtain ⟨⟨h1, h2⟩, h3⟩ := h
 obtain ⟨k, rfl⟩ := Int.eq_ofNat_of_zero_le h1
 simp only [Int.toNat_natCast] at h3
 obtain ⟨n, hn, _⟩ := Am (l := ns) (k := k) (by omega)
 obtain ⟨m, hm, _⟩ := Am (l := ns) (k := k + 1) (by omega)
 rw [hn, hm] at h3
 simp only [Bool.and_eq_true, decide_eq_true_eq] at h3
 cases hw : n.wait with
 | nil => rw [hw] at h3; simp at h3
 | cons v l => exact ⟨k, n, m, v, l, rfl, by omega, hn, hm, hw, h3.2⟩
theorem Ny {a : Option Addr} {n c : Nat} {i : Int} {S : Nat → Prop} {ns : List CNode} (h4 : ns.length ≤ 1000000) {w : World} (ha : D AU S w [.slice a n c] ns) :
  Ag (EV P 125 #[.agg #[.slice a n c], i64 i] w) fun r => r.1 = .bool (Fv ns i) ∧ Ext w r.2 := by
 obtain ⟨rfl, hm, _⟩ := ha.n
 have hw : IntKind.i64.wrap ((ns.length : Int) - 2) = (ns.length : Int) - 2 := Ho (by omega) (by omega)
 refine Ag.post fun Q hQ => ?_
 refine Ag.enter plain mixed (Mf _ _ _) (by kernel_rfl) (n := 2) (by kernel_rfl) rfl ?_
 simp (disch := first | exact xD | fail) [-Option.bind_some, qs, -Aa, -Ab, hw]
 refine Ag.bind (AK _ _ _ _) ?_
 rintro _ rfl
 cases hi : (decide (0 ≤ i) && decide (i ≤ (ns.length : Int) - 2))
 ·have h1 : Fv ns i = false := by simp only [Fv, hi, Bool.false_and]
  rw [h1] at hQ
  simp (disch := first | exact xD | fail) [-Option.bind_some, -Aa, -Ab]
  exact hQ _ ⟨rfl, xE⟩
 have hi' := hi
 simp only [Bool.and_eq_true, decide_eq_true_eq] at hi'
 obtain ⟨k, rfl⟩ := Int.eq_ofNat_of_zero_le hi'.1
 obtain ⟨x, hx, _⟩ := Am (l := ns) (k := k) (by omega)
 obtain ⟨y, hy, _⟩ := Am (l := ns) (k := k + 1) (by omega)
 have h1 : Fv ns k = (decide (0 < x.wait.length) && decide (y.wait.length < 6)) := by simp only [Fv, hi, Int.toNat_natCast, hx, hy, Bool.true_and]
 rw [h1] at hQ
 obtain ⟨b1, o1, cs1, ha1, A1, D1, _, l1⟩ := ha.at (by decide) hx
 obtain ⟨b2, o2, cs2, ha2, A2, D2, _, l2⟩ := ha.at (by decide) hy
 subst ha1
 cases ha2
 obtain ⟨a2, c2, a3, c3, rfl, h2, h3⟩ := D.node.1 D1
 obtain ⟨a4, c4, a5, c5, rfl, h4, h5⟩ := D.node.1 D2
 have p0 := A1 0 _ rfl
 have p1 := A1 1 _ rfl
 simp only [AO, Nat.add_zero] at p0 p1
 have q0 := A2 0 _ rfl
 have q1 := A2 1 _ rfl
 simp only [AO, Nat.add_zero] at q0 q1
 cases hz : decide (0 < x.wait.length)
 ·rw [hz] at hQ
  simp only [decide_eq_false_iff_not] at hz
  simp (disch := first | exact xD | fail) [-Option.bind_some, qs, -Aa, -Ab, Cr, hz, p1]
  exact hQ _ ⟨rfl, xE⟩
 ·rw [hz] at hQ
  simp only [decide_eq_true_eq] at hz
  simp (disch := first | exact xD | fail) [-Option.bind_some, qs, -Aa, -Ab, Cr, hz, show ((k : Int) + 1).toNat = k + 1 by omega, p1, q1]
  refine hQ _ ⟨?_, xE⟩
  show Value.bool _ = Value.bool _
  congr 1
  rw [Bool.eq_iff_iff]
  simp
  omega
theorem HH {a : Option Addr} {n c : Nat} {S : Nat → Prop} {v : Ver} {l : List Ver} {w : World} (ho : O AB S w [.slice a n c] (v :: l)) :
  ∃ g cs S1, a = some ⟨g, 0, none⟩ ∧ S g ∧ g < w.heap.size ∧ At w g 0 cs ∧ cs.length = 6 ∧ O Bz S1 w cs v ∧ (∀ b, S1 b → S b ∧ b ≠ g ∧ b < w.heap.size) ∧ (∃ S3 css, FN Bz S3 w css l ∧ At w g 6 css.flatten ∧ ∀ b, S3 b → S b ∧ ¬ S1 b ∧ b ≠ g ∧ b < w.heap.size) ∧
   True := by
 obtain ⟨rfl, hm, _⟩ := ho.n
 obtain ⟨css, hO, hE, hb, hmx⟩ := ho.un
 obtain ⟨hl, hn9, hO⟩ := hO
 simp only [List.length_cons] at hl hn9 hm hmx
 rcases hO with ⟨h1, h0⟩ | ⟨g, cap, cur, h1, _, hh, hc, hcm, hcs, ht⟩
 ·simp at h0
 cases h1
 simp only [List.length_cons] at hc hcs ht
 have hb' := hb g (by simp [Ax])
 obtain ⟨cl1, cl2⟩ := hE.lay
 cases css with
 | nil => simp at cl1
 | cons cs css =>
 obtain ⟨S1, S2, L1, L2, k1, k2⟩ := hE.cut 1
 simp only [List.take_succ_cons, List.take_zero, List.drop_succ_cons, List.drop_zero] at L1 L2
 have hcs6 : cs.length = 6 := cl2 cs List.mem_cons_self
 rw [List.flatten_cons] at hl ht
 have hnl : css.flatten.length = l.length * 6 := by rw [List.length_append, hcs6, AX] at hl; omega
 rw [AX] at ht hcs
 have hA0 : At w g 0 (cs ++ css.flatten) := by
  intro j u hu
  rw [hh, Bt, ← CX, Nat.zero_add]
  rw [← ht, List.getElem?_take] at hu
  split at hu
  ·simpa using hu
  ·contradiction
 have hA1 : At w g 0 cs := fun j u hu => hA0 j u (by rw [List.getElem?_append_left (List.getElem?_eq_some_iff.1 hu).1]; exact hu)
 have hA2 : At w g 6 css.flatten := by
  intro j u hu
  have := hA0 (6 + j) u (by rw [List.getElem?_append_right (by omega), hcs6, Nat.add_sub_cancel_left]; exact hu)
  rwa [Nat.zero_add] at this
 have ov : O Bz S1 w cs v := by
  obtain ⟨bss, q1, q2, q3⟩ := L1
  cases bss with
  | nil => exact q1.elim
  | cons bl bss =>
   cases bss with
   | nil => exact ⟨bl, q1.1, by simpa using q2, fun b hb => q3 b (by simpa using hb)⟩
   | cons _ _ => exact q1.2.elim
 refine ⟨g, cs, S1, rfl, hb'.1, hb'.2, hA1, hcs6, ov, fun b h => ⟨(k1 b h).1.1, fun e => (k1 b h).1.2.1 (by simp [Ax, e]), (k1 b h).2.2⟩, ⟨S2, css, L2, hA2, fun b h => ⟨(k2 b h).1.1, (k2 b h).2.1, fun e => (k2 b h).1.2.1 (by simp [Ax, e]), (k2 b h).2.2⟩⟩, trivial⟩
def Gh (ns : List CNode) (k : Nat) : List CNode := match ns[k]? with
 | some n => (match n.wait with
  | v :: l => F8 (ns.set k ⟨n.store, l⟩) (k + 1) v
  | [] => ns)
 | none => ns
theorem JP {ns : List CNode} {k : Nat} {n : CNode} {v : Ver} {l : List Ver} (hn : ns[k]? = some n) (hw : n.wait = v :: l) : Gh ns k = F8 (ns.set k ⟨n.store, l⟩) (k + 1) v := by
 rw [Gh, hn]
 simp only [hw]
theorem Mu {a : Option Addr} {n c k : Nat} {S : Nat → Prop} {ns : List CNode} {x y : CNode} {v : Ver} {l : List Ver} {w : World} (hl4 : ns.length ≤ 1000) (hvk : 0 ≤ v.key ∧ v.key ≤ 3) (ys4 : y.store.length = 4) (hx : ns[k]? = some x) (hy : ns[k + 1]? = some y) (hxw : x.wait = v :: l) (hy6 : y.wait.length < 6) (ho : O AU S w [.slice a n c] ns) :
  Ag (EV P 126 #[.agg #[.slice a n c], i64 k] w) fun r => r.1 = .agg #[.slice a ns.length c] ∧ O AU (fun b => S b ∨ In w.heap.size r.2.heap.size b) r.2 [.slice a ns.length c] (Gh ns k) ∧ Mod S w r.2 := by
 obtain ⟨rfl, hm, _⟩ := ho.n
 have ho := ho.wide (S' := fun b => S b ∧ b < w.heap.size) (fun b h1 h2 => ⟨h1, h2⟩)
 have hkl : k < ns.length := (List.getElem?_eq_some_iff.1 hx).1
 rw [JP hx hxw]
 obtain ⟨g, cur, ds, S2, rfl, hSg, hgl, hg, hle, hx1, hS2, put⟩ := ho.NY (by decide) hx
 obtain ⟨a2, c2, a3, c3, Ss, Sw, rfl, o2, o3, hSs, hSw⟩ := O.KK hx1
 simp only [AO] at hg hle put
 rw [hxw] at o3 hg
 obtain ⟨gw, cs, S1, rfl, hSgw, hgwl, Aw, hcs6, ov, hS1, ⟨S3, css, L3, A3, hS3⟩, _⟩ := HH o3
 have ov' := ov
 obtain ⟨av, cv, hcs, ov1, ovt⟩ := O.Bv.1 ov
 subst hcs
 have p0 := Aw 0 _ rfl
 have p1 := Aw 1 _ rfl
 have p2 := Aw 2 _ rfl
 have p3 := Aw 3 _ rfl
 have p4 := Aw 4 _ rfl
 have p5 := Aw 5 _ rfl
 simp only [Nat.add_zero] at p0 p1 p2 p3 p4 p5
 have hne : gw ≠ g := (hS2 gw (hSw gw hSgw).1).2.1
 refine Ag.post fun Q hQ => ?_
 refine Ag.enter plain mixed (KN _ _ _) (by kernel_rfl) (n := 2) (by kernel_rfl) rfl ?_
 obtain ⟨q, d, ct, hq6⟩ : ∃ q d, (∀ w', sl P 42 (.slice (some ⟨gw, 0, none⟩) (l.length + 1) c3) (some (i64 1)) none none w' = some (.slice (some ⟨gw, q, none⟩) l.length d, w')) ∧ (0 < l.length → q = 6) := by
  by_cases hc1 : c3 = 1
  ·have h0 : l.length = 0 := by have := o3.clip.1; simp only [List.length_cons] at this; omega
   subst hc1
   exact ⟨0, 0, fun w' => by have := Uz (P := P) Cj (b := gw) (o := 0) (len := l.length + 1) (by omega) w'; exact this, fun h => by omega⟩
  ·exact ⟨6, c3 - 1, fun w' => TA (P := P) Cj (b := gw) (o := 0) (len := l.length + 1) (cap := c3) (n := 1) (by omega) (by omega) (by simp; omega) w', fun _ => rfl⟩
 have hlm : l.length ≤ 1954687338211 := by have := o3.n.2.1; simp only [List.length_cons] at this; omega
 have ap : ∀ (gE : Nat) (wb : World), Ext w wb → hp wb gE = some (.cells #[] 49 (0, 0)) → w.heap.size ≤ gE →
   Ag (Ar P #[42, 42] 42 #[.slice (some ⟨gE, 0, none⟩) 0 0, .slice (some ⟨gw, q, none⟩) l.length d] wb) fun r => ∃ a' c', r.1 = .slice a' l.length c' ∧ O AB (fun b => S3 b ∨ (gE ≤ b ∧ b < r.2.heap.size)) r.2 [.slice a' l.length c'] l ∧ Mod (fun b => b = gE) wb r.2 := by
  intro gE wb Eb hE hge
  have hEl := Aq hE
  by_cases hl0 : l.length = 0
  ·have hnil : l = [] := List.eq_nil_of_length_eq_zero hl0
   rw [hnil]
   have an := He (P := P) (ty := 42) Cj (some ⟨gE, 0, none⟩) (some ⟨gw, q, none⟩) 0 0 d (by omega) wb
   exact ⟨_, an, _, _, rfl, (O.empty (L := Bz) (mx := 1954687338211) hE).wide (fun b (h : b = gE) hb => .inr ⟨by omega, hb⟩), Mod.rfl⟩
  ·obtain rfl := hq6 (by omega)
   refine Ag.mono (O.apps (L := Bz) (mx := 1954687338211) (xs := []) (ys := l) (S1 := S3) (ty := 42) (m := l.length) (c := d) Cj Ed rfl (by decide) (O.empty (g := gE) hE) (L3.Ak fun b _ hb => Eb.Ah hb) ?_ (A3.mono (Ext.Ak Eb)) rfl (by omega) (by simp; omega) (by decide) (by decide)) ?_
   ·intro b hb h1 h2
    have := (hS3 b h2).2.2.2
    have h1 : b = gE := h1
    omega
   ·rintro r ⟨a', c', h1, h2, h3⟩
    simp only [List.length_nil, Nat.zero_add, List.nil_append] at h1 h2
    rw [h1] at h2
    refine ⟨a', c', h1, h2.wide ?_, h3.KE ?_⟩
    ·intro b hb hb2
     rcases hb with h | h | h
     ·have h : b = gE := h
      exact .inr (by omega)
     ·exact .inl h
     ·exact .inr (by have := Eb.size; omega)
    ·intro b hb h
     exact h
 simp (disch := first | exact xD | fail) [-Option.bind_some, qs, -Aa, -Ab, qm, Cr, AW, hg, ct, p0, p1, p2, p3, p4, p5]
 refine Ag.bind (ap _ _ xE (by first | assumption | rfl | (simp (disch := first | exact xD | fail) [-Option.bind_some, qs, -Aa, -Ab]; done)) (by omega)) ?_
 rintro ⟨_, w2⟩ ⟨a7, c7, rfl, o7, M2⟩
 have zM2 := M2.size
 try simp only [qz] at zM2
 try dsimp only at o7 M2
 have zM2 := M2.size
 simp only [World.size_alloc, size_setRow, Ac] at zM2
 have F2 : Ext w w2 := Mod.after xE M2 (fun b h1 h2 => by omega)
 have G2 : hp w2 g = some (.cells (Ba cur (k * 2) [.slice a2 x.store.length c2, .slice (some ⟨gw, 0, none⟩) (v :: l).length c3]).toArray 86 (0, 0)) := (F2.Ah hgl).trans hg
 have Y1 : hp w2 w.heap.size = some (.cells #[.slice (some ⟨g, 0, none⟩) ns.length c] 81 (0, 0)) := (M2.Ah _ xN (by omega)).trans (by first | assumption | rfl | (simp (disch := first | exact xD | fail) [-Option.bind_some, qs, -Aa, -Ab]; done))
 have Y2 : hp w2 (w.heap.size + 1) = some (.cells #[.slice none 0 0] 81 (0, 0)) := (M2.Ah _ xN (by omega)).trans (by first | assumption | rfl | (simp (disch := first | exact xD | fail) [-Option.bind_some, qs, -Aa, -Ab]; done))
 have Y3 : hp w2 (w.heap.size + 1 + 1) = some (.cells #[i64 v.key, i64 v.tag.t, i64 v.tag.p, .slice av v.past.length cv, .string v.text, .bool v.gone] 49 (0, 0)) := (M2.Ah _ xN (by omega)).trans (by first | assumption | rfl | (simp (disch := first | exact xD | fail) [-Option.bind_some, qs, -Aa, -Ab]; done))
 simp (disch := first | exact xD | fail) [-Option.bind_some, qs, -Aa, -Ab, qm, Y1, Y3, G2]
 obtain ⟨W3, hW3⟩ : ∃ W3 : World, W3 = w2.setRow g (Ba cur (k * 2) [.slice a2 x.store.length c2, .slice a7 l.length c7]).toArray := ⟨_, rfl⟩
 rw [← hW3]
 have sW : W3.heap.size = w2.heap.size := by rw [hW3, size_setRow]
 have kW : ∀ b, b ≠ g → hp W3 b = hp w2 b := fun b q => by rw [hW3, Ad q]
 have gW : hp W3 g = some (.cells (Ba cur (k * 2) [.slice a2 x.store.length c2, .slice a7 l.length c7]).toArray 86 (0, 0)) := by
  rw [hW3]
  exact (by first | assumption | rfl | (simp (disch := first | exact xD | fail) [-Option.bind_some, -Aa, -Ab, G2]; done))
 have MM : Mod S w W3 := by
  rw [hW3]
  exact (Mod.of F2 S).AE (.inr hSg.1) _
 have oW := put W3 _ ⟨x.store, l⟩ _ (O.FF (v := ⟨x.store, l⟩) (o2.Ak (w' := W3) (fun b hS hb => (kW b (hS2 b (hSs b hS).1).2.1).trans (F2.Ah hb))) (o7.Ak (w' := W3) (fun b hS hb => kW b (by rcases hS with h | h; exact (hS3 b h).2.2.1 |> fun q e => (hS2 b (hSw b (hS3 b h).1).1).2.1 e; omega))) (fun b _ h1 h2 => by rcases h2 with h | h; exact (hSs b h1).2.1 (hS3 b h).1; have := (hSs b h1).2.2; omega)) gW
  (fun b hb _ hne' hn => (kW b hne').trans (F2.Ah hb)) (fun b _ h => by rcases h with h | h | h; exact .inl (hSs b h).1; exact .inl (hSw b (hS3 b h).1).1; exact .inr (by omega))
 have hv3 := ov'.d.Ak (w' := W3) (fun b hS hb => (kW b (hS2 b (hSw b (hS1 b hS).1).1).2.1).trans (F2.Ah hb))
 obtain ⟨ns', hns'⟩ : ∃ ns' : List CNode, ns' = ns.set k ⟨x.store, l⟩ := ⟨_, rfl⟩
 have hl' : ns'.length = ns.length := by rw [hns', List.length_set]
 have hy' : ns'[k + 1]? = some y := by rw [hns', List.getElem?_set_ne (by omega)]; exact hy
 rw [← hns'] at oW hQ
 rw [← hl'] at oW hQ
 rw [← hl']
 refine Ag.bind (I4 (i := k + 1) oW hv3 ?_ hy' hvk.1 (by omega) (by omega) (by omega)) ?_
 ·intro b hb h1 h
  have q := hS1 b h1
  rcases h with h | h | h | h
  ·exact h.2 (hSw b q.1).1
  ·exact (hSs b h).2.1 q.1
  ·exact (hS3 b h).2.1 h1
  ·have := q.2.2
   omega
 rintro ⟨_, w5⟩ ⟨rfl, o6, M5⟩
 have zM5 := M5.size
 try simp only [] at zM5
 try dsimp only at o6 M5
 have zM5 := M5.size
 have Y5 : hp w5 (w.heap.size + 1) = some (.cells #[.slice none 0 0] 81 (0, 0)) := by
  refine (M5.Ah _ (by omega) ?_).trans ((kW _ (by omega)).trans Y2)
  rintro (h | h | h | h)
  ·have := h.1.2; omega
  ·have := (hSs _ h).2.2; omega
  ·have := (hS3 _ h).2.2.2; omega
  ·omega
 simp (disch := first | exact xD | fail) [-Option.bind_some, -Aa, -Ab, qm, Y5]
 have sub : ∀ b, (((S b ∧ b < w.heap.size) ∧ ¬ S2 b) ∨ (Ss b ∨ (S3 b ∨ (w.heap.size + 1 + 1 + 1 ≤ b ∧ b < w2.heap.size)))) → S b ∨ (w.heap.size + 1 + 1 + 1 ≤ b ∧ b < w2.heap.size) := by
  rintro b (h | h | h | h)
  ·exact .inl h.1.1
  ·exact .inl (hS2 b (hSs b h).1).1.1
  ·exact .inl (hS2 b (hSw b (hS3 b h).1).1).1.1
  ·exact .inr h
 refine hQ _ ⟨rfl, (o6.Ak ?_).wide ?_, (Mod.A8 MM M5 ?_).AE (.inl (by omega)) _⟩
 ·intro b hS hb
  have : b ≠ w.heap.size + 1 := by
   rintro rfl
   rcases hS with (h | h | h | h) | h
   ·have := h.1.2; omega
   ·have := (hSs _ h).2.2; omega
   ·have := (hS3 _ h).2.2.2; omega
   ·omega
   ·simp only [In] at h; omega
  rw [Ad this]
 ·intro b h1 h2
  simp only [In, size_setRow] at *
  rcases h1 with h | h
  ·rcases sub b h with h | h
   ·exact .inl h
   ·exact .inr (by omega)
  ·exact .inr (by omega)
 ·intro b hb h
  rcases sub b h with h | h
  ·exact h
  ·omega
theorem HO {B g p : Nat} (hp0 : p ≤ 950000000000) {w : World} (hr : R w B g p) :
  Ag (EV P 86 #[pt g 0] w) fun r => ∃ (t : Tag) (p' : Nat), r.1 = t.v ∧ 0 ≤ t.t ∧ t.t ≤ 9 ∧ p' ≤ p + 3 ∧ R r.2 B g p' ∧ Mod (fun b => b = g) w r.2 := by
 have hl := hr.lt
 refine Ag.post fun Q hQ => ?_
 refine Ag.enter plain mixed (K8 _ _) (by kernel_rfl) (n := 1) (by kernel_rfl) rfl ?_
 simp (disch := first | exact xD | fail) [-Option.bind_some, -Aa, -Ab]
 refine Ag.bind (Al (k := 3) (by omega) (by omega) (by omega) (hr.ext xE)) ?_
 rintro ⟨_, w1⟩ ⟨m, rfl, hm, R1, M1⟩
 have zM1 := M1.size
 try simp only [qz] at zM1
 try dsimp only at R1 M1
 have zM1 := M1.size
 simp only [World.size_alloc] at zM1
 have X1 : hp w1 w.heap.size = some (.cells #[i64 0, i64 0] 36 (0, 0)) := (M1.Ah w.heap.size xN (by omega)).trans (by first | assumption | rfl | (simp (disch := first | exact xD | fail) [-Option.bind_some, qs, -Aa, -Ab]; done))
 have N1 : Mod (fun b => b = g) w w1 := (Mod.of xE _).tr M1
 cases hz : ((m : Int) == 0)
 ·simp (disch := first | exact xD | fail) [-Option.bind_some, -Aa, -Ab, hz]
  refine Ag.bind (Al (k := 9) (by omega) (by omega) (by omega) (R1.ext xE)) ?_
  rintro ⟨_, w2⟩ ⟨m2, rfl, hm2, R2, M2⟩
  have zM2 := M2.size
  try simp only [] at zM2
  try dsimp only at R2 M2
  have zM2 := M2.size
  simp (disch := first | exact xD | fail) [-Option.bind_some, qs, -Aa, -Ab]
  refine Ag.bind (Al (k := 3) (by omega) (by omega) (by omega) (R2.ext xE)) ?_
  rintro ⟨_, w3⟩ ⟨m3, rfl, hm3, R3, M3⟩
  have zM3 := M3.size
  try simp only [] at zM3
  try dsimp only at R3 M3
  have zM3 := M3.size
  have X3 : hp w3 w.heap.size = some (.cells #[i64 0, i64 0] 36 (0, 0)) := (M3.Ah w.heap.size xN (by omega)).trans ((M2.Ah w.heap.size xN (by omega)).trans X1)
  have hw : IntKind.i64.wrap (1 + (m2 : Int)) = 1 + (m2 : Int) := Ho (by omega) (by omega)
  simp (disch := first | exact xD | fail) [-Option.bind_some, -Aa, -Ab, qm, X3]
  have N3 := (N1.tr M2).tr M3
  refine hQ _ ⟨⟨1 + m2, m3⟩, p + 1 + 1 + 1, rfl, ?_, ?_, by omega, R3.Ak (fun b h hb => Ad (by omega)), N3.AE (.inl (by omega)) _⟩
  ·show (0 : Int) ≤ 1 + m2
   omega
  ·show (1 : Int) + m2 ≤ 9
   omega
 ·simp (disch := first | exact xD | fail) [-Option.bind_some, -Aa, -Ab, qm, hz, X1]
  exact hQ _ ⟨⟨0, 0⟩, p + 1, rfl, by decide, by decide, by omega, R1.Ak (fun b h hb => Ad (by omega)), N1.AE (.inl (by omega)) _⟩
theorem Gs {B g p b k c : Nat} {strs : List ByteArray} (hk : 1 ≤ k) (hk2 : k ≤ 1000000) (hp0 : p ≤ 1000000000000) {w : World} (hl : strs.length = k) (hA : At w b 0 (strs.map Value.string)) (hbg : b ≠ g) (hr : R w B g p) :
  Ag (EV P 104 #[pt g 0, .slice (some ⟨b, 0, none⟩) k c] w) fun r => ∃ n ∈ strs, r.1 = .string n ∧ R r.2 B g (p + 1) ∧ Mod (fun b => b = g) w r.2 := by
 refine Ag.post fun Q hQ => ?_
 refine Ag.enter plain mixed (JG _ _ _) (by kernel_rfl) (n := 2) (by kernel_rfl) rfl ?_
 simp (disch := first | exact xD | fail) [-Option.bind_some, -Aa, -Ab]
 refine Ag.bind (Al hk hk2 hp0 hr) ?_
 rintro ⟨_, w1⟩ ⟨m, rfl, hm, R1, M1⟩
 have zM1 := M1.size
 try simp only [] at zM1
 try dsimp only at R1 M1
 obtain ⟨n, hn, _⟩ := Am (l := strs) (k := m) (by omega)
 have hA1 := hA m (.string n) (by rw [List.getElem?_map, hn]; rfl)
 have hbl : b < w.heap.size := by
  rcases Nat.lt_or_ge b w.heap.size with h | h
  ·exact h
  ·rw [hp, Array.getElem?_eq_none h] at hA1; simp [BC] at hA1
 rw [Nat.zero_add] at hA1
 simp (disch := first | exact xD | fail) [-Option.bind_some, -Aa, -Ab, Ta, hA1, M1.Ah]
 exact hQ _ ⟨n, List.mem_of_getElem? hn, rfl, R1, M1⟩
def Ll : List ByteArray := [⟨#[]⟩, ⟨#[97]⟩, ⟨#[98]⟩, ⟨#[120, 35, 49]⟩, ⟨#[61]⟩, ⟨#[45]⟩, ⟨#[108, 111, 110, 103, 116, 101, 120, 116]⟩, ⟨#[122, 122]⟩]
theorem GU {B g p : Nat} (hp0 : p ≤ 900000000000) {w : World} (hr : R w B g p) :
  Ag (EV P 117 #[pt g 0] w) fun r => ∃ n ∈ Ll, r.1 = .string n ∧ R r.2 B g (p + 1) ∧ Mod (fun b => b = g) w r.2 := by
 have hl := hr.lt
 refine Ag.post fun Q hQ => ?_
 refine Ag.enter plain mixed (Kr _ _) (by kernel_rfl) (n := 1) (by kernel_rfl) rfl ?_
 simp (disch := first | exact xD | fail) [-Option.bind_some, -Aa, -Ab]
 refine Ag.bind (Gs (strs := Ll) (k := 8) (by omega) (by omega) (by omega) rfl (At.new (cs := Ll.map Value.string)) (by omega) (hr.ext xE)) ?_
 rintro ⟨_, w1⟩ ⟨n, hn, rfl, R1, M1⟩
 have zM1 := M1.size
 try simp only [qz] at zM1
 try dsimp only at R1 M1
 simp (disch := first | exact xD | fail) [-Option.bind_some, -Aa, -Ab]
 exact hQ _ ⟨n, hn, rfl, R1, (Mod.of xE _).tr M1⟩
theorem JQ {B g p : Nat} (hp0 : p ≤ 900000000000) {w : World} (hr : R w B g p) :
  Ag (EV P 53 #[pt g 0] w) fun r => ∃ (t : Tag) (p' : Nat), r.1 = t.v ∧ p' ≤ p + 4 ∧ R r.2 B g p' ∧ Mod (fun b => b = g) w r.2 := by
 have hl := hr.lt
 refine Ag.post fun Q hQ => ?_
 refine Ag.enter plain mixed (IU _ _) (by kernel_rfl) (n := 1) (by kernel_rfl) rfl ?_
 simp (disch := first | exact xD | fail) [-Option.bind_some, -Aa, -Ab]
 refine Ag.bind (Al (k := 8) (by omega) (by omega) (by omega) (hr.ext xE)) ?_
 rintro ⟨_, w1⟩ ⟨m, rfl, hm, R1, M1⟩
 have zM1 := M1.size
 try simp only [qz] at zM1
 try dsimp only at R1 M1
 have zM1 := M1.size
 simp only [World.size_alloc] at zM1
 have X1 : hp w1 w.heap.size = some (.cells #[i64 0, i64 0] 36 (0, 0)) := (M1.Ah w.heap.size xN (by omega)).trans (by first | assumption | rfl | (simp (disch := first | exact xD | fail) [-Option.bind_some, qs, -Aa, -Ab]; done))
 have N1 : Mod (fun b => b = g) w w1 := (Mod.of xE _).tr M1
 have y1 := R1.lt
 cases hz : ((m : Int) == 0)
 ·simp (disch := first | exact xD | fail) [-Option.bind_some, -Aa, -Ab, hz]
  refine Ag.bind (HO (by omega) (R1.ext xE)) ?_
  rintro ⟨_, w2⟩ ⟨t, p2, rfl, _, _, hp2, R2, M2⟩
  have zM2 := M2.size
  try simp only [] at zM2
  try dsimp only at R2 M2
  have zM2 := M2.size
  have X2 : hp w2 w.heap.size = some (.cells #[i64 0, i64 0] 36 (0, 0)) := (M2.Ah w.heap.size xN (by omega)).trans X1
  simp (disch := first | exact xD | fail) [-Option.bind_some, -Aa, -Ab, qm, X2]
  refine hQ _ ⟨t, p2, rfl, by omega, R2.Ak (fun b h hb => Ad (by omega)), (N1.tr M2).AE (.inl (by omega)) _⟩
 ·simp (disch := first | exact xD | fail) [-Option.bind_some, -Aa, -Ab, hz]
  refine Ag.bind (Bf (ints := [0, -1, 1000, 999]) (k := 4) (by omega) (by omega) (by omega) rfl (At.new (cs := [i64 0, i64 (-1), i64 1000, i64 999])) (by omega) (R1.ext xE)) ?_
  rintro ⟨_, w2⟩ ⟨n1, _, rfl, R2, M2⟩
  have zM2 := M2.size
  try simp only [qz] at zM2
  try dsimp only at R2 M2
  have zM2 := M2.size
  simp only [World.size_alloc] at zM2
  simp (disch := first | exact xD | fail) [-Option.bind_some, -Aa, -Ab]
  have N2 := (N1.al _).tr M2
  refine Ag.bind (Bf (ints := [0, 1, 3, -1]) (k := 4) (by omega) (by omega) (by omega) rfl (At.new (cs := [i64 0, i64 1, i64 3, i64 (-1)])) (by omega) (R2.ext xE)) ?_
  rintro ⟨_, w3⟩ ⟨n2, _, rfl, R3, M3⟩
  have zM3 := M3.size
  try simp only [qz] at zM3
  try dsimp only at R3 M3
  have zM3 := M3.size
  simp only [World.size_alloc] at zM3
  have N3 := (N2.al _).tr M3
  have X3 : hp w3 w.heap.size = some (.cells #[i64 0, i64 0] 36 (0, 0)) := (M3.Ah w.heap.size xN (by omega)).trans ((Ae (by omega)).trans ((M2.Ah w.heap.size xN (by omega)).trans ((Ae (by omega)).trans X1)))
  simp (disch := first | exact xD | fail) [-Option.bind_some, -Aa, -Ab, qm, X3]
  refine hQ _ ⟨⟨n1, n2⟩, p + 1 + 1 + 1, rfl, by omega, R3.Ak (fun b h hb => Ad (by omega)), N3.AE (.inl (by omega)) _⟩
theorem HP {w : World} : Ag (EV P 38 #[] w) fun r => ∃ a c, r.1 = .agg #[.slice a 4 c] ∧ O Bj (In w.heap.size r.2.heap.size) r.2 [.slice a 4 c] (List.replicate 4 ⟨0, 0⟩) ∧ Ext w r.2 := by
 refine Ag.post fun Q hQ => ?_
 refine Ag.enter plain mixed (KX _) (by kernel_rfl) (n := 0) (by kernel_rfl) rfl ?_
 simp (disch := first | exact xD | fail) [-Option.bind_some, -Aa, -Ab]
 refine Ag.bind (O.make (L := EN) (mx := 8796093021952) (n := 4) (x0 := (⟨0, 0⟩ : Tag)) CD Gt rfl (by decide) (fun w => O.tag.2 rfl) (by decide) (by decide) (by decide)) ?_
 rintro ⟨_, w1⟩ ⟨rfl, o1, z1, E1⟩
 have zE1 := E1.size
 try simp only [qz] at zE1
 try dsimp only at o1 z1 E1
 have X1 := E1.Ah (b := w.heap.size) (by simp)
 simp only [World.size_alloc] at z1 o1
 simp (disch := first | exact xD | fail) [-Option.bind_some, qs, -Aa, -Ab, qm, E1.Ah]
 exact hQ _ ⟨_, _, rfl, (o1.Ak (by intro b hS hb; (try dsimp only at hS); (try simp only [In, qz] at hS hb); first | rfl | (simp (disch := first | exact xF | fail) only [qk]; done))).wide xV, xE⟩
theorem Lm {B g b2 b3 c W0 : Nat} {a : Option Addr} {key : Int} {txt : ByteArray} (hk0 : 0 ≤ key) (hk3 : key ≤ 3) (htx : txt.size ≤ 1000) (h23 : b2 < b3) (hg2 : g < b2) (h0 : W0 ≤ b2) (hW0 : g < W0) :
  ∀ (d k : Nat) (e : Env) (w : World) (p : Nat) (mx : Int) (ts : List Tag) (S : Nat → Prop), k + d = 4 → p ≤ 900000000000 + 3 * k → 0 ≤ mx → mx ≤ 9 → ts.length = 4 → e 0 = pt g 0 → e 2 = pt b2 0 → e 3 = pt b3 0 → e 4 = i64 mx → e 5 = i64 k →
   hp w b2 = some (.cells #[i64 0, i64 0, i64 0, .slice none 0 0, .string ⟨#[]⟩, .bool false] 49 (0, 0)) →
   hp w b3 = some (.cells #[i64 key, i64 0, i64 0, .slice a 4 c, .string txt, .bool false] 49 (0, 0)) → O Bj S w [.slice a 4 c] ts → (∀ b, S b → W0 ≤ b ∧ b ≠ b2 ∧ b ≠ b3) → R w B g p →
   Ag (Dz e w) fun r => ∃ (v : Ver) (ds : List Value) (p' : Nat), r.1 = .agg ds.toArray ∧ O Bz (fun b => W0 ≤ b) r.2 ds v ∧ 0 ≤ v.key ∧ v.key ≤ 3 ∧ v.past.length = 4 ∧ p' ≤ p + 3 * d + 20 ∧ R r.2 B g p' ∧ Mod (fun b => b = g ∨ W0 ≤ b) w r.2 := by
 intro d
 induction d with
 | zero =>
  intro k e w p mx ts S hd hp0 hm0 hm9 hts e0 e2 e3 e4 e5 X2 X3 ho hS hr
  rw [Fk]
  obtain rfl : k = 4 := by omega
  have hl := hr.lt
  have y2 := Aq X2
  have y3 := Aq X3
  refine Ag.post fun Q hQ => ?_
  simp (disch := first | exact xD | fail) [-Option.bind_some, qs, -Aa, -Ab, qm, e0, e2, e3, e4, e5, X2, X3]
  refine Ag.bind (Al (k := 3) (by omega) (by omega) (by omega) (hr.ext xE)) ?_
  rintro ⟨_, w1⟩ ⟨m1, rfl, hm1, R1, M1⟩
  have zM1 := M1.size
  try simp only [qz] at zM1
  try dsimp only at R1 M1
  have zM1 := M1.size
  simp (disch := first | exact xD | fail) [-Option.bind_some, qs, -Aa, -Ab, qm, e0, e2, e3, e4, e5, X2, X3, M1.Ah]
  refine Ag.bind (Al (k := 3) (by omega) (by omega) (by omega) (R1.ext xE)) ?_
  rintro ⟨_, w2⟩ ⟨m2, rfl, hm2, R2, M2⟩
  have zM2 := M2.size
  try simp only [qz] at zM2
  try dsimp only at R2 M2
  have zM2 := M2.size
  have Y3 : hp w2 b3 = hp w b3 := (M2.Ah b3 xN (by omega)).trans ((M1.Ah b3 xN (by omega)).trans (by first | assumption | rfl | (simp (disch := first | exact xD | fail) [-Option.bind_some, qs, e0, e2, e3, e4, e5, X2, X3, M1.Ah, M2.Ah]; done)))
  have Y2 : hp w2 b2 = hp w b2 := (M2.Ah b2 xN (by omega)).trans ((M1.Ah b2 xN (by omega)).trans (by first | assumption | rfl | (simp (disch := first | exact xD | fail) [-Option.bind_some, qs, e0, e2, e3, e4, e5, X2, X3, M1.Ah, M2.Ah]; done)))
  simp (disch := first | exact xD | fail) [-Option.bind_some, qs, -Aa, -Ab, qm, e0, e2, e3, e4, e5, Y3, X3, X2, M1.Ah, M2.Ah]
  obtain ⟨W3, hW3⟩ : ∃ W3 : World, W3 = w2.setRow b3 #[i64 key, i64 (mx + 1 + m1), i64 m2, .slice a 4 c, .string txt, .bool false] := ⟨_, rfl⟩
  rw [← hW3]
  have sW : W3.heap.size = w2.heap.size := by rw [hW3, size_setRow]
  have kW : ∀ b, b ≠ b3 → hp W3 b = hp w2 b := fun b q => by rw [hW3, Ad q]
  have gW : hp W3 b3 = some (.cells #[i64 key, i64 (mx + 1 + m1), i64 m2, .slice a 4 c, .string txt, .bool false] 49 (0, 0)) := by
   rw [hW3]
   exact (by first | assumption | rfl | (simp (disch := first | exact xD | fail) [-Option.bind_some, qs, -Aa, -Ab, qm, Y3, X3, e0, e2, e3, e4, e5, X2, M1.Ah, M2.Ah]; done))
  have N2 : Mod (fun b => b = g ∨ W0 ≤ b) w W3 := by
   rw [hW3]
   exact (((Mod.of xE (fun b => b = g ∨ W0 ≤ b)).tr (M1.KE (fun b _ h => .inl h))).tr (M2.KE (fun b _ h => .inl h))).AE (.inr (.inr (by omega))) _
  refine Ag.bind (Al (k := 6) (by omega) (by omega) (by omega) (R2.Ak (fun b h hb => kW b (by omega)))) ?_
  rintro ⟨_, w4⟩ ⟨m3, rfl, hm3, R4, M4⟩
  have zM4 := M4.size
  try simp only [qz] at zM4
  try dsimp only at R4 M4
  have zM4 := M4.size
  have Z3 : hp w4 b3 = some (.cells #[i64 key, i64 (mx + 1 + m1), i64 m2, .slice a 4 c, .string txt, .bool false] 49 (0, 0)) := (M4.Ah b3 xN (by omega)).trans gW
  have Z2 : hp w4 b2 = some (.cells #[i64 0, i64 0, i64 0, .slice none 0 0, .string ⟨#[]⟩, .bool false] 49 (0, 0)) := (M4.Ah b2 xN (by omega)).trans ((kW b2 (by omega)).trans (Y2.trans X2))
  have N4 := N2.tr (M4.KE (S' := fun b => b = g ∨ W0 ≤ b) (fun b _ h => .inl h))
  have o4 : O Bj S w4 [.slice a 4 c] ts := ho.Ak fun b hS' hb => by
   have q := hS b hS'
   exact (M4.Ah b (by omega) (by omega)).trans ((kW b q.2.2).trans ((M2.Ah b (by omega) (by omega)).trans ((M1.Ah b xN (by omega)).trans (by first | assumption | rfl | (simp (disch := first | exact xD | fail) [-Option.bind_some, qs, e0, e2, e3, e4, e5, X2, X3, M1.Ah, M2.Ah, M4.Ah]; done)))))
  cases hz : ((m3 : Int) == 0)
  ·simp (disch := first | exact xD | fail) [-Option.bind_some, qs, -Aa, -Ab, qm, hz, e0, e2, e3, e4, e5, Z3, Z2, Fl, X2, X3, M1.Ah, M2.Ah, M4.Ah]
   refine hQ _ ⟨⟨key, ⟨mx + 1 + m1, m2⟩, ts, txt, false⟩, [_, _, _, _, _, _], p + 1 + 1 + 1, rfl, ?_, hk0, hk3, hts, by omega, R4.Ak (fun b h hb => Ad (by omega)), N4.AE (.inr (.inr h0)) _⟩
   refine O.Bv.2 ⟨a, c, ?_, ?_, by show txt.size ≤ _; omega⟩
   ·dsimp only
    rw [hts]
   ·show O _ _ _ [.slice a ts.length c] ts
    rw [hts]
    exact (o4.Ak (fun b hS' hb => Ad (hS b hS').2.1)).wide (fun b h _ => (hS b h).1)
  ·simp (disch := first | exact xD | fail) [-Option.bind_some, qs, -Aa, -Ab, qm, hz, e0, e2, e3, e4, e5, Z3, Z2, Fl, X2, X3, M1.Ah, M2.Ah, M4.Ah]
   refine hQ _ ⟨⟨key, ⟨mx + 1 + m1, m2⟩, ts, ⟨#[]⟩, true⟩, [_, _, _, _, _, _], p + 1 + 1 + 1, rfl, ?_, hk0, hk3, hts, by omega, R4.Ak (fun b h hb => ?_), ((N4.AE (.inr (.inr (by omega))) _).AE (.inr (.inr (by omega))) _).AE (.inr (.inr h0)) _⟩
   ·refine O.Bv.2 ⟨a, c, ?_, ?_, by show ByteArray.size ⟨#[]⟩ ≤ 140737488351232; decide⟩
    ·dsimp only
     rw [hts]
    ·show O _ _ _ [.slice a ts.length c] ts
     rw [hts]
     exact (o4.Ak (fun b hS' hb => by rw [Ad (hS b hS').2.1, Ad (hS b hS').2.2, Ad (hS b hS').2.2])).wide (fun b h _ => (hS b h).1)
   ·rw [Ad (by omega), Ad (by omega), Ad (by omega)]
 | succ d ih =>
  intro k e w p mx ts S hd hp0 hm0 hm9 hts e0 e2 e3 e4 e5 X2 X3 ho hS hr
  rw [Fk]
  have hn := ho.n
  have hl := hr.lt
  have y3 := Aq X3
  obtain ⟨t0, ht0, _⟩ := Am (l := ts) (k := k) (by omega)
  have hlt : k < 4 := by omega
  have ho' := ho.wide (S' := fun b => S b ∧ b < w.heap.size) (fun b h1 h2 => ⟨h1, h2⟩)
  obtain ⟨gp, cur, cs, S1, rfl, hSg, hgl, hg, hle, hx1, hS1, put⟩ := ho'.row (by decide) ht0
  obtain rfl := O.tag.1 hx1
  simp only [Cs] at hg hle put
  have q := hS gp hSg.1
  refine Ag.post fun Q hQ => ?_
  simp (disch := first | exact xD | fail) [-Option.bind_some, qs, -Aa, -Ab, qm, e0, e2, e3, e4, e5, X2, X3, hlt, show (k : Int) < 4 by omega, hg]
  refine Ag.bind (HO (by omega) (hr.ext xE)) ?_
  rintro ⟨_, w1⟩ ⟨t, p1, rfl, ht1, ht9, hp1, R1, M1⟩
  have zM1 := M1.size
  try simp only [qz] at zM1
  try dsimp only at R1 M1
  have zM1 := M1.size
  simp only [World.size_alloc, Ac] at zM1
  have Y2 : hp w1 b2 = hp w b2 := (M1.Ah b2 xN (by omega)).trans (by first | assumption | rfl | (simp (disch := first | exact xD | fail) [-Option.bind_some, qs, e0, e2, e3, e4, e5, X2, X3, hlt, hg, M1.Ah]; done))
  have Y3 : hp w1 b3 = hp w b3 := (M1.Ah b3 xN (by omega)).trans (by first | assumption | rfl | (simp (disch := first | exact xD | fail) [-Option.bind_some, qs, e0, e2, e3, e4, e5, X2, X3, hlt, hg, M1.Ah]; done))
  have G1 : hp w1 gp = hp w gp := (M1.Ah gp xN (by omega)).trans (by first | assumption | rfl | (simp (disch := first | exact xD | fail) [-Option.bind_some, qs, e0, e2, e3, e4, e5, X2, X3, hlt, hg, M1.Ah]; done))
  simp (disch := first | exact xD | fail) [-Option.bind_some, qs, -Aa, -Ab, qm, e0, e2, e3, e4, e5, Y2, Y3, X2, X3, hlt, G1, hg, EJ, M1.Ah]
  obtain ⟨W3, hW3⟩ : ∃ W3 : World, W3 = w1.setRow gp (Ba cur (k * 2) [i64 t.t, i64 t.p]).toArray := ⟨_, rfl⟩
  rw [← hW3]
  have sW : W3.heap.size = w1.heap.size := by rw [hW3, size_setRow]
  have kW : ∀ b, b ≠ gp → hp W3 b = hp w1 b := fun b q => by rw [hW3, Ad q]
  have gW : hp W3 gp = some (.cells (Ba cur (k * 2) [i64 t.t, i64 t.p]).toArray 36 (0, 0)) := by
   rw [hW3]
   exact (by first | assumption | rfl | (simp (disch := first | exact xD | fail) [-Option.bind_some, qs, -Aa, -Ab, qm, G1, hg, e0, e2, e3, e4, e5, X2, X3, hlt, M1.Ah]; done))
  have MM : Mod (fun b => b = g ∨ W0 ≤ b) w W3 := by
   rw [hW3]
   exact (((Mod.of xE (fun b => b = g ∨ W0 ≤ b)).tr (M1.KE (fun b _ h => .inl h))).AE (.inr (.inr q.1)) _)
  have oW := put W3 (GB t) t (fun _ => False) (O.tag.2 rfl |>.wide fun b h _ => h) gW (fun b hb hSb hne _ => (kW b hne).trans ((M1.Ah b xN (fun e => by have := (hS b hSb.1).1; omega)).trans (by first | assumption | rfl | (simp (disch := first | exact xD | fail) [-Option.bind_some, qs, e0, e2, e3, e4, e5, X2, X3, hlt, hg, M1.Ah]; done)))) (fun b _ h => h.elim)
  have RW : R W3 B g p1 := R1.Ak (fun b h hb => kW b (by omega))
  have OO : ∀ (mx' : Int), 0 ≤ mx' → mx' ≤ 9 → ∀ e' : Env, e' 0 = pt g 0 → e' 2 = pt b2 0 → e' 3 = pt b3 0 → e' 4 = i64 mx' → e' 5 = i64 k → Ag (DA e' W3) Q := by
   intro mx' m0 m9 e' f0 f2 f3 f4 f5
   rw [IZ]
   simp (disch := first | exact xD | fail) [-Option.bind_some, qs, -Aa, -Ab, qm, f5, e0, e2, e3, e4, e5, X2, X3, hlt, hg, M1.Ah]
   refine Ag.mono (ih (k + 1) _ W3 p1 mx' (ts.set k t) _ (by omega) (by omega) m0 m9 (by rw [List.length_set]; exact hts) xA xA xA xA xA ((kW b2 (by omega)).trans (Y2.trans X2)) ((kW b3 (by omega)).trans (Y3.trans X3)) oW (fun b h => h.elim (fun h => hS b h.1) (fun h => h.elim)) RW) ?_
   rintro r ⟨v, ds, p', h1, h2, h3, h4, h5, h6, h7, h8⟩
   exact hQ _ ⟨v, ds, p', h1, h2, h3, h4, h5, by omega, h7, MM.tr h8⟩
  cases hmx : decide (mx < t.t)
  ·exact OO mx hm0 hm9 _ xA xA xA xA xA
  ·exact OO t.t ht1 ht9 _ xA xA xA xA xA
theorem HQ {B g p : Nat} (hp0 : p ≤ 800000000000) {w : World} (hr : R w B g p) :
  Ag (EV P 103 #[pt g 0] w) fun r => ∃ (v : Ver) (ds : List Value) (p' : Nat), r.1 = .agg ds.toArray ∧ O Bz (In w.heap.size r.2.heap.size) r.2 ds v ∧ 0 ≤ v.key ∧ v.key ≤ 3 ∧ v.past.length = 4 ∧ p' ≤ p + 40 ∧ R r.2 B g p' ∧ Mod (fun b => b = g) w r.2 := by
 have hl := hr.lt
 refine Ag.post fun Q hQ => ?_
 refine Ag.enter plain mixed (Lb _ _) (by kernel_rfl) (n := 1) (by kernel_rfl) rfl ?_
 simp (disch := first | exact xD | fail) [-Option.bind_some, qs, -Aa, -Ab, qm]
 refine Ag.bind (Al (k := 4) (by omega) (by omega) (by omega) (hr.ext xE)) ?_
 rintro ⟨_, w1⟩ ⟨m1, rfl, hm1, R1, M1⟩
 have zM1 := M1.size
 try simp only [qz] at zM1
 try dsimp only at R1 M1
 have zM1 := M1.size
 simp only [World.size_alloc, Ac] at zM1
 have X1 : hp w1 w.heap.size = some (.cells #[i64 0, i64 0, i64 0, .slice none 0 0, .string ⟨#[]⟩, .bool false] 49 (0, 0)) := (M1.Ah w.heap.size xN (by omega)).trans (by first | assumption | rfl | (simp (disch := first | exact xD | fail) [-Option.bind_some, qs, -Aa, -Ab, qm, M1.Ah]; done))
 have N1 : Mod (fun b => b = g) w w1 := (Mod.of xE _).tr M1
 simp (disch := first | exact xD | fail) [-Option.bind_some, qs, -Aa, -Ab, qm, M1.Ah, X1]
 refine Ag.bind (HP) ?_
 rintro ⟨_, w2⟩ ⟨a2, c2, rfl, o2, E2⟩
 try dsimp only at a2 c2 o2 E2
 have zE2 := E2.size
 try simp only [qz] at zE2
 simp (disch := first | exact xD | fail) [-Option.bind_some, qs, -Aa, -Ab, qm, M1.Ah, X1, E2.Ah]
 refine Ag.bind (GU (by omega) (R1.ext xE)) ?_
 rintro ⟨_, w3⟩ ⟨txt, htx, rfl, R3, M3⟩
 have zM3 := M3.size
 try simp only [qz] at zM3
 try dsimp only at R3 M3
 have zM3 := M3.size
 have htx2 : txt.size ≤ 1000 := by
  simp only [Ll, List.mem_cons, List.not_mem_nil, or_false] at htx
  rcases htx with rfl | rfl | rfl | rfl | rfl | rfl | rfl | rfl <;> decide
 have N3 : Mod (fun b => b = g) w w3 := (N1.ex xE).tr M3
 have X3 : hp w3 w.heap.size = some (.cells #[i64 0, i64 0, i64 0, .slice none 0 0, .string ⟨#[]⟩, .bool false] 49 (0, 0)) := (M3.Ah w.heap.size xN (by omega)).trans ((E2.Ah xN).trans (by first | exact X1 | exact (Bg _ _).trans X1))
 simp (disch := first | exact xD | fail) [-Option.bind_some, qs, -Aa, -Ab, qm, M1.Ah, X1, E2.Ah, M3.Ah, X3]
 have zE2 := E2.size
 try simp only [Ac] at zE2
 obtain ⟨W4, hW4⟩ : ∃ W4 : World, W4 = (w3.alloc (.cells #[i64 0, i64 0, i64 0, .slice none 0 0, .string ⟨#[]⟩, .bool false] 49)).setRow w3.heap.size #[i64 m1, i64 0, i64 0, .slice a2 4 c2, .string txt, .bool false] := ⟨_, rfl⟩
 rw [← hW4]
 have sW : W4.heap.size = w3.heap.size + 1 := by rw [hW4, size_setRow, World.size_alloc]
 have kW : ∀ b, b < w3.heap.size → hp W4 b = hp w3 b := fun b q => by rw [hW4, Ad (by omega), Ae q]
 have gW : hp W4 w3.heap.size = some (.cells #[i64 m1, i64 0, i64 0, .slice a2 4 c2, .string txt, .bool false] 49 (0, 0)) := by
  rw [hW4]
  exact (by first | assumption | rfl | (simp (disch := first | exact xD | fail) [-Option.bind_some, qs, -Aa, -Ab, qm, M1.Ah, X1, E2.Ah, M3.Ah, X3]; done))
 have N4 : Mod (fun b => b = g) w W4 := by
  rw [hW4]
  exact (N3.al _).AE (.inl (by omega)) _
 have o4 : O Bj (fun b => w.heap.size < b ∧ b < w2.heap.size) W4 [.slice a2 4 c2] (List.replicate 4 ⟨0, 0⟩) := (o2.Ak (w' := W4) (fun b hS hb => by
  simp only [In, Ac] at hS
  exact (kW b (by omega)).trans (M3.Ah b hb (by omega)))).wide (fun b h _ => by simp only [In, Ac] at h; omega)
 refine Ag.mono (Lm (W0 := w.heap.size) (b2 := w.heap.size) (b3 := w3.heap.size) (key := m1) (by omega) (by omega) htx2 (by omega) (by omega) (by omega) (by omega) 4 0 _ W4 (p + 1 + 1) 0 (List.replicate 4 ⟨0, 0⟩) _ (by omega) (by omega) (by omega) (by omega) rfl rfl rfl rfl rfl rfl ((kW _ (by omega)).trans X3) gW o4 (fun b h => by omega) (R3.Ak (fun b h hb => kW b hb))) ?_
 rintro r ⟨v, ds, p', h1, h2, h3, h4, h5, h6, h7, h8⟩
 exact hQ _ ⟨v, ds, p', h1, h2.wide (fun b h hb => by simp only [In]; omega), h3, h4, h5, by omega, h7, Mod.A8 N4 h8 (fun x hx h => h.elim id (fun h => by omega))⟩
theorem P4 {w : World} {b c : Nat} {t : Tag} {ts : List Tag} {S : Nat → Prop} (h : D Bj S w [.slice (some ⟨b, 0, none⟩) (t :: ts).length c] (t :: ts)) : D Bj (fun x => x = b) w [.slice (some ⟨b, 2, none⟩) ts.length (c - 1)] ts := by
 obtain ⟨⟨a', c', h1, h2, h3⟩, h4⟩ := D.AM h
 simp only [Value.slice.injEq, List.length_cons] at h1 h2 h4
 obtain ⟨rfl, _, rfl⟩ := h1
 refine (TC (s := .slice (some ⟨b, 2, none⟩) ts.length (c - 1)) ⟨⟨some ⟨b, 2, none⟩, c - 1, rfl, by omega, .inr ⟨b, 2, rfl, ?_⟩⟩, by omega⟩).wide (fun x h _ => by simpa [Ax] using h.1)
 rcases h3 with h3 | ⟨b', o', h5, h6⟩
 ·simp [CO, GB] at h3
 ·simp only [Option.some.injEq, Addr.mk.injEq, and_true] at h5
  obtain ⟨rfl, rfl⟩ := h5
  intro j u hu
  have := h6 (2 + j) u (by
   show (GB t ++ CO ts)[2 + j]? = some u
   rw [List.getElem?_append_right (by simp [GB])]
   simpa [GB] using hu)
  rwa [Nat.zero_add] at this
theorem JR {B g p : Nat} (hp0 : p ≤ 700000000000) {w : World} (hr : R w B g p) :
  Ag (EV P 78 #[pt g 0] w) fun r => ∃ (v : Ver) (ds : List Value) (p' : Nat), r.1 = .agg ds.toArray ∧ D Bz (fun b => w.heap.size ≤ b) r.2 ds v ∧ p' ≤ p + 50 ∧ R r.2 B g p' ∧ Mod (fun b => b = g) w r.2 := by
 have hl := hr.lt
 refine Ag.post fun Q hQ => ?_
 refine Ag.enter plain mixed (IW _ _) (by kernel_rfl) (n := 1) (by kernel_rfl) rfl ?_
 simp (disch := first | exact xD | fail) [-Option.bind_some, qs, -Aa, -Ab, qm]
 refine Ag.bind (HQ (by omega) (hr.ext xE)) ?_
 rintro ⟨_, w1⟩ ⟨v, ds, p1, rfl, o1, k0, k3, hp4, hp1, R1, M1⟩
 have zM1 := M1.size
 try simp only [qz] at zM1
 try dsimp only at o1 R1 M1
 have zM1 := M1.size
 simp only [World.size_alloc, Ac] at zM1
 have zo := O.Bv.1 o1
 obtain ⟨a, c, rfl, op, htx⟩ := zo
 have X1 : hp w1 w.heap.size = some (.cells #[i64 0, i64 0, i64 0, .slice none 0 0, .string ⟨#[]⟩, .bool false] 49 (0, 0)) := (M1.Ah w.heap.size xN (by omega)).trans (by first | assumption | rfl | (simp (disch := first | exact xD | fail) [-Option.bind_some, qs, -Aa, -Ab, qm, M1.Ah]; done))
 have N1 : Mod (fun b => b = g) w w1 := (Mod.of xE _).tr M1
 rw [hp4] at op
 have hpl : v.past.length = 4 := hp4
 simp (disch := first | exact xD | fail) [-Option.bind_some, qs, -Aa, -Ab, qm, hp4, M1.Ah, X1]
 have fin : ∀ (e : Env) (W : World) (cs : List Value) (u : Ver) (p' : Nat), e 2 = pt w.heap.size 0 → e 3 = pt w1.heap.size 0 → hp W w.heap.size = some (.cells #[i64 0, i64 0, i64 0, .slice none 0 0, .string ⟨#[]⟩, .bool false] 49 (0, 0)) → hp W w1.heap.size = some (.cells cs.toArray 49 (0, 0)) →
   D Bz (fun b => w.heap.size < b ∧ b ≠ w1.heap.size) W cs u → p' ≤ p + 50 → R W B g p' → Mod (fun b => b = g) w W → Ag (AS e W) Q := by
  intro e W cs u p' e2 e3 Z2 Z3 hd hp' hR hM
  have y3 := Aq Z3
  have hd' := hd
  obtain ⟨a', c', rfl, _, _⟩ := D.Bv.1 hd
  rw [GJ]
  simp (disch := first | exact xD | fail) [-Option.bind_some, qs, -Aa, -Ab, qm, e2, e3, Z2, Z3, M1.Ah, X1]
  exact hQ _ ⟨u, [_, _, _, _, _, _], p', rfl, (hd'.Ak (fun b hS hb => Ad (by omega))).wide (fun b h _ => by omega), hp', hR.Ak (fun b h hb => Ad (by omega)), hM.AE (.inl (by omega)) _⟩
 obtain ⟨W1, hW1⟩ : ∃ W1 : World, W1 = (w1.alloc (.cells #[i64 0, i64 0, i64 0, .slice none 0 0, .string ⟨#[]⟩, .bool false] 49)).setRow w1.heap.size #[i64 v.key, i64 v.tag.t, i64 v.tag.p, .slice a 4 c, .string v.text, .bool v.gone] := ⟨_, rfl⟩
 rw [← hW1]
 have sW : W1.heap.size = w1.heap.size + 1 := by rw [hW1, size_setRow, World.size_alloc]
 have kW : ∀ b, b < w1.heap.size → hp W1 b = hp w1 b := fun b q => by rw [hW1, Ad (by omega), Ae q]
 have gW : hp W1 w1.heap.size = some (.cells #[i64 v.key, i64 v.tag.t, i64 v.tag.p, .slice a 4 c, .string v.text, .bool v.gone] 49 (0, 0)) := by
  rw [hW1]
  exact (by first | assumption | rfl | (simp (disch := first | exact xD | fail) [-Option.bind_some, qs, -Aa, -Ab, qm, M1.Ah, X1]; done))
 have N2 : Mod (fun b => b = g) w W1 := by
  rw [hW1]
  exact (N1.al _).AE (.inl (by omega)) _
 have oW : O Bj (fun b => w.heap.size < b ∧ b < w1.heap.size) W1 [.slice a 4 c] v.past := (op.Ak (w' := W1) (fun b hS hb => kW b hb)).wide (fun b h _ => by simp only [In, World.size_alloc, Ac] at h; omega)
 have l1 := R1.lt
 refine Ag.bind (Al (k := 10) (by omega) (by omega) (by omega) (R1.Ak (fun b h hb => kW b hb))) ?_
 rintro ⟨_, w2⟩ ⟨m, rfl, hm, R2, M2⟩
 have zM2 := M2.size
 try simp only [qz] at zM2
 try dsimp only at R2 M2
 have zM2 := M2.size
 have Z2 : hp w2 w.heap.size = some (.cells #[i64 0, i64 0, i64 0, .slice none 0 0, .string ⟨#[]⟩, .bool false] 49 (0, 0)) := (M2.Ah w.heap.size xN (by omega)).trans ((kW _ (by omega)).trans X1)
 have Z3 := (M2.Ah w1.heap.size xN (by omega)).trans gW
 have o2 : O Bj (fun b => w.heap.size < b ∧ b < w1.heap.size) w2 [.slice a 4 c] v.past := oW.Ak (fun b hS hb => M2.Ah b hb (by omega))
 have N3 := N2.tr M2
 have y2 := R2.lt
 have dv : ∀ (W : World) (key : Int) (tg : Tag) (tx : ByteArray) (gn : Bool) (ts : List Tag), ts.length = 4 → O Bj (fun b => w.heap.size < b ∧ b < w1.heap.size) W [.slice a 4 c] ts → tx.size ≤ 140737488351232 → D Bz (fun b => w.heap.size < b ∧ b ≠ w1.heap.size) W [i64 key, i64 tg.t, i64 tg.p, .slice a 4 c, .string tx, .bool gn] ⟨key, tg, ts, tx, gn⟩ := by
  intro W key tg tx gn ts h4 ho htx
  refine D.Bv.2 ⟨a, c, by dsimp only; rw [h4], ?_, htx⟩
  show D _ _ _ [.slice a ts.length c] ts
  rw [h4]
  exact ho.d.wide (fun b h _ => by omega)
 by_cases h0 : m = 0
 ·subst h0
  simp (disch := first | exact xD | fail) [-Option.bind_some, qs, -Aa, -Ab, qm, M1.Ah, X1, M2.Ah]
  refine Ag.bind (Bf (ints := [-1, 4]) (k := 2) (by omega) (by omega) (by omega) rfl (At.new (cs := [i64 (-1), i64 4])) (by omega) (R2.ext xE)) ?_
  rintro ⟨_, w3⟩ ⟨n, _, rfl, R3, M3⟩
  have zM3 := M3.size
  try simp only [qz] at zM3
  try dsimp only at R3 M3
  have zM3 := M3.size
  simp only [World.size_alloc] at zM3
  have Y3 := (M3.Ah w1.heap.size xN (by omega)).trans ((Ae (by omega)).trans Z3)
  have Y2 := (M3.Ah w.heap.size xN (by omega)).trans ((Ae (by omega)).trans Z2)
  simp (disch := first | exact xD | fail) [-Option.bind_some, qs, -Aa, -Ab, qm, Y3, M1.Ah, X1, M2.Ah, M3.Ah]
  refine fin _ _ _ ⟨n, v.tag, v.past, v.text, v.gone⟩ (p1 + 1 + 1) rfl rfl ((Ad (by omega)).trans Y2) (by first | assumption | rfl | (simp (disch := first | exact xD | fail) [-Option.bind_some, qs, -Aa, -Ab, qm, Y3, M1.Ah, X1, M2.Ah, M3.Ah]; done)) (dv _ n v.tag v.text v.gone v.past hp4 (o2.Ak (fun b hS hb => (Ad (by omega)).trans ((M3.Ah b xN (by omega)).trans (Ae hb)))) htx) (by omega) (R3.Ak (fun b h hb => Ad (by omega))) (((N3.al _).tr M3).AE (.inl (by omega)) _)
 have e0 : ((m : Int) == 0) = false := by rw [beq_eq_false_iff_ne]; omega
 by_cases h1 : m = 1
 ·subst h1
  simp (disch := first | exact xD | fail) [-Option.bind_some, qs, -Aa, -Ab, qm, M1.Ah, X1, M2.Ah, e0]
  refine Ag.bind (Gs (strs := [⟨#[97, 32, 98]⟩, ⟨#[116, 111, 111, 108, 111, 110, 103, 101, 114]⟩, ⟨#[10]⟩]) (k := 3) (by omega) (by omega) (by omega) rfl (At.new (cs := [.string ⟨#[97, 32, 98]⟩, .string ⟨#[116, 111, 111, 108, 111, 110, 103, 101, 114]⟩, .string ⟨#[10]⟩])) (by omega) (R2.ext xE)) ?_
  rintro ⟨_, w3⟩ ⟨n, hn, rfl, R3, M3⟩
  have zM3 := M3.size
  try simp only [qz] at zM3
  try dsimp only at R3 M3
  have zM3 := M3.size
  simp only [World.size_alloc] at zM3
  have hns : n.size ≤ 140737488351232 := by
   simp only [List.mem_cons, List.not_mem_nil, or_false] at hn
   rcases hn with rfl | rfl | rfl <;> decide
  have Y3 := (M3.Ah w1.heap.size xN (by omega)).trans ((Ae (by omega)).trans Z3)
  have Y2 := (M3.Ah w.heap.size xN (by omega)).trans ((Ae (by omega)).trans Z2)
  simp (disch := first | exact xD | fail) [-Option.bind_some, qs, -Aa, -Ab, qm, Y3, M1.Ah, X1, M2.Ah, e0, M3.Ah]
  refine fin _ _ _ ⟨v.key, v.tag, v.past, n, v.gone⟩ (p1 + 1 + 1) rfl rfl ((Ad (by omega)).trans Y2) (by first | assumption | rfl | (simp (disch := first | exact xD | fail) [-Option.bind_some, qs, -Aa, -Ab, qm, Y3, M1.Ah, X1, M2.Ah, e0, M3.Ah]; done)) (dv _ v.key v.tag n v.gone v.past hp4 (o2.Ak (fun b hS hb => (Ad (by omega)).trans ((M3.Ah b xN (by omega)).trans (Ae hb)))) hns) (by omega) (R3.Ak (fun b h hb => Ad (by omega))) (((N3.al _).tr M3).AE (.inl (by omega)) _)
 have f1 : ((m : Int) == 1) = false := by rw [beq_eq_false_iff_ne]; omega
 by_cases h2 : m = 2
 ·subst h2
  obtain ⟨t0, tl, hpt⟩ : ∃ t0 tl, v.past = t0 :: tl := by
   cases hv : v.past with
   | nil => rw [hv] at hp4; simp at hp4
   | cons t0 tl => exact ⟨t0, tl, rfl⟩
  have htl : tl.length = 3 := by rw [hpt] at hp4; simpa using hp4
  obtain ⟨gp, cur, cs, S1, rfl, hSg, hgl, hg, hle, hx1, hS1, put⟩ := o2.row (by decide) (i := 0) (x := t0) (by rw [hpt]; rfl)
  have hc4 := o2.clip
  simp (disch := first | exact xD | fail) [-Option.bind_some, qs, -Aa, -Ab, qm, Z3, TA (P := P) CD, show (1 : Int).toNat ≠ c by have := hc4.1; omega, M1.Ah, X1, M2.Ah, e0, hg]
  refine fin _ _ [i64 v.key, i64 v.tag.t, i64 v.tag.p, .slice (some ⟨gp, 2, none⟩) 3 (c - 1), .string v.text, .bool v.gone] ⟨v.key, v.tag, tl, v.text, v.gone⟩ (p1 + 1) rfl rfl ((Ad (by omega)).trans Z2) (by first | assumption | rfl | (simp (disch := first | exact xD | fail) [-Option.bind_some, qs, -Aa, -Ab, qm, Z3, M1.Ah, X1, M2.Ah, e0, hg]; done)) ?_ (by omega) (R2.Ak (fun b h hb => Ad (by omega))) (N3.AE (.inl (by omega)) _)
  refine D.Bv.2 ⟨_, c - 1, by dsimp only; rw [htl], ?_, htx⟩
  show D _ _ _ [.slice _ tl.length (c - 1)] tl
  have hd2 : D Bj (fun b => w.heap.size < b ∧ b < w1.heap.size) w2 [.slice (some ⟨gp, 0, none⟩) (t0 :: tl).length c] (t0 :: tl) := by
   rw [hpt] at o2
   exact (by simp [htl] : (t0 :: tl).length = 4) ▸ o2.d
  exact ((P4 hd2).Ak (fun b hS hb => Ad (by omega))).wide (fun b h _ => by have := hSg; omega)
 have f2 : ((m : Int) == 2) = false := by rw [beq_eq_false_iff_ne]; omega
 by_cases h3 : m = 3
 ·subst h3
  simp (disch := first | exact xD | fail) [-Option.bind_some, qs, -Aa, -Ab, qm, Z3, M1.Ah, X1, M2.Ah, e0]
  refine Ag.bind (Al (k := 4) (by omega) (by omega) (by omega) (R2.ext xE)) ?_
  rintro ⟨_, w3⟩ ⟨k, rfl, hk, R3, M3⟩
  have zM3 := M3.size
  try simp only [qz] at zM3
  try dsimp only at R3 M3
  have zM3 := M3.size
  simp only [Ac] at zM3
  have kM : ∀ b, b < w2.heap.size → b ≠ g → hp w3 b = hp w2 b := fun b q1 q2 => (M3.Ah b (by rw [Ac]; exact q1) q2).trans (Bg _ _)
  have Y3 := (kM w1.heap.size (by omega) (by omega)).trans Z3
  have Y2 := (kM w.heap.size (by omega) (by omega)).trans Z2
  have o3 : O Bj (fun b => w.heap.size < b ∧ b < w1.heap.size) w3 [.slice a 4 c] v.past := o2.Ak (fun b hS hb => kM b hb (by omega))
  obtain ⟨t0, ht0, _⟩ := Am (l := v.past) (k := k) (by omega)
  obtain ⟨gp, cur, cs, S1, rfl, hSg, hgl, hg, hle, hx1, hS1, put⟩ := o3.row (by decide) ht0
  obtain rfl := O.tag.1 hx1
  simp only [Cs] at hg hle put
  simp (disch := first | exact xD | fail) [-Option.bind_some, qs, -Aa, -Ab, qm, Y3, hg, EJ, hk, show (k : Int) < 4 by omega, M1.Ah, X1, M2.Ah, e0, M3.Ah]
  have oP := put (w3.setRow gp (Ba cur (k * 2) [Value.int IntKind.i64 50, Value.int IntKind.i64 1]).toArray) (GB ⟨50, 1⟩) ⟨50, 1⟩ (fun _ => False) (O.tag.2 rfl |>.wide fun b h _ => h) (by first | assumption | rfl | (simp (disch := first | exact xD | fail) [-Option.bind_some, qs, -Aa, -Ab, qm, hg, M1.Ah, X1, M2.Ah, e0, M3.Ah]; done)) (fun b hb hSb hne _ => Ad hne) (fun b _ h => h.elim)
  refine fin _ _ _ ⟨v.key, v.tag, v.past.set k ⟨50, 1⟩, v.text, v.gone⟩ (p1 + 1 + 1) rfl rfl ((Ad (by omega)).trans Y2) ((Ad (by omega)).trans Y3) (dv _ v.key v.tag v.text v.gone _ (by rw [List.length_set]; exact hp4) (oP.wide (fun b h _ => h.elim id (fun h => h.elim))) htx) (by omega) (R3.Ak (fun b h hb => Ad (by omega))) (((N3.tr (Mod.of xE _)).tr M3).AE (.inl (by omega)) _)
 have f3 : ((m : Int) == 3) = false := by rw [beq_eq_false_iff_ne]; omega
 by_cases h4 : m = 4
 ·subst h4
  simp (disch := first | exact xD | fail) [-Option.bind_some, qs, -Aa, -Ab, qm, Z3, M1.Ah, X1, M2.Ah, e0]
  refine Ag.bind (JQ (by omega) R2) ?_
  rintro ⟨_, w3⟩ ⟨t, p3, rfl, hp3, R3, M3⟩
  have zM3 := M3.size
  try simp only [qz] at zM3
  try dsimp only at R3 M3
  have zM3 := M3.size
  have Y3 := (M3.Ah w1.heap.size xN (by omega)).trans Z3
  have Y2 := (M3.Ah w.heap.size xN (by omega)).trans Z2
  simp (disch := first | exact xD | fail) [-Option.bind_some, qs, -Aa, -Ab, qm, Y3, M1.Ah, X1, M2.Ah, e0, M3.Ah]
  refine fin _ _ _ ⟨v.key, t, v.past, v.text, v.gone⟩ p3 rfl rfl ((Ad (by omega)).trans Y2) (by first | assumption | rfl | (simp (disch := first | exact xD | fail) [-Option.bind_some, qs, -Aa, -Ab, qm, Y3, M1.Ah, X1, M2.Ah, e0, M3.Ah]; done)) (dv _ v.key t v.text v.gone v.past hp4 (o2.Ak (fun b hS hb => (Ad (by omega)).trans (M3.Ah b hb (by omega)))) htx) (by omega) (R3.Ak (fun b h hb => Ad (by omega))) ((N3.tr M3).AE (.inl (by omega)) _)
 have f4 : ((m : Int) == 4) = false := by rw [beq_eq_false_iff_ne]; omega
 by_cases h5 : m = 5
 ·subst h5
  simp (disch := first | exact xD | fail) [-Option.bind_some, qs, -Aa, -Ab, qm, Z3, M1.Ah, X1, M2.Ah, e0]
  refine fin _ _ _ ⟨v.key, v.tag, v.past, v.text, true⟩ (p1 + 1) rfl rfl ((Ad (by omega)).trans Z2) (by first | assumption | rfl | (simp (disch := first | exact xD | fail) [-Option.bind_some, qs, -Aa, -Ab, qm, Z3, M1.Ah, X1, M2.Ah, e0]; done)) (dv _ v.key v.tag v.text true v.past hp4 (o2.Ak (fun b hS hb => Ad (by omega))) htx) (by omega) (R2.Ak (fun b h hb => Ad (by omega))) (N3.AE (.inl (by omega)) _)
 have f5 : ((m : Int) == 5) = false := by rw [beq_eq_false_iff_ne]; omega
 simp (disch := first | exact xD | fail) [-Option.bind_some, qs, -Aa, -Ab, qm, e0, f1, f2, f3, f4, f5, M1.Ah, X1, M2.Ah]
 exact fin _ _ _ ⟨v.key, v.tag, v.past, v.text, v.gone⟩ (p1 + 1) rfl rfl Z2 Z3 (dv _ v.key v.tag v.text v.gone v.past hp4 o2 htx) (by omega) R2 N3
theorem JS {B g b2 b3 c W0 : Nat} {a : Option Addr} (h23 : b2 ≠ b3) (hg2 : g < b2) (hg3 : g < b3) (h0 : W0 ≤ b2) (h03 : W0 ≤ b3) (hW0 : g < W0) :
  ∀ (n : Nat) (e : Env) (w : World) (p : Nat) (st : List Ver) (S : Nat → Prop), n ≤ 6 → p + 50 * n ≤ 700000000000 → st.length = 4 → e 0 = pt g 0 → e 2 = pt b2 0 → e 3 = pt b3 0 → e 4 = i64 n →
   hp w b2 = some (.cells #[.slice none 0 0] 44 (0, 0)) →
   hp w b3 = some (.cells #[.slice a 4 c] 44 (0, 0)) → O AB S w [.slice a 4 c] st → (∀ b, S b → W0 ≤ b ∧ b ≠ b2 ∧ b ≠ b3) → R w B g p →
   Ag (Cv e w) fun r => ∃ (st' : List Ver) (p' : Nat), r.1 = .agg #[.slice a 4 c] ∧ O AB (fun b => W0 ≤ b) r.2 [.slice a 4 c] st' ∧ st'.length = 4 ∧ p' ≤ p + 50 * n ∧ R r.2 B g p' ∧ Mod (fun b => b = g ∨ W0 ≤ b) w r.2 := by
 intro n
 induction n with
 | zero =>
  intro e w p st S hn hp0 hst e0 e2 e3 e4 X2 X3 ho hS hr
  rw [Ep]
  have hl := hr.lt
  have y2 := Aq X2
  have y3 := Aq X3
  refine Ag.post fun Q hQ => ?_
  simp (disch := first | exact xD | fail) [-Option.bind_some, qs, -Aa, -Ab, qm, e0, e2, e3, e4, X2, X3]
  refine hQ _ ⟨st, p, rfl, (ho.Ak ?_).wide (fun b h _ => (hS b h).1), hst, by omega, hr.Ak (fun b h hb => (Ad (by omega)).trans (Bg _ _)), (Mod.of xE _).AE (.inr (.inr h0)) _⟩
  intro b hb _
  exact (Ad (hS b hb).2.1).trans (Bg _ _)
 | succ n ih =>
  intro e w p st S hn hp0 hst e0 e2 e3 e4 X2 X3 ho hS hr
  rw [Ep]
  have hl := hr.lt
  have y2 := Aq X2
  have y3 := Aq X3
  refine Ag.post fun Q hQ => ?_
  simp (disch := first | exact xD | fail) [-Option.bind_some, qs, -Aa, -Ab, qm, e0, e2, e3, e4, X2, X3, show (0 : Int) < ((n + 1 : Nat) : Int) by omega]
  refine Ag.bind (HQ (by omega) (hr.ext xE)) ?_
  rintro ⟨_, w1⟩ ⟨v, ds, p1, rfl, o1, k0, k3, hp4, hp1, R1, M1⟩
  have zM1 := M1.size
  try simp only [qz] at zM1
  try dsimp only at o1 R1 M1
  have zM1 := M1.size
  simp only [World.size_alloc, Ac] at zM1
  have Y2 : hp w1 b2 = hp w b2 := (M1.Ah b2 xN (by omega)).trans (by first | assumption | rfl | (simp (disch := first | exact xD | fail) [-Option.bind_some, qs, e0, e2, e3, e4, X2, X3, M1.Ah]; done))
  have Y3 : hp w1 b3 = hp w b3 := (M1.Ah b3 xN (by omega)).trans (by first | assumption | rfl | (simp (disch := first | exact xD | fail) [-Option.bind_some, qs, e0, e2, e3, e4, X2, X3, M1.Ah]; done))
  have ho1 : O AB (fun b => S b ∧ b < w.heap.size) w1 [.slice a 4 c] st := ho.lt.Ak (fun b hb _ => by
   have q := hS b hb.1
   exact (M1.Ah b xN (by omega)).trans (by first | assumption | rfl | (simp (disch := first | exact xD | fail) [-Option.bind_some, qs, e0, e2, e3, e4, X2, X3, M1.Ah]; done)))
  simp (disch := first | exact xD | fail) [-Option.bind_some, qs, -Aa, -Ab, qm, e0, e2, e3, e4, Y2, Y3, X2, X3, M1.Ah]
  refine Ag.bind (Jh ho1 o1.d k0 (by omega)) ?_
  rintro ⟨_, w2⟩ ⟨rfl, o2, M2⟩
  have zM2 := M2.size
  try simp only [qz] at zM2
  try dsimp only at o2 M2
  have zM2 := M2.size
  rw [hst] at o2
  rw [hst]
  have V2 : hp w2 b2 = hp w b2 := (M2.Ah b2 xN (fun h => (hS b2 h.1).2.1 rfl)).trans Y2
  have V3 : hp w2 b3 = hp w b3 := (M2.Ah b3 xN (fun h => (hS b3 h.1).2.2 rfl)).trans Y3
  simp (disch := first | exact xD | fail) [-Option.bind_some, qs, -Aa, -Ab, qm, e0, e2, e3, e4, V2, V3, X2, X3, M1.Ah, M2.Ah]
  have en : ((n + 1 : Nat) : Int) - 1 = (n : Int) := by omega
  refine Ag.mono (ih _ (w2.setRow b3 #[.slice a 4 c]) p1 (DI st v) (fun b => (S b ∧ b < w.heap.size) ∨ In w1.heap.size w2.heap.size b) (by omega) (by omega) (by rw [KH]; exact hst) xA xA xA (by first | rfl | (simp [en]; done) | exact congrArg i64 en) ((Ad (by omega)).trans (V2.trans X2)) ?_ (o2.Ak (fun b hb _ => Ad (by rcases hb with h | h; exact (hS b h.1).2.2; simp only [In] at h; omega))) ?_ ?_) ?_
  ·exact (by first | assumption | rfl | (simp (disch := first | exact xD | fail) [-Option.bind_some, qs, -Aa, -Ab, qm, V3, X3, e0, e2, e3, e4, X2, M1.Ah, M2.Ah]; done))
  ·intro b hb
   rcases hb with h | h
   ·exact hS b h.1
   ·simp only [In] at h
    omega
  ·refine R1.Ak (fun b h hb => (Ad (by omega)).trans (M2.Ah b hb (fun h' => by have := (hS b h'.1).1; omega)))
  ·rintro r ⟨st', p', h1, h2, h3, h4, h5, h6⟩
   refine hQ _ ⟨st', p', h1, h2, h3, by omega, h5, ?_⟩
   refine Mod.tr ?_ h6
   exact ((((Mod.of xE (fun b => b = g ∨ W0 ≤ b)).tr (M1.KE (fun b _ h => .inl h))).tr (M2.KE (fun b _ h => .inr (hS b h.1).1))).AE (.inr (.inr h03)) _)
theorem Kt {B g p : Nat} (hp0 : p ≤ 600000000000) {w : World} (hr : R w B g p) :
  Ag (EV P 77 #[pt g 0] w) fun r => ∃ (st : List Ver) (a : Option Addr) (c p' : Nat), r.1 = .agg #[.slice a 4 c] ∧ O AB (fun b => w.heap.size ≤ b) r.2 [.slice a 4 c] st ∧ st.length = 4 ∧ p' ≤ p + 310 ∧ R r.2 B g p' ∧ Mod (fun b => b = g) w r.2 := by
 have hl := hr.lt
 refine Ag.post fun Q hQ => ?_
 refine Ag.enter plain mixed (JC _ _) (by kernel_rfl) (n := 1) (by kernel_rfl) rfl ?_
 simp (disch := first | exact xD | fail) [-Option.bind_some, qs, -Aa, -Ab, qm]
 refine Ag.bind (Jk _) ?_
 rintro ⟨_, w1⟩ ⟨a1, c1, rfl, o1, E1⟩
 try dsimp only at a1 c1 o1 E1
 have zE1 := E1.size
 try simp only [qz] at zE1
 simp (disch := first | exact xD | fail) [-Option.bind_some, qs, -Aa, -Ab, qm, E1.Ah]
 have N1 : Mod (fun b => b = g) w ((w1.alloc (.cells #[.slice none 0 0] 44)).setRow w1.heap.size #[.slice a1 4 c1]) := Mod.of xE _
 have R0 : R ((w1.alloc (.cells #[.slice none 0 0] 44)).setRow w1.heap.size #[.slice a1 4 c1]) B g p := hr.ext xE
 have X2 : hp ((w1.alloc (.cells #[.slice none 0 0] 44)).setRow w1.heap.size #[.slice a1 4 c1]) w.heap.size = some (.cells #[.slice none 0 0] 44 (0, 0)) := (by first | assumption | rfl | (simp (disch := first | exact xD | fail) [-Option.bind_some, qs, -Aa, -Ab, qm, E1.Ah]; done))
 have X3 : hp ((w1.alloc (.cells #[.slice none 0 0] 44)).setRow w1.heap.size #[.slice a1 4 c1]) w1.heap.size = some (.cells #[.slice a1 4 c1] 44 (0, 0)) := (by first | assumption | rfl | (simp (disch := first | exact xD | fail) [-Option.bind_some, qs, -Aa, -Ab, qm, E1.Ah, X2]; done))
 have o2 := o1.Ak (w' := (w1.alloc (.cells #[.slice none 0 0] 44)).setRow w1.heap.size #[.slice a1 4 c1]) (by intro b hS hb; (try dsimp only at hS); (try simp only [In, qz] at hS hb); first | rfl | (simp (disch := first | exact xF | fail) only [E1.Ah, qk]; done))
 generalize hW : (w1.alloc (.cells #[.slice none 0 0] 44)).setRow w1.heap.size #[.slice a1 4 c1] = W at *
 have sW : W.heap.size = w1.heap.size + 1 := by rw [← hW, size_setRow, World.size_alloc]
 refine Ag.bind (Al (k := 7) (by omega) (by omega) (by omega) R0) ?_
 rintro ⟨_, w2⟩ ⟨m, rfl, hm, R2, M2⟩
 have zM2 := M2.size
 try simp only [qz] at zM2
 try dsimp only at R2 M2
 have zM2 := M2.size
 simp (disch := first | exact xD | fail) [-Option.bind_some, qs, -Aa, -Ab, qm, E1.Ah, X2, X3, M2.Ah]
 refine Ag.mono (JS (B := B) (g := g) (b2 := w.heap.size) (b3 := w1.heap.size) (W0 := w.heap.size) (a := a1) (c := c1) (by omega) (by omega) (by omega) (by omega) (by omega) (by omega) m _ w2 (p + 1) _ _ (by omega) (by omega) (by rfl) xA xA xA xA ((M2.Ah _ (by omega) (by omega)).trans X2) ((M2.Ah _ (by omega) (by omega)).trans X3) (o2.Ak (fun b hb hs => M2.Ah b hs (by simp only [In, World.size_alloc] at hb; omega))) ?_ R2) ?_
 ·intro b h
  simp only [In, World.size_alloc, size_setRow, Ac] at *
  omega
 ·rintro r ⟨st', p', h1, h2, h3, h6, h7, h8⟩
  refine hQ _ ⟨st', a1, c1, p', h1, h2, h3, by omega, h7, ?_⟩
  exact (((N1.tr M2).KE (fun b hb h => Or.inl h)).tr h8).KE (fun b hb h => h.resolve_right (by omega))
theorem Ik {B g p : Nat} (hp0 : p ≤ 500000000000) {w : World} (hr : R w B g p) :
  Ag (EV P 44 #[pt g 0] w) fun r => ∃ (st : List Ver) (a : Option Addr) (c p' : Nat), r.1 = .agg #[.slice a st.length c] ∧ D AB (fun b => w.heap.size ≤ b) r.2 [.slice a st.length c] st ∧ p' ≤ p + 500 ∧ R r.2 B g p' ∧ Mod (fun b => b = g) w r.2 := by
 have hl := hr.lt
 refine Ag.post fun Q hQ => ?_
 refine Ag.enter plain mixed (Hv _ _) (by kernel_rfl) (n := 1) (by kernel_rfl) rfl ?_
 simp (disch := first | exact xD | fail) [-Option.bind_some, qs, -Aa, -Ab, qm]
 refine Ag.bind (Kt (by omega) (hr.ext xE)) ?_
 rintro ⟨_, w1⟩ ⟨st, a, c, p1, rfl, o1, hst, hp1, R1, M1⟩
 have zM1 := M1.size
 try simp only [qz] at zM1
 try dsimp only at o1 R1 M1
 have zM1 := M1.size
 simp only [World.size_alloc, Ac] at zM1 o1
 have X1 : hp w1 w.heap.size = some (.cells #[.slice none 0 0] 44 (0, 0)) := (M1.Ah w.heap.size xN (by omega)).trans (by first | assumption | rfl | (simp (disch := first | exact xD | fail) [-Option.bind_some, qs, -Aa, -Ab, qm, M1.Ah]; done))
 have N1 : Mod (fun b => b = g) w w1 := (Mod.of xE _).tr M1
 simp (disch := first | exact xD | fail) [-Option.bind_some, qs, -Aa, -Ab, qm, M1.Ah, X1]
 have o1b : O AB (fun b => w.heap.size < b ∧ b < w1.heap.size) w1 [.slice a 4 c] st := o1.wide (fun b h q => ⟨h, q⟩)
 have N2 : Mod (fun b => b = g) w ((w1.alloc (.cells #[.slice none 0 0] 44)).setRow w1.heap.size #[.slice a 4 c]) := (N1.al _).AE (.inl (by omega)) _
 have R2 : R ((w1.alloc (.cells #[.slice none 0 0] 44)).setRow w1.heap.size #[.slice a 4 c]) B g p1 := R1.ext xE
 have X2 : hp ((w1.alloc (.cells #[.slice none 0 0] 44)).setRow w1.heap.size #[.slice a 4 c]) w.heap.size = some (.cells #[.slice none 0 0] 44 (0, 0)) := (Ad (by omega)).trans ((Ae (by omega)).trans X1)
 have X3 : hp ((w1.alloc (.cells #[.slice none 0 0] 44)).setRow w1.heap.size #[.slice a 4 c]) w1.heap.size = some (.cells #[.slice a 4 c] 44 (0, 0)) := (by first | assumption | rfl | (simp (disch := first | exact xD | fail) [-Option.bind_some, qs, -Aa, -Ab, qm, M1.Ah, X1, X2]; done))
 have o2 := o1b.Ak (w' := (w1.alloc (.cells #[.slice none 0 0] 44)).setRow w1.heap.size #[.slice a 4 c]) (by intro b hS hb; (try dsimp only at hS); (try simp only [In, qz] at hS hb); first | rfl | (simp (disch := first | exact xF | fail) only [M1.Ah, qk]; done))
 generalize hW : (w1.alloc (.cells #[.slice none 0 0] 44)).setRow w1.heap.size #[.slice a 4 c] = W at *
 have sW : W.heap.size = w1.heap.size + 1 := by rw [← hW, size_setRow, World.size_alloc]
 have hl2 := R2.lt
 have fin : ∀ (e : Env) (U : World) (a' : Option Addr) (c' : Nat) (st' : List Ver) (p' : Nat), e 2 = pt w.heap.size 0 → e 3 = pt w1.heap.size 0 → hp U w.heap.size = some (.cells #[.slice none 0 0] 44 (0, 0)) → hp U w1.heap.size = some (.cells #[.slice a' st'.length c'] 44 (0, 0)) →
   D AB (fun b => w.heap.size < b) U [.slice a' st'.length c'] st' → p' ≤ p + 500 → R U B g p' → Mod (fun b => b = g) w U → Ag (Bi e U) Q := by
  intro e U a' c' st' p' e2 e3 Z2 Z3 hd hp' hR hM
  rw [Gd]
  simp (disch := first | exact xD | fail) [-Option.bind_some, qs, -Aa, -Ab, qm, e2, e3, Z2, Z3, M1.Ah, X1, X2, X3]
  exact hQ _ ⟨st', a', c', p', rfl, (hd.Ak (fun b hS hb => Ad (by omega))).wide (fun b h _ => by omega), by omega, hR.Ak (fun b h hb => Ad (by omega)), hM.AE (.inl (by omega)) _⟩
 refine Ag.bind (Al (k := 10) (by omega) (by omega) (by omega) R2) ?_
 rintro ⟨_, w3⟩ ⟨m, rfl, hm, R3, M3⟩
 have zM3 := M3.size
 try simp only [qz] at zM3
 try dsimp only at R3 M3
 have zM3 := M3.size
 have N3 := N2.tr M3
 have Z2 : hp w3 w.heap.size = _ := (M3.Ah w.heap.size (by omega) (by omega)).trans X2
 have Z3 : hp w3 w1.heap.size = _ := (M3.Ah w1.heap.size (by omega) (by omega)).trans X3
 have o3 : O AB (fun b => w.heap.size < b ∧ b < w1.heap.size) w3 [.slice a 4 c] st := o2.Ak (fun b hb hs => M3.Ah b hs (by omega))
 by_cases h0 : m = 0
 ·subst h0
  obtain ⟨v0, tl, rfl⟩ : ∃ v0 tl, st = v0 :: tl := by
   cases st with
   | nil => simp at hst
   | cons v0 tl => exact ⟨v0, tl, rfl⟩
  have htl : tl.length = 3 := by simpa using hst
  obtain ⟨gp, cur, cs, S1, rfl, hSg, hgl, hg, hle, hx1, hS1, put⟩ := o3.row (by decide) (i := 0) (x := v0) rfl
  have hc4 := o3.clip
  simp (disch := first | exact xD | fail) [-Option.bind_some, qs, -Aa, -Ab, qm, Z3, TA (P := P) Cj, show (1 : Int).toNat ≠ c by have := hc4.1; omega, M1.Ah, X1, X2, X3, M3.Ah, hg]
  refine fin _ _ (some ⟨gp, 6, none⟩) (c - 1) tl (p1 + 1) xA xA ((Ad (by omega)).trans Z2) ?_ ?_ (by omega) (R3.Ak (fun b h hb => Ad (by omega))) (N3.AE (.inl (by omega)) _)
  ·rw [htl]
   exact (by first | assumption | rfl | (simp (disch := first | exact xD | fail) [-Option.bind_some, qs, -Aa, -Ab, qm, Z3, M1.Ah, X1, X2, X3, M3.Ah, hg]; done))
  ·exact ((D.tail (by decide) o3.d).Ak (fun b hS hb => Ad (by omega))).wide (fun b h _ => by omega)
 have f0 : ((m : Int) == 0) = false := by rw [beq_eq_false_iff_ne]; omega
 by_cases h1 : m = 1
 ·subst h1
  simp (disch := first | exact xD | fail) [-Option.bind_some, qs, -Aa, -Ab, qm, Z3, M1.Ah, X1, X2, X3, M3.Ah]
  refine Ag.bind (Al (k := 4) (by omega) (by omega) (by omega) (R3.ext xE)) ?_
  rintro ⟨_, w4⟩ ⟨k, rfl, hk, R4, M4⟩
  have zM4 := M4.size
  try simp only [qz] at zM4
  try dsimp only at R4 M4
  have zM4 := M4.size
  simp only [Ac] at zM4
  have U3 : hp w4 w1.heap.size = _ := (M4.Ah w1.heap.size xN (by omega)).trans ((Bg _ _).trans Z3)
  have U2 : hp w4 w.heap.size = _ := (M4.Ah w.heap.size xN (by omega)).trans ((Bg _ _).trans Z2)
  simp (disch := first | exact xD | fail) [-Option.bind_some, qs, -Aa, -Ab, qm, U3, M1.Ah, X1, X2, X3, M3.Ah, M4.Ah]
  refine Ag.bind (JR (by omega) R4) ?_
  rintro ⟨_, w5⟩ ⟨v, ds, p5, rfl, d5, hp5, R5, M5⟩
  have zM5 := M5.size
  try simp only [qz] at zM5
  try dsimp only at d5 R5 M5
  have zM5 := M5.size
  have V3 : hp w5 w1.heap.size = _ := (M5.Ah w1.heap.size (by omega) (by omega)).trans U3
  have V2 : hp w5 w.heap.size = _ := (M5.Ah w.heap.size (by omega) (by omega)).trans U2
  have o5 : O AB (fun b => w.heap.size < b ∧ b < w1.heap.size) w5 [.slice a 4 c] st := o3.Ak (fun b hb hs => (M5.Ah b (by omega) (by omega)).trans ((M4.Ah b xN (by omega)).trans (Bg _ _)))
  obtain ⟨v0, hv0, _⟩ := Am (l := st) (k := k) (by omega)
  obtain ⟨gp, _, _, _, rfl, hSg, hgl, _⟩ := o5.row (by decide) hv0
  obtain ⟨cur, cs, hg, hle, hcs, hd, put⟩ := (o5.TV.wide (S' := fun b => (w.heap.size < b ∧ b < w1.heap.size ∨ w4.heap.size ≤ b) ∧ b ≠ gp) (fun b h _ => ⟨.inl h.1, h.2⟩) (fun b h => h.2)).row hv0
  simp only [AX] at hg hle hcs put
  have hds := d5.len
  rw [AX] at hds
  obtain ⟨x1, x2, rfl, _⟩ := D.Bv.1 hd
  obtain ⟨y1, y2, rfl, _⟩ := D.Bv.1 d5
  simp (disch := first | exact xD | fail) [-Option.bind_some, qs, -Aa, -Ab, qm, V3, hg, AW, hk, show (k : Int) < 4 by omega, M1.Ah, X1, X2, X3, M3.Ah, M4.Ah, M5.Ah]
  have rw1 := put (w5.setRow gp (Ba cur (k * 6) [i64 v.key, i64 v.tag.t, i64 v.tag.p, .slice y1 v.past.length y2, .string v.text, .bool v.gone]).toArray) [i64 v.key, i64 v.tag.t, i64 v.tag.p, .slice y1 v.past.length y2, .string v.text, .bool v.gone] v ((d5.Ak (fun b hb hs => Ad (by omega))).wide (fun b h _ => ⟨.inr h, by omega⟩)) (by first | assumption | rfl | (simp (disch := first | exact xD | fail) [-Option.bind_some, qs, -Aa, -Ab, qm, hg, M1.Ah, X1, X2, X3, M3.Ah, M4.Ah, M5.Ah]; done)) (fun b hb hSb => Ad hSb.2)
  have hs4 : (st.set k v).length = 4 := by rw [List.length_set]; exact hst
  refine fin _ _ (some ⟨gp, 0, none⟩) c (st.set k v) p5 xA xA ((Ad (by omega)).trans V2) ?_ ((rw1.d (mx := 1954687338211) (by omega) (by omega) c).wide (fun b h _ => by omega)) (by omega) (R5.Ak (fun b h hb => Ad (by omega))) ?_
  ·rw [hs4]
   exact (Ad (by omega)).trans V3
  ·exact (((N3.tr (Mod.of xE _)).tr M4).tr M5).AE (.inl (by omega)) _
 have f1 : ((m : Int) == 1) = false := by rw [beq_eq_false_iff_ne]; omega
 by_cases h2 : m = 2
 ·subst h2
  simp (disch := first | exact xD | fail) [-Option.bind_some, qs, -Aa, -Ab, qm, Z3, M1.Ah, X1, X2, X3, M3.Ah]
  refine Ag.bind (Al (k := 4) (by omega) (by omega) (by omega) (R3.ext xE)) ?_
  rintro ⟨_, w4⟩ ⟨k, rfl, hk, R4, M4⟩
  have zM4 := M4.size
  try simp only [qz] at zM4
  try dsimp only at R4 M4
  have zM4 := M4.size
  simp only [Ac] at zM4
  have U3 : hp w4 w1.heap.size = _ := (M4.Ah w1.heap.size xN (by omega)).trans ((Bg _ _).trans Z3)
  have U2 : hp w4 w.heap.size = _ := (M4.Ah w.heap.size xN (by omega)).trans ((Bg _ _).trans Z2)
  have o4 : O AB (fun b => w.heap.size < b ∧ b < w1.heap.size) w4 [.slice a 4 c] st := o3.Ak (fun b hb hs => ((M4.Ah b xN (by omega)).trans (Bg _ _)))
  obtain ⟨v0, hv0, _⟩ := Am (l := st) (k := k) (by omega)
  obtain ⟨gp, _, _, _, rfl, hSg, hgl, _⟩ := o4.row (by decide) hv0
  obtain ⟨cur, cs, hg, hle, hcs, hd, put⟩ := o4.TV.row hv0
  simp only [AX] at hg hle hcs put
  obtain ⟨x1, x2, rfl, _⟩ := D.Bv.1 hd
  simp (disch := first | exact xD | fail) [-Option.bind_some, qs, -Aa, -Ab, qm, U3, hg, AW, hk, show (k : Int) < 4 by omega, M1.Ah, X1, X2, X3, M3.Ah, M4.Ah]
  have rw1 := put (w4.setRow gp (Ba cur (k * 6) [i64 0, i64 0, i64 0, .slice none 0 0, .string ⟨#[120]⟩, .bool false]).toArray) [i64 0, i64 0, i64 0, .slice none 0 0, .string ⟨#[120]⟩, .bool false] ⟨0, ⟨0, 0⟩, [], ⟨#[120]⟩, false⟩ (D.Bv.2 ⟨none, 0, rfl, D.nil _ _, by decide⟩) (by first | assumption | rfl | (simp (disch := first | exact xD | fail) [-Option.bind_some, qs, -Aa, -Ab, qm, hg, M1.Ah, X1, X2, X3, M3.Ah, M4.Ah]; done)) (fun b hb hSb => Ad hSb.2)
  have hs4 : (st.set k ⟨0, ⟨0, 0⟩, [], ⟨#[120]⟩, false⟩).length = 4 := by rw [List.length_set]; exact hst
  refine fin _ _ (some ⟨gp, 0, none⟩) c (st.set k ⟨0, ⟨0, 0⟩, [], ⟨#[120]⟩, false⟩) (p1 + 1 + 1) xA xA ((Ad (by omega)).trans U2) ?_ ((rw1.d (mx := 1954687338211) (by omega) (by omega) c).wide (fun b h _ => by omega)) (by omega) (R4.Ak (fun b h hb => Ad (by omega))) ?_
  ·rw [hs4]
   exact (Ad (by omega)).trans U3
  ·exact ((N3.tr (Mod.of xE _)).tr M4).AE (.inl (by omega)) _
 have f2 : ((m : Int) == 2) = false := by rw [beq_eq_false_iff_ne]; omega
 simp (disch := first | exact xD | fail) [-Option.bind_some, qs, -Aa, -Ab, qm, f0, f1, f2, M1.Ah, X1, X2, X3, M3.Ah]
 refine fin _ _ a c st (p1 + 1) xA xA Z2 ?_ (by rw [hst]; exact o3.d.wide (fun b h _ => h.1)) (by omega) R3 N3
 rw [hst]
 exact Z3
theorem Ln {Q : Value × World → Prop} {g2 g3 i ca co : Nat} {aa ao : Option Addr} {Sa : Nat → Prop} {xs l : List Ver} {x : Ver} {w0 : World} (hx4 : xs.length = 4) (hl4 : l.length ≤ 100) (hi : i < 4) (hx : xs[i]? = some x)
  (X2 : hp w0 g2 = some (.cells #[.slice aa 4 ca] 44 (0, 0))) (ha : D AB Sa w0 [.slice aa 4 ca] xs)
  (hnext : ∀ (e' : Env) (W : World) (a' : Option Addr) (c' : Nat) (l' : List Ver), e' 2 = pt g2 0 → e' 3 = pt g3 0 → e' 6 = i64 i → e' 5 = .slice a' l'.length c' → l'.length = l.length + 1 → (∀ v ∈ l', v ∈ l ∨ v = x) → O AB (fun b => w0.heap.size ≤ b) W [.slice a' l'.length c'] l' → Ext w0 W → Ag (Cm e' W) Q) :
  ∀ (d k : Nat) (e : Env) (w : World), k + d = l.length → e 2 = pt g2 0 → e 3 = pt g3 0 → e 6 = i64 i → e 5 = .slice ao l.length co → e 7 = i64 k → Ext w0 w → O AB (fun b => w0.heap.size ≤ b) w [.slice ao l.length co] l → Ag (Dj e w) Q := by
 have hi0 : (i : Int) < 4 := by omega
 have ins : ∀ (k : Nat) (w : World), k ≤ l.length → Ext w0 w → O AB (fun b => w0.heap.size ≤ b) w [.slice ao l.length co] l → True := fun _ _ _ _ _ => trivial
 intro d
 induction d with
 | zero =>
  intro k e w hd e2 e3 e6 e5 e7 E0 ho
  have zE0 := E0.size
  try simp only [qz] at zE0
  rw [E8]
  have hk : ¬ k < l.length := by omega
  have hk0 : ¬ (k : Int) < l.length := by omega
  have hkl : k ≤ l.length := by omega
  have y2 := Aq X2
  have X2' : hp w g2 = some (.cells #[.slice aa 4 ca] 44 (0, 0)) := (E0.Ah y2).trans X2
  obtain ⟨css, S1, S2, a9, c9, L1, L2, d1, d2, sl1, sl2, A1, A2, dB⟩ := ho.parts (by decide) Cj (k := k) hkl
  simp (disch := first | exact xD | fail) [-Option.bind_some, -Aa, -Ab, e2, e5, e6, e7, hk0, sl1, sl2]
  refine Ag.bind (O.O0 (P := P) (L := Bz) (mx := 1954687338211) (xs := []) (ys := l.take k) (ty := 42) Cj Ed rfl (by decide) (O.empty (L := Bz) (mx := 1954687338211) (g := w.heap.size) (by first | assumption | rfl | (simp (disch := first | exact xD | fail) [-Option.bind_some, qs, -Aa, -Ab]; done))) (L1.Ak (by intro b hS hb; (try dsimp only at hS); (try simp only [In, qz] at hS hb); first | rfl | (simp (disch := first | exact xF | fail) only [qk]; done))) (fun b hb h1 h2 => by have := (d1 b h2).2.2; have h1 : b = w.heap.size := h1; omega) (A1.imp id fun ⟨b, o, h1, h2, h4⟩ => ⟨b, o, h1, h4.mono (Ext.Ak xE)⟩) (by rw [List.length_take]; omega) (by simp; omega) (by decide) (by decide)) ?_
  rintro ⟨_, w1⟩ ⟨a1, c1, rfl, o1, M1⟩
  have zM1 := M1.size
  try simp only [qz] at zM1
  try dsimp only at o1 M1
  have zM1 := M1.size
  simp only [World.size_alloc, Ac, List.length_nil, Nat.zero_add, List.nil_append] at zM1 o1
  have F1 : Ext w w1 := Mod.after xE M1 (fun b h1 h2 => by have h2 : b = w.heap.size := h2; omega)
  have Z2 : hp w1 g2 = some (.cells #[.slice aa 4 ca] 44 (0, 0)) := (F1.Ah (by have := E0.size; omega)).trans X2'
  obtain ⟨b1, o4, cs1, hab, A4, D4, _, l4⟩ := (ha.ext (E0.tr F1)).at (by decide) hx
  obtain ⟨a5, c5, rfl, _, _⟩ := D.Bv.1 D4
  subst hab
  have p0 := A4 0 _ rfl
  have p1 := A4 1 _ rfl
  have p2 := A4 2 _ rfl
  have p3 := A4 3 _ rfl
  have p4 := A4 4 _ rfl
  have p5 := A4 5 _ rfl
  simp only [AX, Nat.add_zero] at p0 p1 p2 p3 p4 p5
  simp (disch := first | exact xD | fail) [-Option.bind_some, -Aa, -Ab, Z2, AW, p0, p1, p2, p3, p4, p5]
  refine Ag.bind (AZ D4) ?_
  rintro ⟨_, w2⟩ ⟨es, rfl, o2, E2⟩
  try dsimp only at es o2 E2
  have zE2 := E2.size
  try simp only [qz] at zE2
  have zds := O.Bv.1 o2
  obtain ⟨ae, ce, rfl, _, _⟩ := zds
  simp (disch := first | exact xD | fail) [-Option.bind_some, -Aa, -Ab]
  refine Ag.bind (O.app (P := P) (L := Bz) (x := x) (mx := 1954687338211) (xs := l.take k) (sv := .slice a1 k c1) (ty := 42) (S1 := In w1.heap.size w2.heap.size) Cj Ed rfl (by decide) (o1.Ak (fun b hS hb => (by first | assumption | rfl | (simp (disch := first | exact xD | fail) [-Option.bind_some, qs, E2.Ah]; done)))) (o2.Ak (by intro b hS hb; (try dsimp only at hS); (try simp only [In] at hS hb); first | rfl | (simp (disch := first | exact xF | fail) only [qk]; done))) (fun b hb h1 h2 => by simp only [In] at h2; rcases h1 with h | h | h; have h : b = w.heap.size := h; omega; have := (d1 b h).2.2; omega; omega) At.new (by rw [List.length_take]; omega) (by decide) (by decide)) ?_
  rintro ⟨_, w3⟩ ⟨a3, c3, rfl, o3, M3⟩
  have zM3 := M3.size
  try simp only [qz] at zM3
  try dsimp only at o3 M3
  have zM3 := M3.size
  simp only [World.size_alloc, List.length_take, Nat.min_eq_left hkl] at zM3 o3
  have zE2' := E2.size
  have zE0 := E0.size
  have F3 : Ext w0 w3 := Mod.after ((E0.tr F1).tr xE) M3 (fun b h1 h2 => by rcases h2 with h | h | h; have h : b = w.heap.size := h; omega; have := (d1 b h).1; omega; omega)
  have kr : ∀ b, ¬ S1 b → b < w.heap.size → hp w3 b = hp w b := fun b hn hb => (M3.Ah b xN (fun h => by rcases h with h | h | h; have h : b = w.heap.size := h; omega; exact hn h; omega)).trans (by first | assumption | rfl | (simp (disch := first | exact xD | fail) [-Option.bind_some, qs, F1.Ah, E2.Ah]; done))
  have k3 : ∀ b, S2 b → b < w.heap.size → hp w3 b = hp w b := fun b hS hb => (M3.Ah b xN (fun h => by rcases h with h | h | h; have h : b = w.heap.size := h; omega; exact (d2 b hS).2.1 h; omega)).trans (by first | assumption | rfl | (simp (disch := first | exact xD | fail) [-Option.bind_some, qs, F1.Ah, E2.Ah]; done))
  simp only [List.length_take, Nat.min_eq_left hkl]
  refine Ag.bind (O.O0 (P := P) (L := Bz) (mx := 1954687338211) (ys := l.drop k) (ty := 42) Cj Ed rfl (by decide) o3 (L2.Ak (fun b hS hb => k3 b hS hb)) (fun b hb h1 h2 => ?_) (A2.imp id fun ⟨b, o, h1, h2, h4⟩ => ⟨b, o, h1, h4.same (kr b h2.2.1 h2.2.2.2)⟩) (by rw [List.length_drop] <;> omega) (by simp only [List.length_append, List.length_take, List.length_cons, List.length_nil]; omega) (by decide) (by decide)) ?_
  ·have q := d2 b h2
   rcases h1 with (h | h | h) | h | h
   ·have h : b = w.heap.size := h
    omega
   ·exact q.2.1 h
   ·omega
   ·simp only [In] at h
    omega
   ·omega
  rintro ⟨_, w5⟩ ⟨a5', c5', rfl, o5, M5⟩
  have zM5 := M5.size
  try simp only [] at zM5
  try dsimp only at o5 M5
  have zM5 := M5.size
  have F5 : Ext w0 w5 := Mod.after F3 M5 (fun b h1 h2 => by
   rcases h2 with (h | h | h) | h | h
   ·have h : b = w.heap.size := h
    omega
   ·have := (d1 b h).1
    omega
   ·omega
   ·simp only [In] at h
    omega
   ·omega)
  obtain ⟨l', hl'⟩ : ∃ l' : List Ver, l' = l.take k ++ [x] ++ l.drop k := ⟨_, rfl⟩
  have hl7 : l'.length = l.length + 1 := by rw [hl']; simp only [List.length_append, List.length_take, List.length_drop, List.length_cons, List.length_nil]; omega
  have hl8 : (l.take k ++ [x]).length = k + 1 := by simp only [List.length_append, List.length_take, List.length_cons, List.length_nil]; omega
  rw [← hl', hl8] at o5
  rw [hl8]
  have hm5 : k + 1 + (l.length - k) = l'.length := by omega
  refine hnext _ w5 a5' c5' l' xA xA xA ?_ hl7 ?_ ((?_ : O AB _ w5 [.slice a5' l'.length c5'] l').wide (S := fun b => ((b = w.heap.size ∨ S1 b ∨ w.heap.size + 1 ≤ b ∧ b < w1.heap.size) ∨ In w1.heap.size w2.heap.size b ∨ w2.heap.size + 1 ≤ b ∧ b < w3.heap.size) ∨ S2 b ∨ w3.heap.size ≤ b ∧ b < w5.heap.size) ?_) F5
  ·show Value.slice a5' _ c5' = Value.slice a5' _ c5'
   congr 1 <;> omega
  ·intro v hv
   rw [hl'] at hv
   simp only [List.mem_append, List.mem_singleton] at hv
   rcases hv with (h | h) | h
   ·exact .inl (List.mem_of_mem_take h)
   ·exact .inr h
   ·exact .inl (List.mem_of_mem_drop h)
  ·first
    | (rw [hm5] at o5; exact o5)
    | (rw [show k + 1 + 0 = l'.length by omega] at o5; exact o5)
  ·intro b h hb
   rcases h with (h | h) | h | h
   ·rcases h with h | h | h
    ·omega
    ·exact (d1 b h).1
    ·omega
   ·simp only [In] at h
    omega
   ·exact (d2 b h).1
   ·omega
 | succ d ih =>
  intro k e w hd e2 e3 e6 e5 e7 E0 ho
  have zE0 := E0.size
  try simp only [qz] at zE0
  rw [E8]
  have hk : k < l.length := by omega
  have hk0 : (k : Int) < l.length := by omega
  have hkl : k ≤ l.length := by omega
  have y2 := Aq X2
  have X2' : hp w g2 = some (.cells #[.slice aa 4 ca] 44 (0, 0)) := (E0.Ah y2).trans X2
  obtain ⟨u, hu, _⟩ := Am hk
  obtain ⟨b6, o6, cs6, hab6, A6, D6, _, l6⟩ := ho.d.at (by decide) hu
  obtain ⟨a6, c6, rfl, _, _⟩ := D.Bv.1 D6
  subst hab6
  have A6q : At w b6 (o6 + k * 6) [i64 u.key, i64 u.tag.t, i64 u.tag.p, .slice a6 u.past.length c6, .string u.text, .bool u.gone] := A6
  have q0 := A6q 0 _ rfl
  have q1 := A6q 1 _ rfl
  have q2 := A6q 2 _ rfl
  have q3 := A6q 3 _ rfl
  have q4 := A6q 4 _ rfl
  have q5 := A6q 5 _ rfl
  simp only [Nat.add_zero] at q0 q1 q2 q3 q4 q5
  obtain ⟨b7, o7, cs7, hab7, A7, D7, _, l7⟩ := (ha.ext E0).at (by decide) hx
  obtain ⟨a7, c7, rfl, _, _⟩ := D.Bv.1 D7
  subst hab7
  have A7q : At w b7 (o7 + i * 6) [i64 x.key, i64 x.tag.t, i64 x.tag.p, .slice a7 x.past.length c7, .string x.text, .bool x.gone] := A7
  have r0 := A7q 0 _ rfl
  have r1 := A7q 1 _ rfl
  have r2 := A7q 2 _ rfl
  have r3 := A7q 3 _ rfl
  have r4 := A7q 4 _ rfl
  have r5 := A7q 5 _ rfl
  simp only [Nat.add_zero] at r0 r1 r2 r3 r4 r5
  simp (disch := first | exact xD | fail) [-Option.bind_some, qs, -Aa, -Ab, e2, e5, e6, e7, hk0, X2', AW, q1, q2, r1, r2]
  refine Ag.bind (AN u.tag x.tag _) ?_
  rintro ⟨_, w⟩ ⟨rfl, E9⟩
  try dsimp only at E9
  have zE9 := E9.size
  try simp only [qz] at zE9
  have E9x := (Cc _).tr E9
  have zE9x := E9x.size
  try simp only [qz] at zE9x
  have ho := ho.ext E9x
  have E0 : Ext w0 w := E0.tr E9x
  have zE0 := E0.size
  try simp only [qz] at zE0
  have X2' : hp w g2 = some (.cells #[.slice (some ⟨b7, o7, none⟩) 4 ca] 44 (0, 0)) := (E0.Ah y2).trans X2
  cases hlt : AH u.tag x.tag
  ·skip
   obtain ⟨css, S1, S2, a9, c9, L1, L2, d1, d2, sl1, sl2, A1, A2, dB⟩ := ho.parts (by decide) Cj (k := k) hkl
   simp (disch := first | exact xD | fail) [-Option.bind_some, -Aa, -Ab, sl1, sl2]
   refine Ag.bind (O.O0 (P := P) (L := Bz) (mx := 1954687338211) (xs := []) (ys := l.take k) (ty := 42) Cj Ed rfl (by decide) (O.empty (L := Bz) (mx := 1954687338211) (g := w.heap.size) (by first | assumption | rfl | (simp (disch := first | exact xD | fail) [-Option.bind_some, qs, -Aa, -Ab]; done))) (L1.Ak (by intro b hS hb; (try dsimp only at hS); (try simp only [In, qz] at hS hb); first | rfl | (simp (disch := first | exact xF | fail) only [qk]; done))) (fun b hb h1 h2 => by have := (d1 b h2).2.2; have h1 : b = w.heap.size := h1; omega) (A1.imp id fun ⟨b, o, h1, h2, h4⟩ => ⟨b, o, h1, h4.mono (Ext.Ak xE)⟩) (by rw [List.length_take]; omega) (by simp; omega) (by decide) (by decide)) ?_
   rintro ⟨_, w1⟩ ⟨a1, c1, rfl, o1, M1⟩
   have zM1 := M1.size
   try simp only [qz] at zM1
   try dsimp only at o1 M1
   have zM1 := M1.size
   simp only [World.size_alloc, List.length_nil, Nat.zero_add, List.nil_append] at zM1 o1
   have F1 : Ext w w1 := Mod.after xE M1 (fun b h1 h2 => by have h2 : b = w.heap.size := h2; omega)
   have Z2 : hp w1 g2 = some (.cells #[.slice (some ⟨b7, o7, none⟩) 4 ca] 44 (0, 0)) := (F1.Ah (by have := E0.size; omega)).trans X2'
   simp (disch := first | exact xD | fail) [-Option.bind_some, qs, -Aa, -Ab, Z2, AW, r0, r1, r2, r3, r4, r5, E9.Ah, M1.Ah]
   refine Ag.bind (AZ (D7.ext (E9x.tr F1))) ?_
   rintro ⟨_, w2⟩ ⟨es, rfl, o2, E2⟩
   try dsimp only at es o2 E2
   have zE2 := E2.size
   try simp only [qz] at zE2
   have zds := O.Bv.1 o2
   obtain ⟨ae, ce, rfl, _, _⟩ := zds
   simp (disch := first | exact xD | fail) [-Option.bind_some, -Aa, -Ab]
   refine Ag.bind (O.app (P := P) (L := Bz) (x := x) (mx := 1954687338211) (xs := l.take k) (sv := .slice a1 k c1) (ty := 42) (S1 := In w1.heap.size w2.heap.size) Cj Ed rfl (by decide) (o1.Ak (fun b hS hb => (by first | assumption | rfl | (simp (disch := first | exact xD | fail) [-Option.bind_some, qs, E2.Ah]; done)))) (o2.Ak (by intro b hS hb; (try dsimp only at hS); (try simp only [In] at hS hb); first | rfl | (simp (disch := first | exact xF | fail) only [qk]; done))) (fun b hb h1 h2 => by simp only [In] at h2; rcases h1 with h | h | h; have h : b = w.heap.size := h; omega; have := (d1 b h).2.2; omega; omega) At.new (by rw [List.length_take]; omega) (by decide) (by decide)) ?_
   rintro ⟨_, w3⟩ ⟨a3, c3, rfl, o3, M3⟩
   have zM3 := M3.size
   try simp only [qz] at zM3
   try dsimp only at o3 M3
   have zM3 := M3.size
   simp only [World.size_alloc, List.length_take, Nat.min_eq_left hkl] at zM3 o3
   have zE2' := E2.size
   have zE0 := E0.size
   have F3 : Ext w0 w3 := Mod.after ((E0.tr F1).tr xE) M3 (fun b h1 h2 => by rcases h2 with h | h | h; have h : b = w.heap.size := h; omega; have := (d1 b h).1; omega; omega)
   have kr : ∀ b, ¬ S1 b → b < w.heap.size → hp w3 b = hp w b := fun b hn hb => (M3.Ah b xN (fun h => by rcases h with h | h | h; have h : b = w.heap.size := h; omega; exact hn h; omega)).trans (by first | assumption | rfl | (simp (disch := first | exact xD | fail) [-Option.bind_some, qs, F1.Ah, E2.Ah]; done))
   have k3 : ∀ b, S2 b → b < w.heap.size → hp w3 b = hp w b := fun b hS hb => (M3.Ah b xN (fun h => by rcases h with h | h | h; have h : b = w.heap.size := h; omega; exact (d2 b hS).2.1 h; omega)).trans (by first | assumption | rfl | (simp (disch := first | exact xD | fail) [-Option.bind_some, qs, F1.Ah, E2.Ah]; done))
   simp only [List.length_take, Nat.min_eq_left hkl]
   refine Ag.bind (O.O0 (P := P) (L := Bz) (mx := 1954687338211) (ys := l.drop k) (ty := 42) Cj Ed rfl (by decide) o3 (L2.Ak (fun b hS hb => k3 b hS hb)) (fun b hb h1 h2 => ?_) (A2.imp id fun ⟨b, o, h1, h2, h4⟩ => ⟨b, o, h1, h4.same (kr b h2.2.1 h2.2.2.2)⟩) (by rw [List.length_drop] <;> omega) (by simp only [List.length_append, List.length_take, List.length_cons, List.length_nil]; omega) (by decide) (by decide)) ?_
   ·have q := d2 b h2
    rcases h1 with (h | h | h) | h | h
    ·have h : b = w.heap.size := h
     omega
    ·exact q.2.1 h
    ·omega
    ·simp only [In] at h
     omega
    ·omega
   rintro ⟨_, w5⟩ ⟨a5', c5', rfl, o5, M5⟩
   have zM5 := M5.size
   try simp only [] at zM5
   try dsimp only at o5 M5
   have zM5 := M5.size
   have F5 : Ext w0 w5 := Mod.after F3 M5 (fun b h1 h2 => by
    rcases h2 with (h | h | h) | h | h
    ·have h : b = w.heap.size := h
     omega
    ·have := (d1 b h).1
     omega
    ·omega
    ·simp only [In] at h
     omega
    ·omega)
   obtain ⟨l', hl'⟩ : ∃ l' : List Ver, l' = l.take k ++ [x] ++ l.drop k := ⟨_, rfl⟩
   have hl7 : l'.length = l.length + 1 := by rw [hl']; simp only [List.length_append, List.length_take, List.length_drop, List.length_cons, List.length_nil]; omega
   have hl8 : (l.take k ++ [x]).length = k + 1 := by simp only [List.length_append, List.length_take, List.length_cons, List.length_nil]; omega
   rw [← hl', hl8] at o5
   rw [hl8]
   have hm5 : k + 1 + (l.length - k) = l'.length := by omega
   refine hnext _ w5 a5' c5' l' xA xA xA ?_ hl7 ?_ ((?_ : O AB _ w5 [.slice a5' l'.length c5'] l').wide (S := fun b => ((b = w.heap.size ∨ S1 b ∨ w.heap.size + 1 ≤ b ∧ b < w1.heap.size) ∨ In w1.heap.size w2.heap.size b ∨ w2.heap.size + 1 ≤ b ∧ b < w3.heap.size) ∨ S2 b ∨ w3.heap.size ≤ b ∧ b < w5.heap.size) ?_) F5
   ·show Value.slice a5' _ c5' = Value.slice a5' _ c5'
    congr 1 <;> omega
   ·intro v hv
    rw [hl'] at hv
    simp only [List.mem_append, List.mem_singleton] at hv
    rcases hv with (h | h) | h
    ·exact .inl (List.mem_of_mem_take h)
    ·exact .inr h
    ·exact .inl (List.mem_of_mem_drop h)
   ·first
     | (rw [hm5] at o5; exact o5)
     | (rw [show k + 1 + 0 = l'.length by omega] at o5; exact o5)
   ·intro b h hb
    rcases h with (h | h) | h | h
    ·rcases h with h | h | h
     ·omega
     ·exact (d1 b h).1
     ·omega
    ·simp only [In] at h
     omega
    ·exact (d2 b h).1
    ·omega
  ·simp (disch := first | exact xD | fail) [-Option.bind_some, -Aa, -Ab]
   exact ih (k + 1) _ w (by omega) xA xA xA xA (by first | rfl | (simp; done) | exact congrArg i64 (by omega)) E0 ho
theorem Lo {g2 g3 ca cb : Nat} {aa ab : Option Addr} {Sa Sb : Nat → Prop} {xs ys : List Ver} {w0 : World} (hx4 : xs.length = 4) (hy4 : ys.length = 4)
  (X2 : hp w0 g2 = some (.cells #[.slice aa 4 ca] 44 (0, 0))) (X3 : hp w0 g3 = some (.cells #[.slice ab 4 cb] 44 (0, 0))) (ha : D AB Sa w0 [.slice aa 4 ca] xs) (hb : D AB Sb w0 [.slice ab 4 cb] ys) :
  ∀ (d i : Nat) (e : Env) (w : World) (ao : Option Addr) (co : Nat) (l : List Ver), i + d = 4 → l.length ≤ i → (∀ v ∈ l, v ∈ xs) → e 2 = pt g2 0 → e 3 = pt g3 0 → e 6 = i64 i → e 5 = .slice ao l.length co → Ext w0 w → O AB (fun b => w0.heap.size ≤ b) w [.slice ao l.length co] l →
   Ag (Di e w) fun r => ∃ (l' : List Ver) (a' : Option Addr) (c' : Nat), r.1 = .slice a' l'.length c' ∧ O AB (fun b => w0.heap.size ≤ b) r.2 [.slice a' l'.length c'] l' ∧ l'.length ≤ 4 ∧ (∀ v ∈ l', v ∈ xs) ∧ Ext w0 r.2 := by
 intro d
 induction d with
 | zero =>
  intro i e w ao co l hd hli hm e2 e3 e6 e5 E0 ho
  have zE0 := E0.size
  try simp only [qz] at zE0
  rw [E7]
  obtain rfl : i = 4 := by omega
  refine Ag.post fun Q hQ => ?_
  simp (disch := first | exact xD | fail) [-Option.bind_some, -Aa, -Ab, e5, e6]
  exact hQ _ ⟨l, ao, co, rfl, ho.Ak (by intro b hS hb; (try dsimp only at hS); (try simp only [In, qz] at hS hb); first | rfl | (simp (disch := first | exact xF | fail) only [E0.Ah, qk]; done)), by omega, hm, xE⟩
 | succ d ih =>
  intro i e w ao co l hd hli hm e2 e3 e6 e5 E0 ho
  have zE0 := E0.size
  try simp only [qz] at zE0
  rw [E7]
  have hlt : i < 4 := by omega
  have hlt0 : (i : Int) < 4 := by omega
  have y2 := Aq X2
  have y3 := Aq X3
  have X2' : hp w g2 = some (.cells #[.slice aa 4 ca] 44 (0, 0)) := (E0.Ah y2).trans X2
  have X3' : hp w g3 = some (.cells #[.slice ab 4 cb] 44 (0, 0)) := (E0.Ah y3).trans X3
  obtain ⟨x, hx, _⟩ := Am (l := xs) (k := i) (by omega)
  obtain ⟨y, hy, _⟩ := Am (l := ys) (k := i) (by omega)
  obtain ⟨b6, o6, cs6, rfl, A6, D6, _, l6⟩ := (ha.ext E0).at (by decide) hx
  obtain ⟨a6, c6, rfl, _, _⟩ := D.Bv.1 D6
  have q0 := A6 0 _ rfl
  have q1 := A6 1 _ rfl
  have q2 := A6 2 _ rfl
  have q3 := A6 3 _ rfl
  have q4 := A6 4 _ rfl
  have q5 := A6 5 _ rfl
  simp only [AX, Nat.add_zero] at q0 q1 q2 q3 q4 q5
  obtain ⟨b7, o7, cs7, rfl, A7, D7, _, l7⟩ := (hb.ext E0).at (by decide) hy
  obtain ⟨a7, c7, rfl, _, _⟩ := D.Bv.1 D7
  have r0 := A7 0 _ rfl
  have r1 := A7 1 _ rfl
  have r2 := A7 2 _ rfl
  have r3 := A7 3 _ rfl
  have r4 := A7 4 _ rfl
  have r5 := A7 5 _ rfl
  simp only [AX, Nat.add_zero] at r0 r1 r2 r3 r4 r5
  refine Ag.post fun Q hQ => ?_
  simp (disch := first | exact xD | fail) [-Option.bind_some, -Aa, -Ab, e2, e3, e6, X2', X3', hlt0, AW, q1, q2, r1, r2]
  refine Ag.bind (AN y.tag x.tag _) ?_
  rintro ⟨_, w1⟩ ⟨rfl, E1⟩
  try dsimp only at E1
  have zE1 := E1.size
  try simp only [qz] at zE1
  have OO : ∀ (e' : Env) (W : World) (a' : Option Addr) (c' : Nat) (l' : List Ver), e' 2 = pt g2 0 → e' 3 = pt g3 0 → e' 6 = i64 i → e' 5 = .slice a' l'.length c' → l'.length ≤ i + 1 → (∀ v ∈ l', v ∈ xs) → O AB (fun b => w0.heap.size ≤ b) W [.slice a' l'.length c'] l' → Ext w0 W → Ag (Cm e' W) Q := by
   intro e' W a' c' l' f2 f3 f6 f5 hl' hm' ho' hE
   rw [IK]
   simp (disch := first | exact xD | fail) [-Option.bind_some, qs, -Aa, -Ab, f6]
   exact Ag.mono (ih (i + 1) _ W a' c' l' (by omega) hl' hm' xA xA (by first | rfl | (simp; done) | exact congrArg i64 (by omega)) xA hE ho') hQ
  have E1x := E0.tr ((Cc _).tr E1)
  have zE1x := E1x.size
  try simp only [qz] at zE1x
  have ho1 := ho.ext ((Cc _).tr E1)
  cases hls : AH y.tag x.tag
  ·simp (disch := first | exact xD | fail) [-Option.bind_some, -Aa, -Ab]
   exact OO _ _ ao co l xA xA xA xA (by omega) hm ho1 E1x
  ·simp (disch := first | exact xD | fail) [-Option.bind_some, -Aa, -Ab]
   refine Ln hx4 (by omega) hlt hx X2 ha (fun e' W a' c' l' f2 f3 f6 f5 hl' hm' ho' hE => OO e' W a' c' l' f2 f3 f6 f5 (by omega) (fun v hv => ?_) ho' hE) l.length 0 _ w1 (by omega) xA xA xA xA rfl E1x ho1
   rcases hm' v hv with h | rfl
   ·exact hm v h
   ·exact List.mem_of_getElem? hx
theorem Mv {a b : Option Addr} {n m c d : Nat} {S S' : Nat → Prop} {xs ys : List Ver} {w : World} (hx4 : xs.length = 4) (hy4 : ys.length = 4) (ha : D AB S w [.slice a n c] xs) (hb : D AB S' w [.slice b m d] ys) :
  Ag (EV P 140 #[.agg #[.slice a n c], .agg #[.slice b m d]] w) fun r => ∃ (l : List Ver) (a' : Option Addr) (c' : Nat), r.1 = .slice a' l.length c' ∧ O AB (fun b => w.heap.size ≤ b) r.2 [.slice a' l.length c'] l ∧ l.length ≤ 4 ∧ (∀ v ∈ l, v ∈ xs) ∧ Ext w r.2 := by
 obtain ⟨rfl, _, _⟩ := ha.n
 obtain ⟨rfl, _, _⟩ := hb.n
 rw [hx4, hy4]
 rw [hx4] at ha
 rw [hy4] at hb
 refine Ag.post fun Q hQ => ?_
 refine Ag.enter plain mixed (KT _ _ _) (by kernel_rfl) (n := 2) (by kernel_rfl) rfl ?_
 simp (disch := first | exact xD | fail) [-Option.bind_some, -Aa, -Ab]
 refine Ag.mono (Lo (g2 := w.heap.size) (g3 := w.heap.size + 1) (w0 := (w.alloc (.cells #[.slice a 4 c] 44)).alloc (.cells #[.slice b 4 d] 44)) hx4 hy4 (by first | assumption | rfl | (simp (disch := first | exact xD | fail) [-Option.bind_some, qs, -Aa, -Ab]; done)) (by first | assumption | rfl | (simp (disch := first | exact xD | fail) [-Option.bind_some, qs, -Aa, -Ab]; done)) (ha.ext xE) (hb.ext xE) 4 0 _ _ (some ⟨w.heap.size + 1 + 1, 0, none⟩) 0 [] (by omega) (by simp) (by simp) xA xA rfl rfl xE ((O.empty (L := Bz) (mx := 1954687338211) (g := w.heap.size + 1 + 1) (by first | assumption | rfl | (simp (disch := first | exact xD | fail) [-Option.bind_some, qs, -Aa, -Ab]; done))).wide xV)) ?_
 rintro r ⟨l', a', c', h1, h2, h3, h4, h5⟩
 exact hQ _ ⟨l', a', c', h1, h2.wide (fun b hb _ => by simp only [World.size_alloc] at hb; omega), h3, h4, (Ext.al (Ext.al Ext.rfl _) _).tr h5⟩
def Mw (v : Ver) : Prop := 0 ≤ v.key ∧ v.key ≤ 3 ∧ (0 < v.tag.t → v.past.length = 4)
def P5 (x : CNode) : Prop := x.store.length = 4 ∧ x.wait.length ≤ 6 ∧ (∀ v ∈ x.store, Mw v) ∧ (∀ v ∈ x.wait, Mw v)
theorem Mx {g1 g2 m c : Nat} {a : Option Addr} {S : Nat → Prop} {ms : List CNode} {x : CNode} {e : Env} {w : World} (hm : ms.length = m) (h0 : 0 < m) (h4 : m ≤ 100) (hx : ms[m - 1]? = some x) (e2 : e 2 = pt g1 0) (e4 : e 4 = pt g2 0) (e5 : e 5 = i64 m)
  (X1 : hp w g1 = some (.cells #[.slice a m c] 81 (0, 0))) (X2 : hp w g2 = some (.cells #[.slice none 0 0] 81 (0, 0))) (ho : O AU S w [.slice a m c] ms) (hg1 : ¬ S g1) (hg2 : ¬ S g2) (h12 : g1 ≠ g2) :
  Ag (Ck e w) fun r => r.1 = .agg #[.slice a m c] ∧ O AU S r.2 [.slice a m c] (ms.set (m - 1) ⟨x.store, []⟩) ∧ Mod (fun b => S b ∨ b = g2) w r.2 := by
 have y1 := Aq X1
 have y2 := Aq X2
 obtain ⟨g, cur, ds, S2, rfl, hSg, hgl, hg, hle, hx1, hS2, put⟩ := ho.NY (by decide) hx
 obtain ⟨a2, c2, a3, c3, Ss, Sw, rfl, o2, o3, hSs, hSw⟩ := O.KK hx1
 simp only [AO] at hg hle put
 have n1 : g ≠ g1 := fun h => hg1 (h ▸ hSg)
 have n2 : g ≠ g2 := fun h => hg2 (h ▸ hSg)
 rw [IG]
 refine Ag.post fun Q hQ => ?_
 simp (disch := first | exact xD | fail) [-Option.bind_some, qs, -Aa, -Ab, qm, e2, e4, e5, X1, X2, hg, Cr, show (m : Int) - 1 = ((m - 1 : Nat) : Int) by omega]
 have oW := put (w.setRow g (Ba cur ((m - 1) * 2) [.slice a2 x.store.length c2, .slice none 0 0]).toArray) _ ⟨x.store, []⟩ Ss ((O.FF (v := ⟨x.store, []⟩) (S2 := fun _ => False) (o2.Ak (fun b hS hb => Ad (hS2 b (hSs b hS).1).2.1)) O.nil (fun _ _ _ h => h)).wide (fun b h _ => h.elim id (fun h => h.elim))) (by first | assumption | rfl | (simp (disch := first | exact xD | fail) [-Option.bind_some, -Aa, -Ab, hg]; done))
  (fun b hb _ hne' hn => Ad hne') (fun b _ h => .inl (hSs b h).1)
 refine hQ _ ⟨rfl, (oW.Ak ?_).wide ?_, ((Mod.of Ext.rfl _).AE (.inr (.inl hSg)) _).AE (.inr (.inr rfl)) _⟩
 ·intro b hS hb
  refine Ad ?_
  rintro rfl
  rcases hS with h | h
  ·exact hg2 h.1
  ·exact hg2 (hS2 _ (hSs _ h).1).1
 ·intro b hS hb
  rcases hS with h | h
  ·exact h.1
  ·exact (hS2 _ (hSs _ h).1).1
theorem My {a : Option Addr} {n c k : Nat} {S : Nat → Prop} {ns : List CNode} {w : World} (h1 : 1 < ns.length) (h4 : ns.length ≤ 100) (hk : k < ns.length) (hf : ∀ x ∈ ns, P5 x) (ho : O AU S w [.slice a n c] ns) :
  Ag (EV P 129 #[.agg #[.slice a n c], i64 k] w) fun r => ∃ (ms : List CNode) (a' : Option Addr) (c' : Nat), r.1 = .agg #[.slice a' ms.length c'] ∧ O AU (fun b => S b ∨ In w.heap.size r.2.heap.size b) r.2 [.slice a' ms.length c'] ms ∧ ms.length = ns.length - 1 ∧ (∀ y ∈ ms, P5 y) ∧ Mod S w r.2 := by
 obtain ⟨rfl, hm, _⟩ := ho.n
 obtain ⟨css, S1, S2, a9, c9, L1, L2, d1, d2, sl1, sl2, A1, A2, dB⟩ := ho.TD (by decide) LH (j := k) (k := k + 1) (by omega) (by omega)
 have sl2' : ∀ w', sl P 79 (.slice a ns.length c) (some (i64 ((k : Int) + 1))) none none w' = some (.slice a9 (ns.length - (k + 1)) c9, w') := fun w' => by
  have := sl2 w'
  rwa [show ((k + 1 : Nat) : Int) = (k : Int) + 1 by omega] at this
 refine Ag.post fun Q hQ => ?_
 refine Ag.enter plain mixed (KP _ _ _) (by kernel_rfl) (n := 2) (by kernel_rfl) rfl ?_
 simp (disch := first | exact xD | fail) [-Option.bind_some, qs, -Aa, -Ab, sl1, sl2']
 refine Ag.bind (O.O0 (P := P) (L := Na) (mx := 2932031007317) (xs := []) (ys := ns.take k) (ty := 79) LH OB rfl (by decide) (O.empty (L := Na) (mx := 2932031007317) (g := w.heap.size + 1 + 1) (by first | assumption | rfl | (simp (disch := first | exact xD | fail) [-Option.bind_some, qs, -Aa, -Ab]; done))) (L1.Ak (by intro b hS hb; (try dsimp only at hS); (try simp only [In, qz] at hS hb); first | rfl | (simp (disch := first | exact xF | fail) only [qk]; done))) (fun b hb h1 h2 => by have := (d1 b h2).2.2; have h1 : b = w.heap.size + 1 + 1 := h1; omega) (A1.imp id fun ⟨b, o, h1, h2, h4⟩ => ⟨b, o, h1, h4.mono (Ext.Ak xE)⟩) (by rw [List.length_take]; omega) (by simp; omega) (by decide) (by decide)) ?_
 rintro ⟨_, w1⟩ ⟨a1, c1, rfl, o1, M1⟩
 have zM1 := M1.size
 try simp only [qz] at zM1
 try dsimp only at o1 M1
 have zM1 := M1.size
 simp only [World.size_alloc, Ac, List.length_nil, Nat.zero_add, List.nil_append] at zM1 o1
 have F1 : Ext w w1 := Mod.after xE M1 (fun b h1 h2 => by have h2 : b = w.heap.size + 1 + 1 := h2; omega)
 have Y1 : hp w1 w.heap.size = some (.cells #[.slice a ns.length c] 81 (0, 0)) := (M1.Ah _ xN (by omega)).trans (by first | assumption | rfl | (simp (disch := first | exact xD | fail) [-Option.bind_some, qs, -Aa, -Ab]; done))
 have Y2 : hp w1 (w.heap.size + 1) = some (.cells #[.slice none 0 0] 81 (0, 0)) := (M1.Ah _ xN (by omega)).trans (by first | assumption | rfl | (simp (disch := first | exact xD | fail) [-Option.bind_some, qs, -Aa, -Ab]; done))
 simp (disch := first | exact xD | fail) [-Option.bind_some, -Aa, -Ab, Y1]
 have htk : (ns.take k).length = k := by rw [List.length_take]; omega
 refine Ag.bind (O.O0 (P := P) (L := Na) (mx := 2932031007317) (xs := ns.take k) (ys := ns.drop (k + 1)) (ty := 79) LH OB rfl (by decide) o1 (L2.Ak (fun b hS hb => F1.Ah hb)) (fun b hb h1 h2 => ?_) (A2.imp id fun ⟨b, o, h1, h2, h4⟩ => ⟨b, o, h1, h4.mono (Ext.Ak F1)⟩) (by rw [List.length_drop]) (by rw [htk]; omega) (by decide) (by decide)) ?_
 ·have q := d2 b h2
  rcases h1 with h | h | h
  ·have h : b = w.heap.size + 1 + 1 := h
   omega
  ·exact q.2.1 h
  ·omega
 rintro ⟨_, w2⟩ ⟨a3, c3, rfl, o3, M2⟩
 have zM2 := M2.size
 try simp only [] at zM2
 try dsimp only at o3 M2
 have zM2 := M2.size
 obtain ⟨ms, hms⟩ : ∃ ms, ms = ns.take k ++ ns.drop (k + 1) := ⟨_, rfl⟩
 have hml : ms.length = ns.length - 1 := by rw [hms, List.length_append, htk, List.length_drop]; omega
 have hmf : ∀ x ∈ ms, P5 x := by
  intro x hx
  rw [hms, List.mem_append] at hx
  rcases hx with h | h
  ·exact hf x (List.mem_of_mem_take h)
  ·exact hf x (List.mem_of_mem_drop h)
 rw [htk, ← hms, show k + (ns.length - (k + 1)) = ms.length by omega] at o3
 rw [htk, show k + (ns.length - (k + 1)) = ms.length by omega]
 have hS3 : ∀ b, ((b = w.heap.size + 1 + 1 ∨ S1 b ∨ w.heap.size + 1 + 1 + 1 ≤ b ∧ b < w1.heap.size) ∨ S2 b ∨ w1.heap.size ≤ b ∧ b < w2.heap.size) → (S b ∧ b < w.heap.size) ∨ (w.heap.size + 1 + 1 ≤ b ∧ b < w2.heap.size) := by
  rintro b ((h | h | h) | h | h)
  ·exact .inr (by omega)
  ·exact .inl ⟨(d1 b h).1, (d1 b h).2.2⟩
  ·exact .inr (by omega)
  ·exact .inl ⟨(d2 b h).1, (d2 b h).2.2⟩
  ·exact .inr (by omega)
 have Z1 : hp w2 w.heap.size = some (.cells #[.slice a ns.length c] 81 (0, 0)) := (M2.Ah _ (by omega) (fun h => by have := hS3 _ (.inl h); omega)).trans Y1
 have Z2 : hp w2 (w.heap.size + 1) = some (.cells #[.slice none 0 0] 81 (0, 0)) := (M2.Ah _ (by omega) (fun h => by have := hS3 _ (.inl h); omega)).trans Y2
 have N2 : Mod S w w2 := Mod.A8 (Mod.of F1 S) M2 (fun b hb h => by rcases hS3 _ (.inl h) with q | q; exact q.1; omega)
 have o3' := o3.wide (S' := fun b => (S b ∧ b < w.heap.size) ∨ (w.heap.size + 1 + 1 ≤ b ∧ b < w2.heap.size)) (fun b h _ => hS3 b h)
 obtain ⟨W3, hW3⟩ : ∃ W3 : World, W3 = w2.setRow w.heap.size #[.slice a3 ms.length c3] := ⟨_, rfl⟩
 have sW : W3.heap.size = w2.heap.size := by rw [hW3, size_setRow]
 have kW : ∀ b, b ≠ w.heap.size → hp W3 b = hp w2 b := fun b q => by rw [hW3, Ad q]
 have V1 : hp W3 w.heap.size = some (.cells #[.slice a3 ms.length c3] 81 (0, 0)) := by
  rw [hW3]
  exact (by first | assumption | rfl | (simp (disch := first | exact xD | fail) [-Option.bind_some, -Aa, -Ab, Z1]; done))
 have V2 : hp W3 (w.heap.size + 1) = some (.cells #[.slice none 0 0] 81 (0, 0)) := (kW _ (by omega)).trans Z2
 have N3 : Mod S w W3 := by
  rw [hW3]
  exact N2.AE (.inl (by omega)) _
 have oW := o3'.Ak (w' := W3) (fun b hS hb => kW b (by omega))
 have fin : ∀ (e : Env) (W : World) (ls : List CNode) (S' : Nat → Prop), ls.length = ms.length → (∀ x ∈ ls, P5 x) → e 2 = pt w.heap.size 0 → e 4 = pt (w.heap.size + 1) 0 → e 5 = i64 ms.length → hp W w.heap.size = some (.cells #[.slice a3 ms.length c3] 81 (0, 0)) → hp W (w.heap.size + 1) = some (.cells #[.slice none 0 0] 81 (0, 0)) →
   O AU S' W [.slice a3 ms.length c3] ls → (∀ b, S' b → (S b ∧ b < w.heap.size) ∨ (w.heap.size + 1 + 1 ≤ b ∧ b < W.heap.size)) → Mod S w W → Ag (Ck e W) Q := by
  intro e W ls S' hll hlf e2 e4 e5 U1 U2 ho hS' hM
  obtain ⟨x, hx, _⟩ := Am (l := ls) (k := ms.length - 1) (by omega)
  have zM := hM.size
  refine Ag.mono (Mx hll (by omega) (by omega) hx e2 e4 e5 U1 U2 ho (fun h => by have := hS' _ h; omega) (fun h => by have := hS' _ h; omega) (by omega)) ?_
  rintro r ⟨h1, h2, h3⟩
  have zh := h3.size
  have hle : (ls.set (ms.length - 1) ⟨x.store, []⟩).length = ms.length := by rw [List.length_set]; exact hll
  refine hQ _ ⟨ls.set (ms.length - 1) ⟨x.store, []⟩, a3, c3, by rw [hle]; exact h1, ?_, by rw [hle]; exact hml, ?_, ?_⟩
  ·rw [hle]
   refine h2.wide (fun b h _ => ?_)
   rcases hS' b h with h | h
   ·exact .inl h.1
   ·exact .inr (by simp only [In]; omega)
  ·intro y hy
   rcases List.mem_or_eq_of_mem_set hy with h | rfl
   ·exact hlf y h
   ·have q := hlf x (List.mem_of_getElem? hx)
    exact ⟨q.1, by simp, q.2.2.1, by simp⟩
  ·refine Mod.A8 hM h3 (fun b hb h => ?_)
   rcases h with h | h
   ·rcases hS' b h with h | h
    ·exact h.1
    ·omega
   ·omega
 by_cases hk0 : k = 0
 ·simp (disch := first | exact xD | fail) [-Option.bind_some, -Aa, -Ab, qm, Z1, show ¬ 0 < k by omega]
  rw [← hW3]
  exact fin _ W3 ms _ rfl hmf rfl rfl rfl V1 V2 oW (fun b h => by rw [sW]; exact h) N3
 by_cases hkm : ms.length ≤ k
 ·simp (disch := first | exact xD | fail) [-Option.bind_some, -Aa, -Ab, qm, Z1, show 0 < k by omega, show ¬ k < ms.length by omega]
  rw [← hW3]
  exact fin _ W3 ms _ rfl hmf rfl rfl rfl V1 V2 oW (fun b h => by rw [sW]; exact h) N3
 obtain ⟨u, hu, _⟩ := Am (l := ms) (k := k - 1) (by omega)
 obtain ⟨v, hv, _⟩ := Am (l := ms) (k := k) (by omega)
 have qu := hmf u (List.mem_of_getElem? hu)
 have qv := hmf v (List.mem_of_getElem? hv)
 have qun : ms.length ≤ 100 := by omega
 obtain ⟨g, o6, cs6, rfl, A6, D6, _, l6⟩ := o3'.d.at (by decide) hu
 obtain ⟨a5, c5, a6, c6, rfl, h5, h6⟩ := D.node.1 D6
 have p0 := A6 0 _ rfl
 have p1 := A6 1 _ rfl
 simp only [AO, Nat.add_zero] at p0 p1
 obtain ⟨b7, o7, cs7, hb7, A7, D7, _, l7⟩ := o3'.d.at (by decide) hv
 simp only [Option.some.injEq, Addr.mk.injEq, and_true] at hb7
 obtain ⟨rfl, rfl⟩ := hb7
 obtain ⟨a7, c7, a8, c8, rfl, h7, h8⟩ := D.node.1 D7
 have q0 := A7 0 _ rfl
 have q1 := A7 1 _ rfl
 simp only [AO, Nat.add_zero] at q0 q1
 have hgw : g ≠ w.heap.size ∧ g ≠ w.heap.size + 1 := by
  obtain ⟨g', _, _, _, he, hSg', _⟩ := o3'.NY (by decide) hu
  simp only [Option.some.injEq, Addr.mk.injEq, and_true] at he
  omega
 simp (disch := first | exact xD | fail) [-Option.bind_some, qs, -Aa, -Ab, qm, Z1, show 0 < k by omega, show k < ms.length by omega, Cr, show (k : Int) - 1 = ((k - 1 : Nat) : Int) by omega, p0, q0]
 rw [← hW3]
 have EW : ∀ b, b ≠ w.heap.size → hp (dw W3) b = hp w2 b := fun b h => (Bg _ _).trans (kW b h)
 refine Ag.bind (Mv qu.1 qv.1 (h5.Ak (w' := dw W3) (fun b hS hb => EW b (by omega))) (h7.Ak (w' := dw W3) (fun b hS hb => EW b (by omega)))) ?_
 rintro ⟨_, w4⟩ ⟨ls, a4, c4, rfl, o4, hl4, hlu, E4⟩
 have zE4 := E4.size
 try simp only [qz] at zE4
 try dsimp only at o4 E4
 have zE4 := E4.size
 rw [Ac] at zE4 o4
 have k4 : ∀ b, b < W3.heap.size → hp w4 b = hp W3 b := fun b hb => (E4.Ah (by rw [Ac]; exact hb)).trans (Bg _ _)
 obtain ⟨g', cur, ds, Sx, hge, hSg, hgl, hg, hle, hx1, hSx, put⟩ := (oW.Ak (w' := w4) (fun b hS hb => k4 b hb)).NY (by decide) hu
 simp only [Option.some.injEq, Addr.mk.injEq, and_true] at hge
 obtain ⟨rfl, rfl⟩ := hge
 obtain ⟨a9', c9', a6', c6', Ss, Sw, rfl, o5, o6, hSs, hSw⟩ := O.KK hx1
 simp only [AO] at hg hle put
 have U1 : hp w4 w.heap.size = some (.cells #[.slice (some ⟨g, 0, none⟩) ms.length c3] 81 (0, 0)) := (k4 _ (by omega)).trans V1
 have U2 : hp w4 (w.heap.size + 1) = some (.cells #[.slice none 0 0] 81 (0, 0)) := (k4 _ (by omega)).trans V2
 simp (disch := first | exact xD | fail) [-Option.bind_some, -Aa, -Ab, qm, U1, hg]
 have sub : ∀ b, Sx b → b ≠ g ∧ b < w2.heap.size ∧ ((S b ∧ b < w.heap.size) ∨ (w.heap.size + 1 + 1 ≤ b ∧ b < w2.heap.size)) := by
  intro b h
  have q := hSx b h
  exact ⟨q.2.1, by omega, q.1⟩
 have oP := put (w4.setRow g (Ba cur ((k - 1) * 2) [.slice a9' u.store.length c9', .slice a4 ls.length c4]).toArray) _ ⟨u.store, ls⟩ _ (O.FF (v := ⟨u.store, ls⟩) (o5.Ak (fun b hS hb => Ad (sub b (hSs b hS).1).1)) (o4.Ak (fun b hS hb => Ad (by omega))) (fun b _ h1 h2 => by have := (sub b (hSs b h1).1).2.1; omega)) (by first | assumption | rfl | (simp (disch := first | exact xD | fail) [-Option.bind_some, -Aa, -Ab, hg]; done))
  (fun b hb _ hne' hn => Ad hne') (fun b _ h => by rcases h with h | h; exact .inl (hSs b h).1; exact .inr (by omega))
 refine fin _ _ (ms.set (k - 1) ⟨u.store, ls⟩) _ (by rw [List.length_set]) ?_ rfl rfl rfl ((Ad (by omega)).trans U1) ((Ad (by omega)).trans U2) oP.lt ?_ ?_
 ·intro y hy
  rcases List.mem_or_eq_of_mem_set hy with h | rfl
  ·exact hmf y h
  ·exact ⟨qu.1, by show ls.length ≤ 6; omega, qu.2.2.1, fun v hv => qu.2.2.1 v (hlu v hv)⟩
 ·intro b h
  rw [size_setRow] at h ⊢
  rcases h.1 with h1 | h1 | h1
  ·rcases h1.1 with q | q
   ·exact .inl q
   ·exact .inr (by omega)
  ·rcases (sub b (hSs b h1).1).2.2 with q | q
   ·exact .inl q
   ·exact .inr (by omega)
  ·right
   omega
 ·refine (N3.ex ((Cc _).tr E4)).AE ?_ _
  rcases hSg with h | h
  ·exact .inr h.1
  ·exact .inl (by omega)
def Lp (ns : List CNode) : Prop := 0 < ns.length ∧ ns.length ≤ 4 ∧ ∀ x ∈ ns, P5 x
theorem SX : P5 Jj := by
 refine ⟨rfl, by decide, fun v hv => ?_, fun v hv => by simp [Jj] at hv⟩
 obtain rfl := List.eq_of_mem_replicate hv
 exact ⟨by decide, by decide⟩
theorem QM {m : Nat} (h : m < 4) : Lp (BA (1 + (m : Int))) := by
 have e : BA (1 + (m : Int)) = List.replicate (m + 1) Jj := by
  rw [BA, if_pos (by simp only [Bool.and_eq_true, decide_eq_true_eq]; omega)]
  congr 1
  omega
 rw [e]
 refine ⟨by simp, by simp; omega, fun x hx => ?_⟩
 obtain rfl := List.eq_of_mem_replicate hx
 exact SX
theorem On {ns : List CNode} {i : Nat} {v : Ver} {x : CNode} (h : Lp ns) (hx : ns[i]? = some x) (h6 : x.wait.length < 6) (hv : Mw v) : Lp (F8 ns i v) := by
 have q := h.2.2 x (List.mem_of_getElem? hx)
 unfold F8
 rw [hx]
 dsimp only
 split
 ·split
  ·refine ⟨by rw [List.length_set]; exact h.1, by rw [List.length_set]; exact h.2.1, fun y hy => ?_⟩
   rcases List.mem_or_eq_of_mem_set hy with hy | rfl
   ·exact h.2.2 y hy
   ·refine ⟨?_, ?_, ?_, ?_⟩
    ·simp only [addNode, List.length_set]
     exact q.1
    ·unfold addNode
     dsimp only
     split
     ·omega
     ·rw [List.length_append]; simp only [List.length_cons, List.length_nil]; omega
    ·intro u hu
     simp only [addNode] at hu
     rcases List.mem_or_eq_of_mem_set hu with hu | rfl
     ·exact q.2.2.1 u hu
     ·exact hv
    ·intro u hu
     unfold addNode at hu
     dsimp only at hu
     split at hu
     ·exact q.2.2.2 u hu
     ·rcases List.mem_append.1 hu with hu | hu
      ·exact q.2.2.2 u hu
      ·obtain rfl := List.mem_singleton.1 hu
       exact hv
  ·exact h
 ·exact h
theorem P6 {ns : List CNode} {k : Nat} {x y : CNode} {v : Ver} {l : List Ver} (h : Lp ns) (hx : ns[k]? = some x) (hy : ns[k + 1]? = some y) (hw : x.wait = v :: l) (h6 : y.wait.length < 6) : Lp (Gh ns k) := by
 have q := h.2.2 x (List.mem_of_getElem? hx)
 have qw := q.2.2.2
 rw [hw] at qw
 rw [JP hx hw]
 refine On (x := y) ⟨by rw [List.length_set]; exact h.1, by rw [List.length_set]; exact h.2.1, fun z hz => ?_⟩ (by rw [List.getElem?_set_ne (by omega)]; exact hy) h6 (qw v List.mem_cons_self)
 rcases List.mem_or_eq_of_mem_set hz with hz | rfl
 ·exact h.2.2 z hz
 ·refine ⟨q.1, ?_, q.2.2.1, fun u hu => qw u (List.mem_cons_of_mem _ hu)⟩
  have := q.2.1
  rw [hw] at this
  simp only [List.length_cons] at this
  show l.length ≤ 6
  omega
theorem P7 {ns : List CNode} (h : Lp ns) (h4 : ns.length < 4) : Lp (Ek ns) := by
 obtain ⟨x, hx, _⟩ := Am (l := ns) (k := ns.length - 1) (by have := h.1; omega)
 have hj : Ek ns = ns ++ [⟨x.store, []⟩] := by rw [Ek, J7, hx]
 have q := h.2.2 x (List.mem_of_getElem? hx)
 rw [hj]
 refine ⟨by simp, by simp; omega, fun y hy => ?_⟩
 rcases List.mem_append.1 hy with hy | hy
 ·exact h.2.2 y hy
 ·obtain rfl := List.mem_singleton.1 hy
  exact ⟨q.1, by simp, q.2.2.1, by simp⟩
theorem HR {a : Option Addr} {n c : Nat} {S : Nat → Prop} {ns : List CNode} {x : CNode} (hx : ns[0]? = some x) {w : World} (ha : D AU S w [.slice a n c] ns) :
  Ag (EV P 142 #[.agg #[.slice a n c]] w) fun r => r.1 = .bool (decide (x.wait.length < 6)) ∧ Ext w r.2 := by
 have hl0 : 0 < ns.length := (List.getElem?_eq_some_iff.1 hx).1
 obtain ⟨rfl, hm, _⟩ := ha.n
 obtain ⟨b1, o1, cs1, rfl, A1, D1, _, l1⟩ := ha.at (by decide) hx
 obtain ⟨a2, c2, a3, c3, rfl, h2, h3⟩ := D.node.1 D1
 have p0 := A1 0 _ rfl
 have p1 := A1 1 _ rfl
 simp only [AO, Nat.add_zero] at p0 p1
 refine Ag.post fun Q hQ => ?_
 refine Ag.enter plain mixed (KU _ _) (by kernel_rfl) (n := 1) (by kernel_rfl) rfl ?_
 cases h6 : decide (x.wait.length < 6)
 ·rw [h6] at hQ
  simp only [decide_eq_false_iff_not] at h6
  simp (disch := first | exact xD | fail) [-Option.bind_some, qs, -Aa, -Ab, Cr, show ¬ (x.wait.length : Int) < 6 by omega, p1]
  exact hQ _ ⟨rfl, xE⟩
 ·rw [h6] at hQ
  simp only [decide_eq_true_eq] at h6
  simp (disch := first | exact xD | fail) [-Option.bind_some, qs, -Aa, -Ab, Cr, show (x.wait.length : Int) < 6 by omega, p1]
  exact hQ _ ⟨rfl, xE⟩
abbrev O9 : Lay (List (List Ver)) := L9 36 49 42
abbrev Il : Lay PlaceD := ES 36 49 86 42
def Nz (v : Ver) : Prop := 0 ≤ v.key ∧ v.key ≤ 3 ∧ v.past.length = 4
theorem QN {v : Ver} (h : Nz v) : Mw v := ⟨h.1, h.2.1, fun _ => h.2.2⟩
def CV (M : Nat) (p : PlaceD) : Prop := Lp p.chain ∧ p.log.length ≤ M ∧ (∀ v ∈ p.log, Nz v) ∧ p.Bs.length = 3 ∧ (∀ l ∈ p.Bs, l.length ≤ 60 ∧ ∀ v ∈ l, Nz v)
theorem CV.up {M M' : Nat} {p : PlaceD} (h : CV M p) (k : M ≤ M') : CV M' p := ⟨h.1, Nat.le_trans h.2.1 k, h.2.2⟩
theorem Pa {a : Option Addr} {c b : Nat} {S : Nat → Prop} {xs : List Ver} {t : Tag} {w0 : World} (ha : D AB S w0 [.slice a xs.length c] xs) (hl : xs.length ≤ 1000000000) :
  ∀ (d k : Nat) (e : Env) (w : World), k + d = xs.length → e 0 = .slice a xs.length c → e 3 = pt b 0 → e 5 = i64 k → hp w b = some (.cells #[i64 t.t, i64 t.p] 36 (0, 0)) → Ext w0 w →
   Ag (Cu e w) fun r => ∃ q, r.1 = .bool q ∧ Ext w0 r.2 := by
 intro d
 induction d with
 | zero =>
  intro k e w hd e0 e3 e5 X E0
  have zE0 := E0.size
  try simp only [qz] at zE0
  rw [En]
  obtain rfl : k = xs.length := by omega
  refine Ag.post fun Q hQ => ?_
  simp (disch := first | exact xD | fail) [-Option.bind_some, -Aa, -Ab, e0, e5]
  exact hQ _ ⟨false, rfl, E0⟩
 | succ d ih =>
  intro k e w hd e0 e3 e5 X E0
  have zE0 := E0.size
  try simp only [qz] at zE0
  rw [En]
  have hlt : k < xs.length := by omega
  have y := Aq X
  obtain ⟨x, hx, _⟩ := Am hlt
  obtain ⟨b1, o1, cs1, rfl, A1, D1, _, l1⟩ := (ha.ext E0).at (by decide) hx
  obtain ⟨a2, c2, rfl, _, _⟩ := D.Bv.1 D1
  have p0 := A1 0 _ rfl
  have p1 := A1 1 _ rfl
  have p2 := A1 2 _ rfl
  have p3 := A1 3 _ rfl
  have p4 := A1 4 _ rfl
  have p5 := A1 5 _ rfl
  simp only [AX, Nat.add_zero] at p0 p1 p2 p3 p4 p5
  refine Ag.post fun Q hQ => ?_
  cases h1 : (x.tag.t == t.t)
  ·simp (disch := first | exact xD | fail) [-Option.bind_some, qs, -Aa, -Ab, e0, e3, e5, hlt, AW, X, h1, p1, p2]
   exact Ag.mono (ih (k + 1) _ _ (by omega) xA xA xA (by first | assumption | rfl | (simp (disch := first | exact xD | fail) [-Option.bind_some, qs, -Aa, -Ab, qm, X, e0, e3, e5, E0.Ah, hlt, p0, p1, p2, p3, p4, p5]; done)) xE) hQ
  ·cases h2 : (x.tag.p == t.p)
   ·simp (disch := first | exact xD | fail) [-Option.bind_some, qs, -Aa, -Ab, e0, e3, e5, hlt, AW, X, h1, h2, p1, p2]
    exact Ag.mono (ih (k + 1) _ _ (by omega) xA xA xA (by first | assumption | rfl | (simp (disch := first | exact xD | fail) [-Option.bind_some, qs, -Aa, -Ab, qm, X, e0, e3, e5, E0.Ah, hlt, p0, p1, p2, p3, p4, p5]; done)) xE) hQ
   ·simp (disch := first | exact xD | fail) [-Option.bind_some, -Aa, -Ab, e0, e3, e5, hlt, AW, X, h1, h2, p1, p2]
    exact hQ _ ⟨true, rfl, xE⟩
theorem Lq {a : Option Addr} {n c : Nat} {S : Nat → Prop} {xs : List Ver} {t : Tag} {w : World} (ha : D AB S w [.slice a n c] xs) (hl : xs.length ≤ 1000000000) :
  Ag (EV P 139 #[.slice a n c, .agg #[i64 t.t, i64 t.p]] w) fun r => ∃ q, r.1 = .bool q ∧ Ext w r.2 := by
 obtain ⟨rfl, _⟩ := ha.n
 refine Ag.post fun Q hQ => ?_
 refine Ag.enter plain mixed (Jv _ _ _) (by kernel_rfl) (n := 2) (by kernel_rfl) rfl ?_
 simp (disch := first | exact xD | fail) [-Option.bind_some, -Aa, -Ab]
 exact Ag.mono (Pa (t := t) (b := w.heap.size) ha hl xs.length 0 _ _ (by omega) xA xA xA (by first | assumption | rfl | (simp (disch := first | exact xD | fail) [-Option.bind_some, qs, -Aa, -Ab]; done)) xE) hQ
theorem P8 {b1 b2 : Nat} {S1 : Nat → Prop} {p : PlaceD} {a a1 a2 : Option Addr} {c c1 c2 : Nat} {w0 : World} {z : Array Value} (hb1 : w0.heap.size ≤ b1) (hb2 : w0.heap.size ≤ b2) (h12 : b1 ≠ b2) (hc : D AU S1 w0 [.slice a p.chain.length c] p.chain) (hS1 : ∀ b, S1 b → b < w0.heap.size) (h4 : p.chain.length ≤ 4) (hz : z.size = 6) :
  ∀ (d k : Nat) (e : Env) (w : World) (q : Bool), k + d = p.chain.length → e 1 = pt b1 0 → e 2 = pt b2 0 → e 6 = .bool q → e 7 = i64 k → hp w b1 = some (.cells #[i64 p.me, i64 p.clock, .slice a p.chain.length c, .slice a1 p.log.length c1, .slice a2 p.Bs.length c2, .bool p.fell] 84 (0, 0)) →
   hp w b2 = some (.cells z 84 (0, 0)) → (∀ b, S1 b → hp w b = hp w0 b) →
   Ag (Df e w) fun r => ∃ f, r.1 = .agg #[i64 p.me, i64 p.clock, .slice a p.chain.length c, .slice a1 p.log.length c1, .slice a2 p.Bs.length c2, .bool f] ∧ Mod (fun b => b = b1 ∨ b = b2) w r.2 := by
 intro d
 induction d with
 | zero =>
  intro k e w q hd e1 e2 e6 e7 X1 X2 hk
  rw [EZ]
  obtain rfl : k = p.chain.length := by omega
  have y1 := Aq X1
  have y2 := Aq X2
  have hz' : ∃ u0 u1 u2 u3 u4 u5, z = #[u0, u1, u2, u3, u4, u5] := by
   obtain ⟨l⟩ := z
   match l, hz with
   | [u0, u1, u2, u3, u4, u5], _ => exact ⟨u0, u1, u2, u3, u4, u5, rfl⟩
  obtain ⟨u0, u1, u2, u3, u4, u5, rfl⟩ := hz'
  refine Ag.post fun Q hQ => ?_
  cases hf : p.fell
  ·rw [hf] at X1
   simp (disch := first | exact xD | fail) [-Option.bind_some, qs, e1, e2, e6, e7, X1, X2]
   exact hQ _ ⟨false, rfl, xM⟩
  ·rw [hf] at X1
   cases q
   ·simp (disch := first | exact xD | fail) [-Option.bind_some, qs, e1, e2, e6, e7, X1, X2]
    exact hQ _ ⟨true, rfl, xM⟩
   ·simp (disch := first | exact xD | fail) [-Option.bind_some, qs, e1, e2, e6, e7, X1, X2]
    exact hQ _ ⟨false, rfl, xM⟩
 | succ d ih =>
  intro k e w q hd e1 e2 e6 e7 X1 X2 hk
  rw [EZ]
  have hlt : k < p.chain.length := by omega
  obtain ⟨x, hx, _⟩ := Am hlt
  have hcw : D AU S1 w [.slice a p.chain.length c] p.chain := hc.Ak fun b hb _ => hk b hb
  obtain ⟨g, o, cs1, rfl, A1, D1, _, _⟩ := hcw.at (by decide) hx
  obtain ⟨a3, c3, a4, c4, rfl, _, _⟩ := D.node.1 D1
  have p0 := A1 0 _ rfl
  have p1 := A1 1 _ rfl
  simp only [AO, Nat.add_zero] at p0 p1
  refine Ag.post fun Q hQ => ?_
  cases q
  ·simp (disch := first | exact xD | fail) [-Option.bind_some, qs, -Aa, -Ab, e1, e6, e7, X1, hlt]
   exact Ag.mono (ih (k + 1) _ w false (by omega) xA xA xA xA X1 X2 hk) hQ
  ·simp (disch := first | exact xD | fail) [-Option.bind_some, qs, -Aa, -Ab, e1, e6, e7, X1, hlt, Cr, p1]
   exact Ag.mono (ih (k + 1) _ w _ (by omega) xA xA rfl xA X1 X2 hk) hQ
theorem P9 {M b1 b2 b3 : Nat} {S1 S2 S3 : Nat → Prop} {p : PlaceD} {x : CNode} {a a2 ast : Option Addr} {c c2 cs3 : Nat} {w0 : World} {z : Array Value} (hz : z.size = 6) (hM : M ≤ 1000000) (hb1 : w0.heap.size ≤ b1) (hb2 : w0.heap.size ≤ b2) (hb3 : w0.heap.size ≤ b3) (h12 : b1 ≠ b2) (h13 : b1 ≠ b3) (h23 : b2 ≠ b3)
  (hf : CV M p) (hc : D AU S1 w0 [.slice a p.chain.length c] p.chain) (hst : D AB S1 w0 [.slice ast 4 cs3] x.store) (hx4 : x.store.length = 4) (hxk : ∀ v ∈ x.store, Mw v) (hg : O O9 S3 w0 [.slice a2 p.Bs.length c2] p.Bs) (hS1 : ∀ b, S1 b → b < w0.heap.size ∧ ¬ S2 b) (hS2 : ∀ b, S2 b → b < w0.heap.size) (hS3 : ∀ b, S3 b → b < w0.heap.size ∧ ¬ S2 b)
  (B : Nat) (hB1 : b1 < B) (hB2 : b2 < B) (hB3 : b3 < B) :
  ∀ (d k : Nat) (e : Env) (w : World) (log : List Ver) (a1 : Option Addr) (c1 : Nat), k + d = 4 → log.length ≤ M + k → (∀ v ∈ log, Nz v) → e 1 = pt b1 0 → e 2 = pt b2 0 → e 3 = pt b3 0 → e 4 = i64 k → B ≤ w.heap.size →
   hp w b1 = some (.cells #[i64 p.me, i64 p.clock, .slice a p.chain.length c, .slice a1 log.length c1, .slice a2 p.Bs.length c2, .bool p.fell] 84 (0, 0)) → hp w b2 = some (.cells z 84 (0, 0)) → hp w b3 = some (.cells #[.slice ast 4 cs3] 44 (0, 0)) →
   O AB (fun b => S2 b ∨ In B w.heap.size b) w [.slice a1 log.length c1] log → (∀ b, b < w0.heap.size → ¬ S2 b → hp w b = hp w0 b) → Mod (fun b => S2 b ∨ w0.heap.size ≤ b) w0 w →
   Ag (Dd e w) fun r => ∃ (log' : List Ver) (a1' : Option Addr) (c1' : Nat) (f : Bool), r.1 = .agg #[i64 p.me, i64 p.clock, .slice a p.chain.length c, .slice a1' log'.length c1', .slice a2 p.Bs.length c2, .bool f] ∧ log'.length ≤ M + 4 ∧ (∀ v ∈ log', Nz v) ∧
    O AB (fun b => S2 b ∨ In B r.2.heap.size b) r.2 [.slice a1' log'.length c1'] log' ∧ (∀ b, b < w0.heap.size → ¬ S2 b → hp r.2 b = hp w0 b) ∧ Mod (fun b => S2 b ∨ w0.heap.size ≤ b) w0 r.2 := by
 intro d
 induction d with
 | zero =>
  intro k e w log a1 c1 hd hl hlp e1 e2 e3 e4 hBw X1 X2 X3 ho hk M0
  have zM0 := M0.size
  try simp only [qz] at zM0
  rw [EY]
  obtain rfl : k = 4 := by omega
  refine Ag.post fun Q hQ => ?_
  simp (disch := first | exact xD | fail) [-Option.bind_some, -Aa, -Ab, e4]
  refine Ag.mono (P8 (p := { p with log := log }) (z := z) (w0 := w0) hb1 hb2 h12 (S1 := S1) hc (fun b hb => (hS1 b hb).1) hf.1.2.1 hz p.chain.length 0 _ w true (by simp) xA xA rfl xA X1 X2 (fun b hb => hk b (hS1 b hb).1 (hS1 b hb).2)) ?_
  rintro r ⟨f, h1, h2⟩
  refine hQ _ ⟨log, a1, c1, f, h1, by omega, hlp, (ho.Ak fun b hb hbl => h2.Ah b hbl fun h => ?_).wide ?_, fun b hb hn => (h2.Ah b (by have := M0.size; omega) (by omega)).trans (hk b hb hn), M0.tr (h2.KE fun b _ h => .inr (by omega))⟩
  ·rcases hb with hb | hb
   ·have := hS2 b hb; omega
   ·simp only [In] at hb; omega
  ·intro b hb hbl
   rcases hb with hb | hb
   ·exact .inl hb
   ·have := h2.size
    simp only [In] at hb ⊢
    exact .inr (by omega)
 | succ d ih =>
  intro k e w log a1 c1 hd hl hlp e1 e2 e3 e4 hBw X1 X2 X3 ho hk M0
  have zM0 := M0.size
  try simp only [qz] at zM0
  rw [EY]
  have y1 := Aq X1
  have y2 := Aq X2
  have y3 := Aq X3
  have hz0 := M0.size
  obtain ⟨v, hv, _⟩ := Am (l := x.store) (k := k) (by omega)
  have hvk := hxk v (List.mem_of_getElem? hv)
  have hsw : D AB S1 w [.slice ast 4 cs3] x.store := hst.Ak fun b hb _ => hk b (hS1 b hb).1 (hS1 b hb).2
  obtain ⟨g, o, cs1, rfl, A1, D1, _, _⟩ := hsw.at (by decide) hv
  have D1' := D1
  obtain ⟨a3, c3, rfl, _, _⟩ := D.Bv.1 D1
  have p0 := A1 0 _ rfl
  have p1 := A1 1 _ rfl
  have p2 := A1 2 _ rfl
  have p3 := A1 3 _ rfl
  have p4 := A1 4 _ rfl
  have p5 := A1 5 _ rfl
  simp only [AX, Nat.add_zero] at p0 p1 p2 p3 p4 p5
  refine Ag.post fun Q hQ => ?_
  have OO : ∀ (e' : Env) (w' : World) (log' : List Ver) (a1' : Option Addr) (c1' : Nat), log'.length ≤ M + (k + 1) → (∀ v ∈ log', Nz v) → e' 1 = pt b1 0 → e' 2 = pt b2 0 → e' 3 = pt b3 0 → e' 4 = i64 k → B ≤ w'.heap.size →
   hp w' b1 = some (.cells #[i64 p.me, i64 p.clock, .slice a p.chain.length c, .slice a1' log'.length c1', .slice a2 p.Bs.length c2, .bool p.fell] 84 (0, 0)) → hp w' b2 = some (.cells z 84 (0, 0)) → hp w' b3 = some (.cells #[.slice (some ⟨g, o, none⟩) 4 cs3] 44 (0, 0)) →
   O AB (fun b => S2 b ∨ In B w'.heap.size b) w' [.slice a1' log'.length c1'] log' → (∀ b, b < w0.heap.size → ¬ S2 b → hp w' b = hp w0 b) → Mod (fun b => S2 b ∨ w0.heap.size ≤ b) w0 w' → Ag (De e' w') Q := by
   intro e' w' log' a1' c1' f1 f2 g1 g2 g3 g4 g5 U1 U2 U3 uo uk uM
   rw [IE]
   simp (disch := first | exact xD | fail) [-Option.bind_some, qs, -Aa, -Ab, g4]
   exact Ag.mono (ih (k + 1) _ w' log' a1' c1' (by omega) f1 f2 xA xA xA xA g5 U1 U2 U3 uo uk uM) hQ
  by_cases ht : 0 < v.tag.t
  ·cases hpl : (v.tag.p == p.me)
   ·simp (disch := first | exact xD | fail) [-Option.bind_some, qs, -Aa, -Ab, qm, e1, e3, e4, X1, X3, show (k : Int) < 4 by omega, AW, ht, hpl, p0, p1, p2, p3, p4, p5]
    refine OO _ _ log a1 c1 (by omega) hlp xA xA xA xA (by simp; omega) (by first | assumption | rfl | (simp (disch := first | exact xD | fail) [-Option.bind_some, qs, -Aa, -Ab, X1]; done)) (by first | assumption | rfl | (simp (disch := first | exact xD | fail) [-Option.bind_some, qs, -Aa, -Ab, X2]; done)) (by first | assumption | rfl | (simp (disch := first | exact xD | fail) [-Option.bind_some, qs, -Aa, -Ab, X3]; done)) ((ho.Ak (by intro b hS hb; (try dsimp only at hS); (try simp only [In] at hS hb); first | rfl | (simp (disch := first | exact xF | fail) only [qk]; done))).wide ?_) (fun b hb hn => (Ad (by omega)).trans ((Ae (by omega)).trans (hk b hb hn))) ((M0.al _).AE (.inr (.inr (by omega))) _)
    intro b hb hbl
    simp only [In, World.size_alloc, size_setRow] at hb ⊢
    rcases hb with hb | hb
    ·exact .inl hb
    ·exact .inr (by omega)
   ·simp (disch := first | exact xD | fail) [-Option.bind_some, qs, -Aa, -Ab, qm, e1, e3, e4, X1, X3, show (k : Int) < 4 by omega, AW, ht, hpl, p0, p1, p2, p3, p4, p5]
    refine Ag.bind (Lq (t := v.tag) ((ho.d).ext xE) (by omega)) ?_
    rintro ⟨_, w1⟩ ⟨q, rfl, E1⟩
    try dsimp only at q E1
    have zE1 := E1.size
    try simp only [qz] at zE1
    have keep1 : ∀ b, b < w.heap.size → hp w1 b = hp w b := fun b hb => (E1.Ah (by simp only [World.size_alloc, size_setRow]; omega)).trans ((Ad (by omega)).trans (Ae hb))
    cases q
    ·have Y1 := (keep1 b1 y1).trans X1
     have V1 : hp w1 w.heap.size = some (.cells #[i64 v.key, i64 v.tag.t, i64 v.tag.p, .slice a3 v.past.length c3, .string v.text, .bool v.gone] 49 (0, 0)) := (by first | assumption | rfl | (simp (disch := first | exact xD | fail) [-Option.bind_some, qs, -Aa, -Ab, E1.Ah]; done))
     simp (disch := first | exact xD | fail) [-Option.bind_some, -Aa, -Ab, Y1, V1]
     have Dv : D Bz S1 (dw w1) [i64 v.key, i64 v.tag.t, i64 v.tag.p, .slice a3 v.past.length c3, .string v.text, .bool v.gone] v := D1'.Ak fun b hb hbl => (Bg _ _).trans (keep1 b hbl)
     refine Ag.bind (AZ Dv) ?_
     rintro ⟨_, w2⟩ ⟨ds, rfl, o2, E2⟩
     have zE2 := E2.size
     try simp only [qz] at zE2
     try dsimp only at o2 E2
     have zo2 := O.Bv.1 o2
     obtain ⟨a5, c5, rfl, _, _⟩ := zo2
     have zE2 := E2.size
     simp only [Ac] at zE2
     have keep2 : ∀ b, b < w.heap.size → hp w2 b = hp w b := fun b hb => (E2.Ah (by simp only [Ac]; omega)).trans ((Bg _ _).trans (keep1 b hb))
     have Z1 := (keep2 b1 y1).trans X1
     simp (disch := first | exact xD | fail) [-Option.bind_some, qs, -Aa, -Ab, Z1]
     have hol : O AB (fun b => S2 b ∨ In B w.heap.size b) (w2.alloc (.cells #[i64 v.key, i64 v.tag.t, i64 v.tag.p, .slice a5 v.past.length c5, .string v.text, .bool v.gone] 49)) [.slice a1 log.length c1] log := ho.Ak fun b hb hbl => (Ae (by omega)).trans (keep2 b hbl)
     refine Ag.bind (O.app (L := Bz) (mx := 1954687338211) (xs := log) (x := v) Cj Ed rfl (by decide) hol (o2.Ak (by intro b hS hb; (try dsimp only at hS); (try simp only [In, qz] at hS hb); first | rfl | (simp (disch := first | exact xF | fail) only [qk]; done))) ?_ At.new (by omega) (by decide) (by decide)) ?_
     ·intro b hb q1 q2
      simp only [In, Ac] at q1 q2
      rcases q1 with q1 | q1
      ·have := hS2 b q1; omega
      ·omega
     rintro ⟨_, w3⟩ ⟨a7, c7, rfl, o7, M7⟩
     have zM7 := M7.size
     try simp only [qz] at zM7
     try dsimp only at o7 M7
     have zM7 := M7.size
     simp only [World.size_alloc] at zM7
     have nS : ∀ b, w0.heap.size ≤ b → b < B → ¬ (S2 b ∨ In B w.heap.size b) := by
      intro b h1 h2 h
      rcases h with h | h
      ·have := hS2 b h; omega
      ·simp only [In] at h; omega
     have keep3 : ∀ b, b < w.heap.size → ¬ (S2 b ∨ In B w.heap.size b) → hp w3 b = hp w b := fun b hb hn => (M7.Ah b (by simp only [World.size_alloc]; omega) hn).trans ((Ae (by omega)).trans (keep2 b hb))
     have T1 := (keep3 b1 y1 (nS b1 hb1 hB1)).trans X1
     have T2 := (keep3 b2 y2 (nS b2 hb2 hB2)).trans X2
     have T3 := (keep3 b3 y3 (nS b3 hb3 hB3)).trans X3
     simp (disch := first | exact xD | fail) [-Option.bind_some, -Aa, -Ab, qm, T1]
     have hle : (log ++ [v]).length = log.length + 1 := by simp
     refine OO _ _ (log ++ [v]) a7 c7 (by omega) ?_ xA xA xA xA (by simp only [size_setRow]; omega) (by first | assumption | rfl | (simp (disch := first | exact xD | fail) [-Option.bind_some, -Aa, -Ab, T1, hle]; done)) ((Ad (Ne.symm h12)).trans T2) ((Ad (Ne.symm h13)).trans T3) ?_ ?_ ?_
     ·intro u hu
      rcases List.mem_append.1 hu with h | h
      ·exact hlp u h
      ·rw [List.mem_singleton.1 h]; exact ⟨hvk.1, hvk.2.1, hvk.2.2 ht⟩
     ·rw [hle]
      refine (o7.Ak fun b hb hbl => Ad ?_).wide ?_
      ·rintro rfl
       rcases hb with hb | hb | hb
       ·exact nS b hb1 hB1 hb
       ·simp only [In, Ac] at hb; omega
       ·simp only [World.size_alloc] at hb; omega
      ·intro b hb hbl
       simp only [In, size_setRow, Ac, World.size_alloc] at hb hbl ⊢
       rcases hb with (hb | hb) | hb | hb
       ·exact .inl hb
       ·exact .inr (by omega)
       ·exact .inr (by omega)
       ·exact .inr (by omega)
     ·intro b hb hn
      rw [Ad (by omega)]
      exact (keep3 b (by omega) (fun h => by rcases h with h | h; exact hn h; simp only [In] at h; omega)).trans (hk b hb hn)
     ·have Ma : Mod (fun b => S2 b ∨ w0.heap.size ≤ b) w (w2.alloc (.cells #[i64 v.key, i64 v.tag.t, i64 v.tag.p, .slice a5 v.past.length c5, .string v.text, .bool v.gone] 49)) := ((((Mod.al (Mod.rfl (S := fun b => S2 b ∨ w0.heap.size ≤ b)) _).AE (.inl (Nat.le_refl _)) _).ex E1).Sq.ex E2).al _
      have Mb := Ma.tr (M7.KE fun b _ h => by rcases h with h | h; exact .inl h; simp only [In] at h; exact .inr (by omega))
      exact (M0.tr Mb).AE (.inr (.inr hb1)) _
    ·have Y1 := (keep1 b1 y1).trans X1
     simp (disch := first | exact xD | fail) [-Option.bind_some, -Aa, -Ab]
     refine OO _ _ log a1 c1 (by omega) hlp xA xA xA xA (by omega) Y1 ((keep1 b2 y2).trans X2) ((keep1 b3 y3).trans X3) ((ho.Ak fun b hb hbl => keep1 b hbl).wide ?_) (fun b hb hn => (keep1 b (by omega)).trans (hk b hb hn)) (((M0.al _).AE (.inr (.inr (by omega))) _).ex E1)
     intro b hb hbl
     simp only [In] at hb ⊢
     rcases hb with hb | hb
     ·exact .inl hb
     ·exact .inr (by omega)
  ·simp (disch := first | exact xD | fail) [-Option.bind_some, qs, -Aa, -Ab, qm, e1, e3, e4, X3, show (k : Int) < 4 by omega, AW, ht, p0, p1, p2, p3, p4, p5]
   refine OO _ _ log a1 c1 (by omega) hlp xA xA xA xA (by simp; omega) (by first | assumption | rfl | (simp (disch := first | exact xD | fail) [-Option.bind_some, qs, -Aa, -Ab, X1]; done)) (by first | assumption | rfl | (simp (disch := first | exact xD | fail) [-Option.bind_some, qs, -Aa, -Ab, X2]; done)) (by first | assumption | rfl | (simp (disch := first | exact xD | fail) [-Option.bind_some, qs, -Aa, -Ab, X3]; done)) ((ho.Ak (by intro b hS hb; (try dsimp only at hS); (try simp only [In] at hS hb); first | rfl | (simp (disch := first | exact xF | fail) only [qk]; done))).wide ?_) (fun b hb hn => (Ad (by omega)).trans ((Ae (by omega)).trans (hk b hb hn))) ((M0.al _).AE (.inr (.inr (by omega))) _)
   intro b hb hbl
   simp only [In, World.size_alloc, size_setRow] at hb ⊢
   rcases hb with hb | hb
   ·exact .inl hb
   ·exact .inr (by omega)
theorem Lr {M : Nat} {S : Nat → Prop} {cs : List Value} {p : PlaceD} {w : World} (hf : CV M p) (hM : M ≤ 1000000) (ho : O Il S w cs p) :
  Ag (EV P 127 #[.agg cs.toArray] w) fun r => ∃ (cs' : List Value) (p' : PlaceD), r.1 = .agg cs'.toArray ∧ CV (M + 4) p' ∧ O Il (fun b => S b ∨ In w.heap.size r.2.heap.size b) r.2 cs' p' ∧ Mod S w r.2 := by
 obtain ⟨a, c, a1, c1, a2, c2, S1, S2, S3, rfl, q1, q2, q3, k1, k2, k3⟩ := O.Hj ho
 obtain ⟨hI, hl, hlp, hg3, hgl⟩ := hf
 have hI' := hI
 obtain ⟨h0, h4, hn⟩ := hI'
 obtain ⟨x, hx, _⟩ := Am (l := p.chain) (k := p.chain.length - 1) (by omega)
 have hxn := hn x (List.mem_of_getElem? hx)
 obtain ⟨g, o, cs1, rfl, A1, D1, _, _⟩ := q1.d.at (by decide) hx
 obtain ⟨a3, c3, a4, c4, rfl, ds, _⟩ := D.node.1 D1
 rw [hxn.1] at ds A1
 have p0 := A1 0 _ rfl
 have p1 := A1 1 _ rfl
 simp only [AO, Nat.add_zero] at p0 p1
 have hw1 : IntKind.i64.wrap ((p.chain.length : Int) - 1) = ((p.chain.length - 1 : Nat) : Int) := by rw [Ho (by omega) (by omega)]; omega
 refine Ag.post fun Q hQ => ?_
 refine Ag.enter plain mixed (KO _ _) (by kernel_rfl) (n := 1) (by kernel_rfl) rfl ?_
 simp (disch := first | exact xD | fail) [-Option.bind_some, qs, -Aa, -Ab, qm, hw1, Cr, hg3, p0]
 refine Ag.mono (P9 (M := M) (b1 := w.heap.size) (b2 := w.heap.size + 1) (b3 := w.heap.size + 1 + 1) (S1 := S1) (S2 := S2) (S3 := S3) (p := p) (x := x) (w0 := w) (z := #[i64 0, i64 0, .slice none 0 0, .slice none 0 0, .slice none 0 0, .bool false]) rfl hM (by omega) (by omega) (by omega) (by omega) (by omega) (by omega)
  ⟨hI, hl, hlp, hg3, hgl⟩ q1.d ds hxn.1 hxn.2.2.1 q3 (fun b hb => ⟨(k1 b hb).2.2.2, (k1 b hb).2.1⟩) (fun b hb => (k2 b hb).2.2.2) (fun b hb => ⟨(k3 b hb).2.2.2, (k3 b hb).2.2.1⟩) (w.heap.size + 3) (by omega) (by omega) (by omega) 4 0 _ _ p.log a1 c1 (by omega) (by omega) hlp xA xA xA xA (by simp) (by first | assumption | rfl | (simp (disch := first | exact xD | fail) [-Option.bind_some, qs, -Aa, -Ab, hg3]; done)) (by first | assumption | rfl | (simp (disch := first | exact xD | fail) [-Option.bind_some, qs, -Aa, -Ab]; done)) (by first | assumption | rfl | (simp (disch := first | exact xD | fail) [-Option.bind_some, qs, -Aa, -Ab]; done)) ((q2.Ak ?_).wide (fun b hb _ => .inl hb)) ?_ ?_) ?_
 ·intro b hb hbl
  have := (k2 b hb).2.2.2
  simp (disch := (first | omega | (simp only [World.size_alloc, size_setRow]; omega))) only [Ad, Ae]
 ·intro b hb hn
  simp (disch := (first | omega | (simp only [World.size_alloc, size_setRow]; omega))) only [Ad, Ae]
 ·exact xM
 rintro ⟨_, w1⟩ ⟨log', a1', c1', f, rfl, h1, h2, o2, hk, M1⟩
 have zM1 := M1.size
 try simp only [] at zM1
 try dsimp only at o2 hk M1
 have zM1 := M1.size
 have hSl : ∀ b, S1 b ∨ S2 b ∨ S3 b → S b ∧ b < w.heap.size := by
  intro b hb
  rcases hb with h | h | h
  ·exact ⟨(k1 b h).1, (k1 b h).2.2.2⟩
  ·exact ⟨(k2 b h).1, (k2 b h).2.2.2⟩
  ·exact ⟨(k3 b h).1, (k3 b h).2.2.2⟩
 refine hQ _ ⟨_, { p with log := log', fell := f }, rfl, ⟨hI, h1, h2, hg3, hgl⟩, (O.Eg (p := { p with log := log', fell := f }) (q1.Ak fun b hb hbl => hk b hbl (k1 b hb).2.1) o2 (q3.Ak fun b hb hbl => hk b hbl (k3 b hb).2.2.1) ?_ (fun b _ h h' => (k1 b h).2.2.1 h') ?_).wide ?_, ⟨M1.os, M1.tape, M1.output, M1.size, fun b hb hn => hk b hb fun h => hn (hSl b (.inr (.inl h))).1⟩⟩
 ·intro b hb h h'
  rcases h' with h' | h'
  ·exact (k1 b h).2.1 h'
  ·have := (k1 b h).2.2.2
   simp only [In] at h'; omega
 ·intro b hb h h'
  rcases h with h | h
  ·exact (k2 b h).2.2.1 h'
  ·have := (k3 b h').2.2.2
   simp only [In] at h; omega
 ·intro b hb hbl
  simp only [In] at hb hbl ⊢
  rcases hb with h | (h | h) | h
  ·exact .inl (hSl b (.inl h)).1
  ·exact .inl (hSl b (.inr (.inl h))).1
  ·exact .inr (by omega)
  ·exact .inl (hSl b (.inr (.inr h))).1
theorem QO {b : Nat} {a : Option Addr} {c : Nat} {S : Nat → Prop} {xs : List Tag} {w0 : World} (h4 : xs.length = 4) (X : hp w0 b = some (.cells #[.slice a 4 c] 32 (0, 0))) (ha : D Bj S w0 [.slice a 4 c] xs) :
  ∀ (d k : Nat) (e : Env) (n : Int), k + d = 4 → e 3 = pt b 0 → e 5 = i64 n → e 6 = i64 k → Ag (Dk e w0) fun r => ∃ m, r = (i64 m, w0) := by
 intro d
 induction d with
 | zero =>
  intro k e n hd e3 e5 e6
  rw [Fa]
  obtain rfl : k = 4 := by omega
  refine Ag.post fun Q hQ => ?_
  simp (disch := first | exact xD | fail) [-Option.bind_some, e5, e6]
  exact hQ _ ⟨_, rfl⟩
 | succ d ih =>
  intro k e n hd e3 e5 e6
  rw [Fa]
  obtain ⟨x, hx, _⟩ := Am (l := xs) (k := k) (by omega)
  obtain ⟨b1, o1, cs1, rfl, A1, D1, _, _⟩ := ha.at (by decide) hx
  obtain rfl := D.tag.1 D1
  have p0 := A1 0 _ rfl
  have p1 := A1 1 _ rfl
  simp only [Cs, Nat.add_zero] at p0 p1
  refine Ag.post fun Q hQ => ?_
  by_cases hg : n < x.t
  ·simp (disch := first | exact xD | fail) [-Option.bind_some, -Aa, -Ab, e3, e5, e6, X, show (k : Int) < 4 by omega, EJ, hg, p0]
   rw [Fb]
   simp (disch := first | exact xD | fail) [-Option.bind_some, qs, -Aa, -Ab, e6]
   exact Ag.mono (ih (k + 1) _ _ (by omega) xA rfl xA) hQ
  ·simp (disch := first | exact xD | fail) [-Option.bind_some, -Aa, -Ab, e3, e5, e6, X, show (k : Int) < 4 by omega, EJ, hg, p0]
   rw [Fb]
   simp (disch := first | exact xD | fail) [-Option.bind_some, qs, -Aa, -Ab, e6]
   exact Ag.mono (ih (k + 1) _ _ (by omega) xA xA xA) hQ
theorem F9 {a : Option Addr} {n c : Nat} {S : Nat → Prop} {xs : List Tag} {u0 u1 u2 u3 u4 : Value} {q : Int} {w : World} (h4 : xs.length = 4) (hu : ([u0, i64 q, u1, u2, u3, u4] : List Value).all Value.oneCell' = true) (ha : D Bj S w [.slice a n c] xs) :
  Ag (EV P 144 #[.agg #[u0, i64 q, u1, u2, u3, u4], .agg #[.slice a n c]] w) fun r => ∃ m, r.1 = i64 m ∧ Ext w r.2 := by
 obtain ⟨rfl, _⟩ := ha.n
 rw [h4] at ha ⊢
 refine Ag.post fun Q hQ => ?_
 refine Ag.enter plain mixed (KV _ _ _) (by kernel_rfl) (n := 2) (by kernel_rfl) rfl ?_
 simp (disch := first | exact xD | fail) [-Option.bind_some, qs, -Aa, -Ab]
 refine Ag.mono (QO (b := w.heap.size + 1) h4 (by first | assumption | rfl | (simp (disch := first | exact xD | fail) [-Option.bind_some, qs, -Aa, -Ab]; done)) (ha.ext xE) 4 0 _ _ (by omega) xA rfl xA) ?_
 rintro r ⟨m, rfl⟩
 exact hQ _ ⟨m, rfl, xE⟩
theorem Ls {a : Option Addr} {n c : Nat} {S : Nat → Prop} {ns : List CNode} {w : World} (hI : Lp ns) (ha : D AU S w [.slice a n c] ns) :
  Ag (EV P 143 #[.agg #[.slice a n c]] w) fun r => ∃ (a' : Option Addr) (c' : Nat) (ts : List Tag), ts.length = 4 ∧ r.1 = .agg #[.slice a' 4 c'] ∧ O Bj (In w.heap.size r.2.heap.size) r.2 [.slice a' 4 c'] ts ∧ Ext w r.2 := by
 obtain ⟨rfl, _⟩ := ha.n
 obtain ⟨h0, h4, hn⟩ := hI
 obtain ⟨x, hx, _⟩ := Am (l := ns) (k := ns.length - 1) (by omega)
 have hs4 := (hn x (List.mem_of_getElem? hx)).1
 obtain ⟨b1, o1, cs1, rfl, A1, D1, _, l1⟩ := ha.at (by decide) hx
 obtain ⟨a2, c2, a3, c3, rfl, h2, h3⟩ := D.node.1 D1
 have p0 := A1 0 _ rfl
 have p1 := A1 1 _ rfl
 simp only [AO, Nat.add_zero] at p0 p1
 have ht4 : (AG x.store).length = 4 := by rw [AG, List.length_map]; exact hs4
 have hw1 : IntKind.i64.wrap ((ns.length : Int) - 1) = ((ns.length - 1 : Nat) : Int) := by rw [Ho (by omega) (by omega)]; omega
 refine Ag.post fun Q hQ => ?_
 refine Ag.enter plain mixed (Jw _ _) (by kernel_rfl) (n := 1) (by kernel_rfl) rfl ?_
 simp (disch := first | exact xD | fail) [-Option.bind_some, qs, -Aa, -Ab, Cr, hw1, p0]
 refine Ag.bind (HW hs4 (h2.ext xE)) ?_
 rintro ⟨_, w1⟩ ⟨a5, c5, rfl, o5, E1⟩
 try dsimp only at a5 c5 o5 E1
 have zE1 := E1.size
 try simp only [qz] at zE1
 rw [ht4] at o5
 simp (disch := first | exact xD | fail) [-Option.bind_some, qs, -Aa, -Ab, qm, ht4, E1.Ah]
 exact hQ _ ⟨_, _, _, ht4, rfl, (o5.Ak (by intro b hS hb; (try dsimp only at hS); (try simp only [In, qz] at hS hb); first | rfl | (simp (disch := first | exact xF | fail) only [qk]; done))).wide xV, xE⟩
theorem Qa {a : Option Addr} {c g1 g2 k key : Nat} {S : Nat → Prop} {ns : List CNode} {x : CNode} {v : Ver} {e : Env} {w : World} {z : Array Value} (hz : z.size = 6) (h4 : ns.length ≤ 4) (hs4 : x.store.length = 4) (hx : ns[k]? = some x) (hv : x.store[key]? = some v) (ha : D AU S w [.slice a ns.length c] ns)
  (e1 : e 1 = i64 k) (e2 : e 2 = i64 key) (e3 : e 3 = pt g1 0) (e6 : e 6 = pt g2 0) (X1 : hp w g1 = some (.cells #[.slice a ns.length c] 81 (0, 0))) (X2 : hp w g2 = some (.cells z 49 (0, 0))) :
  Ag (B8 e w) fun r => ∃ ds, r.1 = .agg ds.toArray ∧ O Bz (In w.heap.size r.2.heap.size) r.2 ds v ∧ Mod (fun b => b = g2) w r.2 := by
 rw [H0]
 have y1 := Aq X1
 have y2 := Aq X2
 have hlt : k < ns.length := (List.getElem?_eq_some_iff.1 hx).1
 have hlt2 : key < x.store.length := (List.getElem?_eq_some_iff.1 hv).1
 obtain ⟨b1, o1, cs1, rfl, A1, D1, _, l1⟩ := ha.at (by decide) hx
 obtain ⟨a2, c2, a3, c3, rfl, h2, h3⟩ := D.node.1 D1
 have p0 := A1 0 _ rfl
 have p1 := A1 1 _ rfl
 simp only [AO, Nat.add_zero] at p0 p1
 obtain ⟨b2, o2, cs2, rfl, A2, D2, _, l2⟩ := h2.at (by decide) hv
 have D2' := D2
 obtain ⟨av, cv, rfl, _, _⟩ := D.Bv.1 D2'
 have q0 := A2 0 _ rfl
 have q1 := A2 1 _ rfl
 have q2 := A2 2 _ rfl
 have q3 := A2 3 _ rfl
 have q4 := A2 4 _ rfl
 have q5 := A2 5 _ rfl
 simp only [AX, Nat.add_zero] at q0 q1 q2 q3 q4 q5
 have hz' : ∃ u0 u1 u2 u3 u4 u5, z = #[u0, u1, u2, u3, u4, u5] := by
  obtain ⟨l⟩ := z
  match l, hz with
  | [u0, u1, u2, u3, u4, u5], _ => exact ⟨u0, u1, u2, u3, u4, u5, rfl⟩
 obtain ⟨u0, u1, u2, u3, u4, u5, rfl⟩ := hz'
 refine Ag.post fun Q hQ => ?_
 simp (disch := first | exact xD | fail) [-Option.bind_some, -Aa, -Ab, e1, e2, e3, e6, X1, Cr, AW, p0, q0, q1, q2, q3, q4, q5]
 refine Ag.bind (AZ D2) ?_
 rintro ⟨_, w1⟩ ⟨ds, rfl, o3, E1⟩
 try dsimp only at ds o3 E1
 have zE1 := E1.size
 try simp only [qz] at zE1
 have zo3 := O.Bv.1 o3
 obtain ⟨a5, c5, rfl, _, _⟩ := zo3
 have Y2 := (E1.Ah y2).trans X2
 simp (disch := first | exact xD | fail) [-Option.bind_some, -Aa, -Ab, qm, Y2]
 refine hQ _ ⟨_, rfl, (o3.Ak fun b hb hbl => Ad (by simp only [In] at hb; omega)).wide (fun b hb _ => by simp only [In, size_setRow] at hb ⊢; omega), ((Mod.rfl (S := fun b => b = g2)).ex E1).AE (.inr rfl) _⟩
theorem MT {a : Option Addr} {n c k key : Nat} {S : Nat → Prop} {ns : List CNode} {w : World} (hI : Lp ns) (hk : k < ns.length) (hy : key < 4) (ha : D AU S w [.slice a n c] ns) :
  Ag (EV P 137 #[.agg #[.slice a n c], i64 k, i64 key] w) fun r => ∃ (ds : List Value) (v : Ver), Mw v ∧ r.1 = .agg ds.toArray ∧ O Bz (In w.heap.size r.2.heap.size) r.2 ds v ∧ Ext w r.2 := by
 obtain ⟨rfl, _⟩ := ha.n
 obtain ⟨h0, h4, hn⟩ := hI
 have fin : ∀ (k' : Nat) (e : Env) (w1 : World) (Q : Value × World → Prop), k' < ns.length → e 1 = i64 k' → e 2 = i64 key → e 3 = pt w.heap.size 0 → e 6 = pt (w.heap.size + 1) 0 → hp w1 w.heap.size = some (.cells #[.slice a ns.length c] 81 (0, 0)) → hp w1 (w.heap.size + 1) = some (.cells #[i64 0, i64 0, i64 0, .slice none 0 0, .string ⟨#[]⟩, .bool false] 49 (0, 0)) → Ext w w1 →
   (∀ r, (∃ (ds : List Value) (v : Ver), Mw v ∧ r.1 = .agg ds.toArray ∧ O Bz (In w.heap.size r.2.heap.size) r.2 ds v ∧ Ext w r.2) → Q r) → Ag (B8 e w1) Q := by
  intro k' e w1 Q hk' e1 e2 e3 e6 X1 X2 E0 hQ
  have zE0 := E0.size
  try simp only [qz] at zE0
  obtain ⟨x, hx, _⟩ := Am (l := ns) (k := k') hk'
  have hxn := hn x (List.mem_of_getElem? hx)
  obtain ⟨v, hv, _⟩ := Am (l := x.store) (k := key) (by have := hxn.1; omega)
  have y2 := Aq X2
  refine Ag.mono (Qa (z := #[i64 0, i64 0, i64 0, .slice none 0 0, .string ⟨#[]⟩, .bool false]) rfl h4 hxn.1 hx hv (ha.ext E0) e1 e2 e3 e6 X1 X2) ?_
  rintro r ⟨ds, h1, o1, M1⟩
  have zM1 := M1.size
  try simp only [qz] at zM1
  have zM1 := M1.size
  have zE0' := E0.size
  exact hQ _ ⟨ds, v, hxn.2.2.1 v (List.mem_of_getElem? hv), h1, o1.wide (fun b hb _ => by simp only [In] at hb ⊢; omega), Mod.after E0 M1 (fun b h1 h2 => by have h2 : b = w.heap.size + 1 := h2; omega)⟩
 refine Ag.post fun Q hQ => ?_
 refine Ag.enter plain mixed (Ki _ _ _ _) (by kernel_rfl) (n := 3) (by kernel_rfl) rfl ?_
 by_cases hk0 : k = 0
 ·subst hk0
  by_cases h1 : 1 < ns.length
  ·simp (disch := first | exact xD | fail) [-Option.bind_some, qs, -Aa, -Ab, show (1 : Int) < ns.length by omega]
   exact fin 1 _ _ Q h1 rfl xA rfl rfl (by first | assumption | rfl | (simp (disch := first | exact xD | fail) [-Option.bind_some, qs, -Aa, -Ab]; done)) (by first | assumption | rfl | (simp (disch := first | exact xD | fail) [-Option.bind_some, qs, -Aa, -Ab]; done)) xE hQ
  ·simp (disch := first | exact xD | fail) [-Option.bind_some, qs, -Aa, -Ab, show ¬ (1 : Int) < ns.length by omega]
   exact fin 0 _ _ Q (by omega) rfl xA rfl rfl (by first | assumption | rfl | (simp (disch := first | exact xD | fail) [-Option.bind_some, qs, -Aa, -Ab]; done)) (by first | assumption | rfl | (simp (disch := first | exact xD | fail) [-Option.bind_some, qs, -Aa, -Ab]; done)) xE hQ
 ·have hkb : ((k : Int) == 0) = false := by simpa using hk0
  simp (disch := first | exact xD | fail) [-Option.bind_some, -Aa, -Ab, hkb]
  exact fin k _ _ Q hk rfl xA rfl rfl (by first | assumption | rfl | (simp (disch := first | exact xD | fail) [-Option.bind_some, qs, -Aa, -Ab]; done)) (by first | assumption | rfl | (simp (disch := first | exact xD | fail) [-Option.bind_some, qs, -Aa, -Ab]; done)) xE hQ
def later (head : List Ver) (v : Ver) : Bool := match head[v.key.toNat]? with
 | some u => AH u.tag v.tag
 | none => false
def GV (head : List Ver) : List Ver → Nat → Int
 | [], _ => -1
 | v :: l, k => if later head v then (k : Int) else GV head l (k + 1)
theorem Lt {head : List Ver} : ∀ (l : List Ver) (k : Nat), GV head l k = -1 ∨ ∃ j : Nat, GV head l k = (j : Int) ∧ k ≤ j ∧ j < k + l.length
 | [], _ => .inl rfl
 | v :: l, k => by
  rw [GV]
  split
  ·exact .inr ⟨k, rfl, Nat.le_refl _, by simp⟩
  ·rcases Lt l (k + 1) with h | ⟨j, h, h1, h2⟩
   ·exact .inl h
   ·exact .inr ⟨j, h, by omega, by simp only [List.length_cons]; omega⟩
def HS (p : PlaceD) (i : Nat) : Int := match p.chain[0]?, p.Bs[i]? with
 | some x, some l => GV x.store l 0
 | _, _ => -1
theorem Qb {M i b1 b2 : Nat} {p : PlaceD} {x : CNode} {l : List Ver} {a a1 a2 as' : Option Addr} {c c1 c2 cs' : Nat} {S : Nat → Prop} {w0 : World} (hi : i < p.Bs.length) (gl3 : p.Bs.length = 3) (hgl : p.Bs[i]? = some l) (hl60 : l.length ≤ 60 ∧ ∀ v ∈ l, Nz v) (hs4 : x.store.length = 4)
  (hst : D AB S w0 [.slice as' 4 cs'] x.store) (hg : D O9 S w0 [.slice a2 p.Bs.length c2] p.Bs) :
  ∀ (d k : Nat) (e : Env) (w : World), k + d = l.length → e 1 = i64 i → e 2 = pt b1 0 → e 5 = pt b2 0 → e 6 = i64 k →
   hp w b1 = some (.cells #[i64 p.me, i64 p.clock, .slice a p.chain.length c, .slice a1 p.log.length c1, .slice a2 p.Bs.length c2, .bool p.fell] 84 (0, 0)) → hp w b2 = some (.cells #[.slice as' 4 cs'] 44 (0, 0)) → Ext w0 w →
   Ag (CS e w) fun r => r.1 = i64 (GV x.store (l.drop k) k) ∧ Ext w0 r.2 := by
 intro d
 induction d with
 | zero =>
  intro k e w hd e1 e2 e5 e6 X1 X2 E0
  have zE0 := E0.size
  try simp only [qz] at zE0
  rw [EB]
  obtain rfl : k = l.length := by omega
  obtain ⟨b3, o3, cs3, rfl, A3, D3, _, _⟩ := (hg.ext E0).at (by decide) hgl
  obtain ⟨a4, c4, rfl, D4⟩ := D3.GD
  have p0 := A3 0 _ rfl
  simp only [Nat.add_zero] at p0
  simp only [Gq, Nat.mul_one] at p0
  rw [List.drop_length, GV]
  refine Ag.post fun Q hQ => ?_
  simp (disch := first | exact xD | fail) [-Option.bind_some, -Aa, -Ab, e1, e2, e6, X1, HU, p0]
  exact hQ _ ⟨rfl, E0⟩
 | succ d ih =>
  intro k e w hd e1 e2 e5 e6 X1 X2 E0
  have zE0 := E0.size
  try simp only [qz] at zE0
  rw [EB]
  have hlt : k < l.length := by omega
  have y1 := Aq X1
  have y2 := Aq X2
  obtain ⟨v, hv, hdv⟩ := Am hlt
  have hvp := hl60.2 v (List.mem_of_getElem? hv)
  obtain ⟨b3, o3, cs3, rfl, A3, D3, _, _⟩ := (hg.ext E0).at (by decide) hgl
  obtain ⟨a4, c4, rfl, D4⟩ := D3.GD
  have p0 := A3 0 _ rfl
  simp only [Nat.add_zero] at p0
  simp only [Gq, Nat.mul_one] at p0
  obtain ⟨b5, o5, cs5, rfl, A5, D5, _, _⟩ := D4.at (by decide) hv
  obtain ⟨av, cv, rfl, _, _⟩ := D.Bv.1 D5
  have q0 := A5 0 _ rfl
  have q1 := A5 1 _ rfl
  have q2 := A5 2 _ rfl
  have q3 := A5 3 _ rfl
  have q4 := A5 4 _ rfl
  have q5 := A5 5 _ rfl
  simp only [AX, Nat.add_zero] at q0 q1 q2 q3 q4 q5
  obtain ⟨ky, hky⟩ := Int.eq_ofNat_of_zero_le hvp.1
  have hk4 : ky < 4 := by have := hvp.2.1; omega
  obtain ⟨u, hu, _⟩ := Am (l := x.store) (k := ky) (by omega)
  obtain ⟨b6, o6, cs6, rfl, A6, D6, _, _⟩ := (hst.ext E0).at (by decide) hu
  obtain ⟨au, cu, rfl, _, _⟩ := D.Bv.1 D6
  have m0 := A6 0 _ rfl
  have m1 := A6 1 _ rfl
  have m2 := A6 2 _ rfl
  have m3 := A6 3 _ rfl
  have m4 := A6 4 _ rfl
  have m5 := A6 5 _ rfl
  simp only [AX, Nat.add_zero] at m0 m1 m2 m3 m4 m5
  have hlt9 : later x.store v = AH u.tag v.tag := by rw [later, hky, Int.toNat_natCast, hu]
  rw [hdv, GV, hlt9]
  rw [hky] at q0
  refine Ag.post fun Q hQ => ?_
  simp (disch := first | exact xD | fail) [-Option.bind_some, qs, -Aa, -Ab, qm, e1, e2, e5, e6, X1, X2, hlt, HU, AW, p0, q0, q1, q2, q3, q4, q5, m1, m2]
  refine Ag.bind (AN u.tag v.tag _) ?_
  rintro ⟨_, w1⟩ ⟨rfl, E1⟩
  try dsimp only at E1
  have zE1 := E1.size
  try simp only [qz] at zE1
  have EX : Ext w w1 := xE
  cases hc : AH u.tag v.tag
  ·rw [hc] at hQ
   simp (disch := first | exact xD | fail) [-Option.bind_some, -Aa, -Ab]
   refine Ag.mono (ih (k + 1) _ w1 (by omega) xA xA xA xA ((EX.Ah y1).trans X1) ((EX.Ah y2).trans X2) (E0.tr EX)) ?_
   rintro r ⟨h1, h2⟩
   exact hQ _ ⟨h1, h2⟩
  ·rw [hc] at hQ
   simp (disch := first | exact xD | fail) [-Option.bind_some, -Aa, -Ab]
   exact hQ _ ⟨rfl, E0.tr EX⟩
theorem JT {M i : Nat} {S : Nat → Prop} {cs : List Value} {p : PlaceD} {w : World} (hf : CV M p) (hi : i < 3) (ho : D Il S w cs p) :
  Ag (EV P 141 #[.agg cs.toArray, i64 i] w) fun r => r.1 = i64 (HS p i) ∧ Ext w r.2 := by
 obtain ⟨a, c, a1, c1, a2, c2, rfl, q1, q2, q3⟩ := D.place.1 ho
 obtain ⟨⟨h0, h4, hn⟩, hl, hlp, gl3, hgl⟩ := hf
 obtain ⟨x, hx, _⟩ := Am (l := p.chain) (k := 0) (by omega)
 obtain ⟨l, hgi, _⟩ := Am (l := p.Bs) (k := i) (by omega)
 have hxn := hn x (List.mem_of_getElem? hx)
 obtain ⟨g, o, cs1, rfl, A1, D1, _, _⟩ := q1.at (by decide) hx
 obtain ⟨a3, c3, a4, c4, rfl, ds, _⟩ := D.node.1 D1
 have p0 := A1 0 _ rfl
 have p1 := A1 1 _ rfl
 simp only [AO, Nat.add_zero] at p0 p1
 rw [hxn.1] at ds p0
 have e0 : HS p i = GV x.store (l.drop 0) 0 := by rw [HS, hx, hgi]; rfl
 rw [e0]
 refine Ag.post fun Q hQ => ?_
 refine Ag.enter plain mixed (Kj _ _ _) (by kernel_rfl) (n := 2) (by kernel_rfl) rfl ?_
 simp (disch := first | exact xD | fail) [-Option.bind_some, qs, -Aa, -Ab, qm, Cr, p0]
 refine Ag.mono (Qb (M := M) (p := p) (w0 := w) (a := some ⟨g, o, none⟩) (c := c) (a1 := a1) (c1 := c1) (by omega) gl3 hgi (hgl l (List.mem_of_getElem? hgi)) hxn.1 ds q3 l.length 0 _ _ (by simp) xA rfl rfl xA (by first | assumption | rfl | (simp (disch := first | exact xD | fail) [-Option.bind_some, qs, -Aa, -Ab]; done)) (by first | assumption | rfl | (simp (disch := first | exact xD | fail) [-Option.bind_some, qs, -Aa, -Ab]; done)) xE) hQ
theorem Oo {M i : Nat} {S : Nat → Prop} {cs : List Value} {p : PlaceD} {x : CNode} {w : World} (hf : CV M p) (hi : i < 3) (hx : p.chain[0]? = some x) (ho : D Il S w cs p) :
  Ag (EV P 131 #[.agg cs.toArray, i64 i] w) fun r => ∃ q, r.1 = .bool q ∧ (q = true → HS p i ≠ -1 ∧ x.wait.length < 6) ∧ Ext w r.2 := by
 have ho' := ho
 obtain ⟨a, c, a1, c1, a2, c2, rfl, q1, q2, q3⟩ := D.place.1 ho'
 have hf' := hf
 obtain ⟨hI, hl, hlp, gl3, hgl⟩ := hf'
 obtain ⟨l, hgi, _⟩ := Am (l := p.Bs) (k := i) (by omega)
 have hl60 := hgl l (List.mem_of_getElem? hgi)
 obtain ⟨b3, o3, cs3, rfl, A3, D3, _, _⟩ := q3.at (by decide) hgi
 obtain ⟨a4, c4, rfl, D4⟩ := D3.GD
 have p0 := A3 0 _ rfl
 simp only [Nat.add_zero] at p0
 simp only [Gq, Nat.mul_one] at p0
 have hlk : HS p i = GV x.store l 0 := by rw [HS, hx, hgi]
 refine Ag.post fun Q hQ => ?_
 refine Ag.enter plain mixed (IH _ _ _) (by kernel_rfl) (n := 2) (by kernel_rfl) rfl ?_
 simp (disch := first | exact xD | fail) [-Option.bind_some, qs, -Aa, -Ab]
 refine Ag.bind (JT hf hi (ho.ext xE)) ?_
 rintro ⟨_, w1⟩ ⟨rfl, E1⟩
 try dsimp only at E1
 have zE1 := E1.size
 try simp only [qz] at zE1
 rcases Lt (head := x.store) l 0 with h | ⟨j, h, _, hj⟩
 ·rw [hlk, h]
  simp (disch := first | exact xD | fail) [-Option.bind_some, -Aa, -Ab]
  exact hQ _ ⟨false, rfl, by simp, xE⟩
 ·rw [hlk, h]
  have hjl : j < l.length := by omega
  obtain ⟨v, hv, _⟩ := Am hjl
  have hvp := hl60.2 v (List.mem_of_getElem? hv)
  obtain ⟨b5, o5, cs5, rfl, A5, D5, _, _⟩ := D4.at (by decide) hv
  obtain ⟨av, cv, rfl, hq1, _⟩ := D.Bv.1 D5
  have t0 := A5 0 _ rfl
  have t1 := A5 1 _ rfl
  have t2 := A5 2 _ rfl
  have t3 := A5 3 _ rfl
  have t4 := A5 4 _ rfl
  have t5 := A5 5 _ rfl
  simp only [AX, Nat.add_zero] at t0 t1 t2 t3 t4 t5
  simp (disch := first | exact xD | fail) [-Option.bind_some, qs, -Aa, -Ab, show (0 : Int) ≤ j by omega, E1.Ah]
  refine Ag.bind (HR hx (q1.ext xE)) ?_
  rintro ⟨_, w2⟩ ⟨rfl, E2⟩
  try dsimp only at E2
  have zE2 := E2.size
  try simp only [qz] at zE2
  by_cases h6 : x.wait.length < 6
  ·simp (disch := first | exact xD | fail) [-Option.bind_some, qs, -Aa, -Ab, h6, HU, AW, p0, E1.Ah, t3, E2.Ah]
   refine Ag.bind (Ls hI (q1.ext xE)) ?_
   rintro ⟨_, w3⟩ ⟨a7, c7, ts, ht4, rfl, o7, E3⟩
   try dsimp only at a7 c7 ts ht4 o7 E3
   have zE3 := E3.size
   try simp only [qz] at zE3
   simp (disch := first | exact xD | fail) [-Option.bind_some, qs, -Aa, -Ab, p0, E1.Ah, t3, E2.Ah, E3.Ah]
   have o7' : D Bj (In w2.heap.size w3.heap.size) w3 [.slice a7 ts.length c7] ts := by rw [ht4]; exact o7.d
   refine Ag.bind (CU hvp.2.2 ht4 (D.AM (hq1.ext xE)) (D.AM o7.d)) ?_
   rintro ⟨_, w4⟩ ⟨rfl, E4⟩
   try dsimp only at E4
   have zE4 := E4.size
   try simp only [qz] at zE4
   simp (disch := first | exact xD | fail) [-Option.bind_some, -Aa, -Ab]
   exact hQ _ ⟨_, rfl, fun _ => ⟨by rw [hlk, h]; omega, h6⟩, xE⟩
  ·simp (disch := first | exact xD | fail) [-Option.bind_some, -Aa, -Ab, h6]
   exact hQ _ ⟨false, rfl, by simp, xE⟩
theorem Oq {M : Nat} {S : Nat → Prop} {cs : List Value} {p : PlaceD} {n : Int} {w : World} (hf : CV M p) (ho : D Il S w cs p) :
  Ag (EV P 128 #[.agg cs.toArray, i64 n] w) fun r => ∃ q, r.1 = .bool q ∧ (q = true → 1 < p.chain.length ∧ 0 ≤ n ∧ n < p.chain.length) ∧ Ext w r.2 := by
 obtain ⟨a, c, a1, c1, a2, c2, rfl, q1, q2, q3⟩ := D.place.1 ho
 obtain ⟨⟨h0, h4, hn⟩, hl, hlp, gl3, hgl⟩ := hf
 have hw1 : IntKind.i64.wrap ((p.chain.length : Int) - 1) = ((p.chain.length - 1 : Nat) : Int) := by rw [Ho (by omega) (by omega)]; omega
 refine Ag.post fun Q hQ => ?_
 refine Ag.enter plain mixed (IF _ _ _) (by kernel_rfl) (n := 2) (by kernel_rfl) rfl ?_
 cases hfl : p.fell
 ·by_cases h1 : 1 < p.chain.length
  ·simp (disch := first | exact xD | fail) [-Option.bind_some, qs, -Aa, -Ab, hw1, show (1 : Int) < p.chain.length by omega]
   refine Ag.bind (AK _ _ _ _) ?_
   rintro _ rfl
   simp (disch := first | exact xD | fail) [-Option.bind_some, -Aa, -Ab]
   refine hQ _ ⟨_, rfl, fun h => ?_, xE⟩
   simp only [Bool.and_eq_true, decide_eq_true_eq] at h
   omega
  ·simp (disch := first | exact xD | fail) [-Option.bind_some, qs, -Aa, -Ab, show ¬ (1 : Int) < p.chain.length by omega]
   exact hQ _ ⟨false, rfl, by simp, xE⟩
 ·simp (disch := first | exact xD | fail) [-Option.bind_some, qs, -Aa, -Ab]
  exact hQ _ ⟨false, rfl, by simp, xE⟩
theorem R7 {M : Nat} {S S1 : Nat → Prop} {cs : List Value} {p : PlaceD} {x : CNode} {a0 : Option Addr} {n0 c0 : Nat} {past : List Tag} {w : World} (hf : CV M p) (hx : p.chain[0]? = some x) (ho : D Il S w cs p) (hp4 : past.length = 4) (hpa : D Bj S1 w [.slice a0 n0 c0] past) :
  Ag (EV P 134 #[.agg cs.toArray, .agg #[.slice a0 n0 c0]] w) fun r => ∃ q, r.1 = .bool q ∧ (q = true → x.wait.length < 6) ∧ Ext w r.2 := by
 obtain ⟨rfl, _⟩ := hpa.n
 obtain ⟨a, c, a1, c1, a2, c2, rfl, q1, q2, q3⟩ := D.place.1 ho
 have hf' := hf
 obtain ⟨hI, hl, hlp, gl3, hgl⟩ := hf'
 refine Ag.post fun Q hQ => ?_
 refine Ag.enter plain mixed (Mg _ _ _) (by kernel_rfl) (n := 2) (by kernel_rfl) rfl ?_
 simp (disch := first | exact xD | fail) [-Option.bind_some, qs, -Aa, -Ab]
 refine Ag.bind (Ls hI (q1.ext xE)) ?_
 rintro ⟨_, w1⟩ ⟨a7, c7, ts, ht4, rfl, o7, E1⟩
 try dsimp only at a7 c7 ts ht4 o7 E1
 have zE1 := E1.size
 try simp only [qz] at zE1
 simp (disch := first | exact xD | fail) [-Option.bind_some, qs, -Aa, -Ab, E1.Ah]
 refine Ag.bind (CU hp4 ht4 (D.AM (hpa.ext xE)) (D.AM o7.d)) ?_
 rintro ⟨_, w2⟩ ⟨rfl, E2⟩
 try dsimp only at E2
 have zE2 := E2.size
 try simp only [qz] at zE2
 cases hu : under past ts
 ·simp (disch := first | exact xD | fail) [-Option.bind_some, qs, -Aa, -Ab, E1.Ah, E2.Ah]
  exact hQ _ ⟨false, rfl, by simp, xE⟩
 ·simp (disch := first | exact xD | fail) [-Option.bind_some, qs, -Aa, -Ab, E1.Ah, E2.Ah]
  refine Ag.bind (HR hx (q1.ext xE)) ?_
  rintro ⟨_, w3⟩ ⟨rfl, E3⟩
  try dsimp only at E3
  have zE3 := E3.size
  try simp only [qz] at zE3
  by_cases h6 : x.wait.length < 6
  ·simp (disch := first | exact xD | fail) [-Option.bind_some, qs, -Aa, -Ab, h6, E1.Ah, E2.Ah, E3.Ah]
   refine Ag.bind (F9 hp4 rfl (hpa.ext xE)) ?_
   rintro ⟨_, w4⟩ ⟨m, rfl, E4⟩
   try dsimp only at m E4
   have zE4 := E4.size
   try simp only [qz] at zE4
   by_cases hm : m ≤ 999
   ·by_cases h36 : p.log.length < 36
    ·simp (disch := first | exact xD | fail) [-Option.bind_some, qs, -Aa, -Ab, hm, show (p.log.length : Int) < 36 by omega, E1.Ah, E2.Ah, E3.Ah, E4.Ah]
     exact hQ _ ⟨true, rfl, fun _ => h6, xE⟩
    ·simp (disch := first | exact xD | fail) [-Option.bind_some, qs, -Aa, -Ab, hm, show ¬ (p.log.length : Int) < 36 by omega, E1.Ah, E2.Ah, E3.Ah, E4.Ah]
     exact hQ _ ⟨false, rfl, by simp, xE⟩
   ·simp (disch := first | exact xD | fail) [-Option.bind_some, -Aa, -Ab, hm]
    exact hQ _ ⟨false, rfl, by simp, xE⟩
  ·simp (disch := first | exact xD | fail) [-Option.bind_some, qs, -Aa, -Ab, h6, E1.Ah, E2.Ah, E3.Ah]
   exact hQ _ ⟨false, rfl, by simp, xE⟩
 -- STEPS
theorem PH {M : Nat} {p : PlaceD} {x : CNode} {v : Ver} {vcs : List Value} {a a1 a2 : Option Addr} {c c1 c2 : Nat} {S1 S2 S3 Sv : Nat → Prop} {w : World} {clk : Int} (hf : CV M p) (hM : M ≤ 1000000) (hx : p.chain[0]? = some x) (h6 : x.wait.length < 6) (hv : Mw v)
  (q1 : O AU S1 w [.slice a p.chain.length c] p.chain) (q2 : O AB S2 w [.slice a1 p.log.length c1] p.log) (q3 : O O9 S3 w [.slice a2 p.Bs.length c2] p.Bs) (k1 : ∀ b, S1 b → ¬ S2 b ∧ ¬ S3 b ∧ b < w.heap.size) (k2 : ∀ b, S2 b → ¬ S1 b ∧ ¬ S3 b ∧ b < w.heap.size) (k3 : ∀ b, S3 b → ¬ S1 b ∧ ¬ S2 b ∧ b < w.heap.size)
  (dv : D Bz Sv w vcs v) (hd : ∀ b, b < w.heap.size → Sv b → ¬ S1 b) :
  Ag (EV P 138 #[.agg #[.slice a p.chain.length c], i64 0, .agg vcs.toArray] w) fun r => r.1 = .agg #[.slice a p.chain.length c] ∧ Mod S1 w r.2 ∧ ∀ w3 : World, (∀ b, (S1 b ∨ S2 b ∨ S3 b ∨ In w.heap.size r.2.heap.size b) → b < r.2.heap.size → hp w3 b = hp r.2 b) → r.2.heap.size ≤ w3.heap.size →
   Ag (EV P 127 #[.agg #[i64 p.me, i64 clk, .slice a p.chain.length c, .slice a1 p.log.length c1, .slice a2 p.Bs.length c2, .bool p.fell]] w3) fun r' => ∃ (cs' : List Value) (p' : PlaceD), r'.1 = .agg cs'.toArray ∧ CV (M + 4) p' ∧ O Il (fun b => S1 b ∨ S2 b ∨ S3 b ∨ (w.heap.size ≤ b ∧ b < r'.2.heap.size)) r'.2 cs' p' ∧ Mod (fun b => S1 b ∨ S2 b ∨ S3 b ∨ In w.heap.size r.2.heap.size b) w3 r'.2 := by
 obtain ⟨hI, hl, hlp, gl3, hgl⟩ := hf
 have hxn := hI.2.2 x (List.mem_of_getElem? hx)
 refine Ag.mono (I4 (i := 0) q1 dv hd hx hv.1 (by rw [hxn.1]; have := hv.2.1; omega) (by omega) (by have := hI.2.1; omega)) ?_
 rintro ⟨_, w1⟩ ⟨rfl, o1, M1⟩
 have zM1 := M1.size
 try simp only [] at zM1
 try dsimp only at o1 M1
 have zM1 := M1.size
 refine ⟨rfl, M1, fun w3 hk hz => ?_⟩
 dsimp only at hk hz ⊢
 have hI' := On hI hx h6 hv
 have hal : (F8 p.chain 0 v).length = p.chain.length := I5 _ _ _
 obtain ⟨p1, hp1⟩ : ∃ p1 : PlaceD, p1 = { p with clock := clk, chain := F8 p.chain 0 v } := ⟨_, rfl⟩
 have ho := O.Eg (p := p1) (w := w3) (S1 := fun b => S1 b ∨ In w.heap.size w1.heap.size b) (S2 := S2) (S3 := S3) (s := .slice a p.chain.length c) (t := .slice a1 p.log.length c1) (u := .slice a2 p.Bs.length c2)
  (by rw [hp1]; exact o1.Ak fun b hb hbl => hk b (by rcases hb with h | h; exact .inl h; exact .inr (.inr (.inr h))) hbl)
  (by rw [hp1]; exact (q2.Ak fun b hb hbl => (hk b (.inr (.inl hb)) (by omega)).trans (M1.Ah b hbl (k2 b hb).1)))
  (by rw [hp1]; exact (q3.Ak fun b hb hbl => (hk b (.inr (.inr (.inl hb))) (by omega)).trans (M1.Ah b hbl (k3 b hb).1)))
  (fun b _ h h' => by rcases h with h | h; exact (k1 b h).1 h'; have := (k2 b h').2.2; simp only [In] at h; omega)
  (fun b _ h h' => by rcases h with h | h; exact (k1 b h).2.1 h'; have := (k3 b h').2.2; simp only [In] at h; omega)
  (fun b _ h h' => (k2 b h).2.1 h')
 have hfp : CV M p1 := by rw [hp1]; exact ⟨hI', hl, hlp, gl3, hgl⟩
 have ecs : [i64 p1.me, i64 p1.clock, .slice a p.chain.length c, .slice a1 p.log.length c1, .slice a2 p.Bs.length c2, .bool p1.fell] = [i64 p.me, i64 clk, .slice a p.chain.length c, .slice a1 p.log.length c1, .slice a2 p.Bs.length c2, .bool p.fell] := by rw [hp1]
 rw [ecs] at ho
 refine Ag.mono (Lr (M := M) hfp hM ho) ?_
 rintro ⟨_, w4⟩ ⟨cs', p', rfl, f1, o4, M4⟩
 have zM4 := M4.size
 try simp only [] at zM4
 try dsimp only at o4 M4
 have zM4 := M4.size
 refine ⟨cs', p', rfl, f1, o4.wide ?_, M4.KE ?_⟩
 ·intro b hb hbl
  simp only [In] at hb ⊢
  rcases hb with ((h | h) | h | h) | h
  ·exact .inl h
  ·exact .inr (.inr (.inr (by omega)))
  ·exact .inr (.inl h)
  ·exact .inr (.inr (.inl h))
  ·exact .inr (.inr (.inr (by omega)))
 ·intro b hbl hb
  rcases hb with (h | h) | h | h
  ·exact .inl h
  ·exact .inr (.inr (.inr h))
  ·exact .inr (.inl h)
  ·exact .inr (.inr (.inl h))
theorem Qc {key : Int} {p : PlaceD} {text : ByteArray} {gone : Bool} {past : List Tag} {a a0 a1 a2 : Option Addr} {c c0 c1 c2 g5 g9 g10 g11 : Nat} {S : Nat → Prop} {e : Env} {w : World} {Q : Value × World → Prop} (hp4 : past.length = 4) (hpa : D Bj S w [.slice a0 4 c0] past)
  (e1 : e 1 = i64 key) (e2 : e 2 = .string text) (e3 : e 3 = .bool gone) (e5 : e 5 = pt g5 0) (e9 : e 9 = pt g9 0) (e10 : e 10 = pt g10 0) (e11 : e 11 = pt g11 0)
  (X5 : hp w g5 = some (.cells #[i64 p.me, i64 p.clock, .slice a p.chain.length c, .slice a1 p.log.length c1, .slice a2 p.Bs.length c2, .bool p.fell] 84 (0, 0))) (X9 : hp w g9 = some (.cells #[.slice a0 4 c0] 32 (0, 0)))
  (J : ∀ (e' : Env) (w' : World) (m : Int) (a5 : Option Addr) (c5 b : Nat), e' 5 = pt g5 0 → e' 10 = pt g10 0 → e' 11 = pt g11 0 → e' 12 = pt b 0 → w.heap.size ≤ b → hp w' b = some (.cells #[i64 key, i64 m, i64 p.me, .slice a5 4 c5, .string text, .bool gone] 49 (0, 0)) → Ext w w' →
   D Bj (fun b => w.heap.size ≤ b) w' [.slice a5 4 c5] past → Ag (AY e' w') Q) : Ag (Eh e w) Q := by
 have y5 := Aq X5
 have y9 := Aq X9
 refine Hq _ _ ?_
 simp (maxSteps := 1000000) (disch := first | exact xD | fail) [-Option.bind_some, qs, -Aa, -Ab, e1, e2, e3, e5, e9, X5, X9]
 refine ⟨?_, ?_, ?_⟩
 ·skip
  refine Ag.mono (F9 hp4 rfl (hpa.ext xE)) ?_
  rintro ⟨_, w1⟩ ⟨m, rfl, E1⟩
  try dsimp only at m E1
  have zE1 := E1.size
  try simp only [qz] at zE1
  have N5 : hp w1 g5 = hp w g5 := (E1.Ah (by simp; omega)).trans (by first | assumption | rfl | (simp (maxSteps := 1000000) (disch := first | exact xD | fail) [-Option.bind_some, qs, -Aa, -Ab, qm, E1.Ah]; done))
  have N9 : hp w1 g9 = hp w g9 := (E1.Ah (by simp; omega)).trans (by first | assumption | rfl | (simp (maxSteps := 1000000) (disch := first | exact xD | fail) [-Option.bind_some, qs, -Aa, -Ab, qm, E1.Ah]; done))
  simp (maxSteps := 1000000) (disch := first | exact xD | fail) [-Option.bind_some, qs, -Aa, -Ab, N5, N9, X5, X9]
  refine ⟨?_, ?_⟩
  ·refine ⟨?_, ?_⟩
   ·refine Ag.mono (O.KG (L := EN) (mx := 8796093021952) Cb CD Gt rfl (by decide) (O.empty (g := w1.heap.size) (by first | assumption | rfl | (simp (maxSteps := 1000000) (disch := first | exact xD | fail) [-Option.bind_some, qs, -Aa, -Ab]; done))) (hpa.ext xE) (by simp; omega) (by decide) (by decide)) ?_
    rintro ⟨_, w5⟩ ⟨a5, c5, rfl, o5, M5⟩
    have zM5 := M5.size
    try simp only [qz] at zM5
    try dsimp only at o5 M5
    simp only [List.nil_append, List.length_nil, Nat.zero_add, hp4] at o5
    have zM5 := M5.size
    try simp only [World.size_alloc] at zM5
    have F5 : Ext w w5 := Mod.after xE M5 (fun b h1 h2 => by have h2 : b = w1.heap.size := h2; omega)
    have N5 : hp w5 g5 = hp w g5 := F5.Ah y5
    have N9 : hp w5 g9 = hp w g9 := F5.Ah y9
    simp (maxSteps := 1000000) (disch := first | exact xD | fail) [-Option.bind_some, qs, -Aa, -Ab, qm, N5, N9, X5, X9, hp4]
    exact J _ _ m a5 c5 (w5.heap.size) xA xA xA xA (by omega) (by first | assumption | rfl | (simp (maxSteps := 1000000) (disch := first | exact xD | fail) [-Option.bind_some, qs, -Aa, -Ab]; done)) xE (((D.wide (S' := fun b => w.heap.size ≤ b ∧ b ≠ w5.heap.size ∧ b < w5.heap.size) o5.d (by intro b hb hbl; (try dsimp only at hb); (try simp only [World.size_alloc] at hb); exact ⟨by omega, by omega, hbl⟩)).Ak (fun b hb hbl => (Ad hb.2.1).trans (Ae hb.2.2))).wide (fun b hb _ => hb.1))
   ·refine Ag.mono (O.KG (L := EN) (mx := 8796093021952) Cb CD Gt rfl (by decide) (O.empty (g := w1.heap.size) (by first | assumption | rfl | (simp (maxSteps := 1000000) (disch := first | exact xD | fail) [-Option.bind_some, qs, -Aa, -Ab]; done))) (hpa.ext xE) (by simp; omega) (by decide) (by decide)) ?_
    rintro ⟨_, w5⟩ ⟨a5, c5, rfl, o5, M5⟩
    have zM5 := M5.size
    try simp only [qz] at zM5
    try dsimp only at o5 M5
    simp only [List.nil_append, List.length_nil, Nat.zero_add, hp4] at o5
    have zM5 := M5.size
    try simp only [World.size_alloc] at zM5
    have F5 : Ext w w5 := Mod.after xE M5 (fun b h1 h2 => by have h2 : b = w1.heap.size := h2; omega)
    have N5 : hp w5 g5 = hp w g5 := F5.Ah y5
    have N9 : hp w5 g9 = hp w g9 := F5.Ah y9
    have Y8 : hp w5 (w1.heap.size + 1) = some (.cells #[i64 0, i64 0, i64 0, .slice none 0 0, .string ⟨#[]⟩, .bool false] 49 (0, 0)) := (M5.Ah _ (by (try simp only [World.size_alloc]); omega) (by omega)).trans (by first | assumption | rfl | (simp (maxSteps := 1000000) (disch := first | exact xD | fail) [-Option.bind_some, qs, -Aa, -Ab]; done))
    simp (maxSteps := 1000000) (disch := first | exact xD | fail) [-Option.bind_some, -Aa, -Ab, qm, N5, X5, Y8, hp4]
    exact J _ _ m a5 c5 (w1.heap.size + 1) xA xA xA xA (by omega) (by first | assumption | rfl | (simp (maxSteps := 1000000) (disch := first | exact xD | fail) [-Option.bind_some, -Aa, -Ab, Y8]; done)) xE (((D.wide (S' := fun b => w.heap.size ≤ b ∧ b ≠ w1.heap.size + 1 ∧ b < w5.heap.size) o5.d (by intro b hb hbl; (try dsimp only at hb); (try simp only [World.size_alloc] at hb); exact ⟨by omega, by omega, hbl⟩)).Ak (fun b hb hbl => Ad hb.2.1)).wide (fun b hb _ => hb.1))
  ·refine Ag.mono (O.KG (L := EN) (mx := 8796093021952) Cb CD Gt rfl (by decide) (O.empty (g := w1.heap.size + 1) (by first | assumption | rfl | (simp (maxSteps := 1000000) (disch := first | exact xD | fail) [-Option.bind_some, qs, -Aa, -Ab]; done))) (hpa.ext xE) (by simp; omega) (by decide) (by decide)) ?_
   rintro ⟨_, w5⟩ ⟨a5, c5, rfl, o5, M5⟩
   have zM5 := M5.size
   try simp only [qz] at zM5
   try dsimp only at o5 M5
   simp only [List.nil_append, List.length_nil, Nat.zero_add, hp4] at o5
   have zM5 := M5.size
   try simp only [World.size_alloc] at zM5
   have F5 : Ext w w5 := Mod.after xE M5 (fun b h1 h2 => by have h2 : b = w1.heap.size + 1 := h2; omega)
   have N5 : hp w5 g5 = hp w g5 := F5.Ah y5
   have N9 : hp w5 g9 = hp w g9 := F5.Ah y9
   have Y8 : hp w5 (w1.heap.size) = some (.cells #[i64 0, i64 0, i64 0, .slice none 0 0, .string ⟨#[]⟩, .bool false] 49 (0, 0)) := (M5.Ah _ (by (try simp only [World.size_alloc]); omega) (by omega)).trans (by first | assumption | rfl | (simp (maxSteps := 1000000) (disch := first | exact xD | fail) [-Option.bind_some, qs, -Aa, -Ab]; done))
   simp (maxSteps := 1000000) (disch := first | exact xD | fail) [-Option.bind_some, -Aa, -Ab, qm, N5, X5, Y8, hp4]
   exact J _ _ m a5 c5 (w1.heap.size) xA xA xA xA (by omega) (by first | assumption | rfl | (simp (maxSteps := 1000000) (disch := first | exact xD | fail) [-Option.bind_some, -Aa, -Ab, Y8]; done)) xE (((D.wide (S' := fun b => w.heap.size ≤ b ∧ b ≠ w1.heap.size ∧ b < w5.heap.size) o5.d (by intro b hb hbl; (try dsimp only at hb); (try simp only [World.size_alloc] at hb); exact ⟨by omega, by omega, hbl⟩)).Ak (fun b hb hbl => Ad hb.2.1)).wide (fun b hb _ => hb.1))
 ·refine ⟨?_, ?_⟩
  ·skip
   refine Ag.mono (F9 hp4 rfl (hpa.ext xE)) ?_
   rintro ⟨_, w1⟩ ⟨m, rfl, E1⟩
   try dsimp only at m E1
   have zE1 := E1.size
   try simp only [qz] at zE1
   have N5 : hp w1 g5 = hp w g5 := (E1.Ah (by simp; omega)).trans (by first | assumption | rfl | (simp (maxSteps := 1000000) (disch := first | exact xD | fail) [-Option.bind_some, qs, -Aa, -Ab]; done))
   have N9 : hp w1 g9 = hp w g9 := (E1.Ah (by simp; omega)).trans (by first | assumption | rfl | (simp (maxSteps := 1000000) (disch := first | exact xD | fail) [-Option.bind_some, qs, -Aa, -Ab]; done))
   simp (maxSteps := 1000000) (disch := first | exact xD | fail) [-Option.bind_some, qs, -Aa, -Ab, N5, N9, X5, X9]
   refine ⟨?_, ?_⟩
   ·refine Ag.mono (O.KG (L := EN) (mx := 8796093021952) Cb CD Gt rfl (by decide) (O.empty (g := w.heap.size) (by first | assumption | rfl | (simp (maxSteps := 1000000) (disch := first | exact xD | fail) [-Option.bind_some, qs, -Aa, -Ab, E1.Ah]; done))) (hpa.ext xE) (by simp; omega) (by decide) (by decide)) ?_
    rintro ⟨_, w5⟩ ⟨a5, c5, rfl, o5, M5⟩
    have zM5 := M5.size
    try simp only [] at zM5
    try dsimp only at o5 M5
    simp only [List.nil_append, List.length_nil, Nat.zero_add, hp4] at o5
    have zM5 := M5.size
    try simp only [World.size_alloc, Ac] at zM5
    have F5 : Ext w w5 := Mod.after xE M5 (fun b h1 h2 => by have h2 : b = w.heap.size := h2; omega)
    have N5 : hp w5 g5 = hp w g5 := F5.Ah y5
    have N9 : hp w5 g9 = hp w g9 := F5.Ah y9
    simp (maxSteps := 1000000) (disch := first | exact xD | fail) [-Option.bind_some, qs, -Aa, -Ab, qm, N5, N9, X5, X9, hp4]
    exact J _ _ m a5 c5 (w5.heap.size) xA xA xA xA (by omega) (by first | assumption | rfl | (simp (maxSteps := 1000000) (disch := first | exact xD | fail) [-Option.bind_some, qs, -Aa, -Ab]; done)) xE (((D.wide (S' := fun b => w.heap.size ≤ b ∧ b ≠ w5.heap.size ∧ b < w5.heap.size) o5.d (by intro b hb hbl; (try dsimp only at hb); (try simp only [World.size_alloc, Ac] at hb); exact ⟨by omega, by omega, hbl⟩)).Ak (fun b hb hbl => (Ad hb.2.1).trans (Ae hb.2.2))).wide (fun b hb _ => hb.1))
   ·refine Ag.mono (O.KG (L := EN) (mx := 8796093021952) Cb CD Gt rfl (by decide) (O.empty (g := w.heap.size) (by first | assumption | rfl | (simp (maxSteps := 1000000) (disch := first | exact xD | fail) [-Option.bind_some, qs, -Aa, -Ab, E1.Ah]; done))) (hpa.ext xE) (by simp; omega) (by decide) (by decide)) ?_
    rintro ⟨_, w5⟩ ⟨a5, c5, rfl, o5, M5⟩
    have zM5 := M5.size
    try simp only [qz] at zM5
    try dsimp only at o5 M5
    simp only [List.nil_append, List.length_nil, Nat.zero_add, hp4] at o5
    have zM5 := M5.size
    try simp only [World.size_alloc] at zM5
    have F5 : Ext w w5 := Mod.after xE M5 (fun b h1 h2 => by have h2 : b = w.heap.size := h2; omega)
    have N5 : hp w5 g5 = hp w g5 := F5.Ah y5
    have N9 : hp w5 g9 = hp w g9 := F5.Ah y9
    have Y8 : hp w5 (w1.heap.size) = some (.cells #[i64 0, i64 0, i64 0, .slice none 0 0, .string ⟨#[]⟩, .bool false] 49 (0, 0)) := (M5.Ah _ (by (try simp only [World.size_alloc]); omega) (by omega)).trans (by first | assumption | rfl | (simp (maxSteps := 1000000) (disch := first | exact xD | fail) [-Option.bind_some, qs, -Aa, -Ab]; done))
    simp (maxSteps := 1000000) (disch := first | exact xD | fail) [-Option.bind_some, -Aa, -Ab, qm, N5, X5, Y8, hp4]
    exact J _ _ m a5 c5 (w1.heap.size) xA xA xA xA (by omega) (by first | assumption | rfl | (simp (maxSteps := 1000000) (disch := first | exact xD | fail) [-Option.bind_some, -Aa, -Ab, Y8]; done)) xE (((D.wide (S' := fun b => w.heap.size ≤ b ∧ b ≠ w1.heap.size ∧ b < w5.heap.size) o5.d (by intro b hb hbl; (try dsimp only at hb); (try simp only [World.size_alloc] at hb); exact ⟨by omega, by omega, hbl⟩)).Ak (fun b hb hbl => Ad hb.2.1)).wide (fun b hb _ => hb.1))
  ·skip
   refine Ag.mono (F9 hp4 rfl (hpa.ext xE)) ?_
   rintro ⟨_, w1⟩ ⟨m, rfl, E1⟩
   try dsimp only at m E1
   have zE1 := E1.size
   try simp only [qz] at zE1
   have N5 : hp w1 g5 = hp w g5 := (E1.Ah (by simp; omega)).trans (by first | assumption | rfl | (simp (maxSteps := 1000000) (disch := first | exact xD | fail) [-Option.bind_some, qs, -Aa, -Ab]; done))
   have N9 : hp w1 g9 = hp w g9 := (E1.Ah (by simp; omega)).trans (by first | assumption | rfl | (simp (maxSteps := 1000000) (disch := first | exact xD | fail) [-Option.bind_some, qs, -Aa, -Ab]; done))
   simp (maxSteps := 1000000) (disch := first | exact xD | fail) [-Option.bind_some, -Aa, -Ab, N5, N9, X5, X9]
   refine Ag.mono (O.KG (L := EN) (mx := 8796093021952) Cb CD Gt rfl (by decide) (O.empty (g := w.heap.size) (by first | assumption | rfl | (simp (maxSteps := 1000000) (disch := first | exact xD | fail) [-Option.bind_some, qs, -Aa, -Ab, E1.Ah]; done))) (hpa.ext xE) (by simp; omega) (by decide) (by decide)) ?_
   rintro ⟨_, w5⟩ ⟨a5, c5, rfl, o5, M5⟩
   have zM5 := M5.size
   try simp only [] at zM5
   try dsimp only at o5 M5
   simp only [List.nil_append, List.length_nil, Nat.zero_add, hp4] at o5
   have zM5 := M5.size
   try simp only [World.size_alloc, Ac] at zM5
   have F5 : Ext w w5 := Mod.after xE M5 (fun b h1 h2 => by have h2 : b = w.heap.size := h2; omega)
   have N5 : hp w5 g5 = hp w g5 := F5.Ah y5
   have N9 : hp w5 g9 = hp w g9 := F5.Ah y9
   have Y8 : hp w5 (w.heap.size + 1) = some (.cells #[i64 0, i64 0, i64 0, .slice none 0 0, .string ⟨#[]⟩, .bool false] 49 (0, 0)) := (M5.Ah _ (by (try simp only [World.size_alloc, Ac]); omega) (by omega)).trans (by first | assumption | rfl | (simp (maxSteps := 1000000) (disch := first | exact xD | fail) [-Option.bind_some, qs, -Aa, -Ab, E1.Ah]; done))
   simp (maxSteps := 1000000) (disch := first | exact xD | fail) [-Option.bind_some, -Aa, -Ab, qm, N5, X5, Y8, hp4]
   exact J _ _ m a5 c5 (w.heap.size + 1) xA xA xA xA (by omega) (by first | assumption | rfl | (simp (maxSteps := 1000000) (disch := first | exact xD | fail) [-Option.bind_some, -Aa, -Ab, Y8]; done)) xE (((D.wide (S' := fun b => w.heap.size ≤ b ∧ b ≠ w.heap.size + 1 ∧ b < w5.heap.size) o5.d (by intro b hb hbl; (try dsimp only at hb); (try simp only [World.size_alloc, Ac] at hb); exact ⟨by omega, by omega, hbl⟩)).Ak (fun b hb hbl => Ad hb.2.1)).wide (fun b hb _ => hb.1))
 ·refine ⟨?_, ?_⟩
  ·skip
   refine Ag.mono (F9 hp4 rfl (hpa.ext xE)) ?_
   rintro ⟨_, w1⟩ ⟨m, rfl, E1⟩
   try dsimp only at m E1
   have zE1 := E1.size
   try simp only [qz] at zE1
   have N5 : hp w1 g5 = hp w g5 := (E1.Ah (by simp; omega)).trans (by first | assumption | rfl | (simp (maxSteps := 1000000) (disch := first | exact xD | fail) [-Option.bind_some, qs, -Aa, -Ab]; done))
   have N9 : hp w1 g9 = hp w g9 := (E1.Ah (by simp; omega)).trans (by first | assumption | rfl | (simp (maxSteps := 1000000) (disch := first | exact xD | fail) [-Option.bind_some, qs, -Aa, -Ab]; done))
   simp (maxSteps := 1000000) (disch := first | exact xD | fail) [-Option.bind_some, qs, -Aa, -Ab, N5, N9, X5, X9]
   refine Ag.mono (O.KG (L := EN) (mx := 8796093021952) Cb CD Gt rfl (by decide) (O.empty (g := w1.heap.size) (by first | assumption | rfl | (simp (maxSteps := 1000000) (disch := first | exact xD | fail) [-Option.bind_some, qs, -Aa, -Ab]; done))) (hpa.ext xE) (by simp; omega) (by decide) (by decide)) ?_
   rintro ⟨_, w5⟩ ⟨a5, c5, rfl, o5, M5⟩
   have zM5 := M5.size
   try simp only [qz] at zM5
   try dsimp only at o5 M5
   simp only [List.nil_append, List.length_nil, Nat.zero_add, hp4] at o5
   have zM5 := M5.size
   try simp only [World.size_alloc] at zM5
   have F5 : Ext w w5 := Mod.after xE M5 (fun b h1 h2 => by have h2 : b = w1.heap.size := h2; omega)
   have N5 : hp w5 g5 = hp w g5 := F5.Ah y5
   have N9 : hp w5 g9 = hp w g9 := F5.Ah y9
   have Y8 : hp w5 (w.heap.size) = some (.cells #[i64 0, i64 0, i64 0, .slice none 0 0, .string ⟨#[]⟩, .bool false] 49 (0, 0)) := (M5.Ah _ (by (try simp only [World.size_alloc]); omega) (by omega)).trans (by first | assumption | rfl | (simp (maxSteps := 1000000) (disch := first | exact xD | fail) [-Option.bind_some, qs, -Aa, -Ab, E1.Ah]; done))
   simp (maxSteps := 1000000) (disch := first | exact xD | fail) [-Option.bind_some, -Aa, -Ab, qm, N5, X5, Y8, hp4]
   exact J _ _ m a5 c5 (w.heap.size) xA xA xA xA (by omega) (by first | assumption | rfl | (simp (maxSteps := 1000000) (disch := first | exact xD | fail) [-Option.bind_some, -Aa, -Ab, Y8]; done)) xE (((D.wide (S' := fun b => w.heap.size ≤ b ∧ b ≠ w.heap.size ∧ b < w5.heap.size) o5.d (by intro b hb hbl; (try dsimp only at hb); (try simp only [World.size_alloc] at hb); exact ⟨by omega, by omega, hbl⟩)).Ak (fun b hb hbl => Ad hb.2.1)).wide (fun b hb _ => hb.1))
  ·skip
   refine Ag.mono (F9 hp4 rfl (hpa.ext xE)) ?_
   rintro ⟨_, w1⟩ ⟨m, rfl, E1⟩
   try dsimp only at m E1
   have zE1 := E1.size
   try simp only [qz] at zE1
   have N5 : hp w1 g5 = hp w g5 := (E1.Ah (by simp; omega)).trans (by first | assumption | rfl | (simp (maxSteps := 1000000) (disch := first | exact xD | fail) [-Option.bind_some, qs, -Aa, -Ab]; done))
   have N9 : hp w1 g9 = hp w g9 := (E1.Ah (by simp; omega)).trans (by first | assumption | rfl | (simp (maxSteps := 1000000) (disch := first | exact xD | fail) [-Option.bind_some, qs, -Aa, -Ab]; done))
   simp (maxSteps := 1000000) (disch := first | exact xD | fail) [-Option.bind_some, -Aa, -Ab, N5, N9, X5, X9]
   refine Ag.mono (O.KG (L := EN) (mx := 8796093021952) Cb CD Gt rfl (by decide) (O.empty (g := w.heap.size + 1) (by first | assumption | rfl | (simp (maxSteps := 1000000) (disch := first | exact xD | fail) [-Option.bind_some, qs, -Aa, -Ab, E1.Ah]; done))) (hpa.ext xE) (by simp; omega) (by decide) (by decide)) ?_
   rintro ⟨_, w5⟩ ⟨a5, c5, rfl, o5, M5⟩
   have zM5 := M5.size
   try simp only [] at zM5
   try dsimp only at o5 M5
   simp only [List.nil_append, List.length_nil, Nat.zero_add, hp4] at o5
   have zM5 := M5.size
   try simp only [World.size_alloc, Ac] at zM5
   have F5 : Ext w w5 := Mod.after xE M5 (fun b h1 h2 => by have h2 : b = w.heap.size + 1 := h2; omega)
   have N5 : hp w5 g5 = hp w g5 := F5.Ah y5
   have N9 : hp w5 g9 = hp w g9 := F5.Ah y9
   have Y8 : hp w5 (w.heap.size) = some (.cells #[i64 0, i64 0, i64 0, .slice none 0 0, .string ⟨#[]⟩, .bool false] 49 (0, 0)) := (M5.Ah _ (by (try simp only [World.size_alloc, Ac]); omega) (by omega)).trans (by first | assumption | rfl | (simp (maxSteps := 1000000) (disch := first | exact xD | fail) [-Option.bind_some, qs, -Aa, -Ab, E1.Ah]; done))
   simp (maxSteps := 1000000) (disch := first | exact xD | fail) [-Option.bind_some, -Aa, -Ab, qm, N5, X5, Y8, hp4]
   exact J _ _ m a5 c5 (w.heap.size) xA xA xA xA (by omega) (by first | assumption | rfl | (simp (maxSteps := 1000000) (disch := first | exact xD | fail) [-Option.bind_some, -Aa, -Ab, Y8]; done)) xE (((D.wide (S' := fun b => w.heap.size ≤ b ∧ b ≠ w.heap.size ∧ b < w5.heap.size) o5.d (by intro b hb hbl; (try dsimp only at hb); (try simp only [World.size_alloc, Ac] at hb); exact ⟨by omega, by omega, hbl⟩)).Ak (fun b hb hbl => Ad hb.2.1)).wide (fun b hb _ => hb.1))
theorem Qd {M : Nat} {key : Int} {S Sp : Nat → Prop} {cs : List Value} {p : PlaceD} {x : CNode} {text : ByteArray} {gone : Bool} {past : List Tag} {a0 : Option Addr} {n0 c0 : Nat} {w : World} (hf : CV M p) (hM : M ≤ 1000000) (hx : p.chain[0]? = some x) (h6 : x.wait.length < 6) (hk0 : 0 ≤ key) (hk3 : key ≤ 3) (htx : text.size ≤ 140737488351232) (hp4 : past.length = 4)
  (ho : O Il S w cs p) (hpa : D Bj Sp w [.slice a0 n0 c0] past) :
  Ag (EV P 135 #[.agg cs.toArray, i64 key, .string text, .bool gone, .agg #[.slice a0 n0 c0]] w) fun r => ∃ (cs' : List Value) (p' : PlaceD) (t : Tag), r.1 = .tuple #[.agg cs'.toArray, .agg #[i64 t.t, i64 t.p]] ∧ CV (M + 4) p' ∧ O Il (fun b => S b ∨ In w.heap.size r.2.heap.size b) r.2 cs' p' ∧ Mod S w r.2 := by
 obtain ⟨rfl, _⟩ := hpa.n
 rw [hp4] at hpa ⊢
 obtain ⟨a, c, a1, c1, a2, c2, S1, S2, S3, rfl, q1, q2, q3, k1, k2, k3⟩ := O.Hj ho
 refine Ag.post fun Q hQ => ?_
 refine Ag.enter plain mixed (Kh _ _ _ _ _ _) (by kernel_rfl) (n := 5) (by kernel_rfl) rfl ?_
 simp (maxSteps := 1000000) (disch := first | exact xD | fail) [-Option.bind_some, -Aa, -Ab]
 refine Qc (g5 := w.heap.size) (g9 := w.heap.size + 1) (g10 := w.heap.size + 1 + 1) (g11 := w.heap.size + 1 + 1 + 1) (p := p) (a := a) (c := c) (a1 := a1) (c1 := c1) (a2 := a2) (c2 := c2) hp4 (hpa.ext xE) xA xA xA xA xA xA xA (by first | assumption | rfl | (simp (maxSteps := 1000000) (disch := first | exact xD | fail) [-Option.bind_some, qs, -Aa, -Ab]; done)) (by first | assumption | rfl | (simp (maxSteps := 1000000) (disch := first | exact xD | fail) [-Option.bind_some, qs, -Aa, -Ab]; done)) ?_
 intro e' w' m a5 c5 b e5 e10 e11 e12 hb X12 E0 dt
 have zE0 := E0.size
 try simp only [qz] at zE0
 have zE0' := E0.size
 simp only [World.size_alloc] at hb zE0' dt
 have F0 : Ext w w' := xE
 have y12 := Aq X12
 have X5 : hp w' w.heap.size = some (.cells #[i64 p.me, i64 p.clock, .slice a p.chain.length c, .slice a1 p.log.length c1, .slice a2 p.Bs.length c2, .bool p.fell] 84 (0, 0)) := (E0.Ah (by simp; omega)).trans (by first | assumption | rfl | (simp (maxSteps := 1000000) (disch := first | exact xD | fail) [-Option.bind_some, qs, -Aa, -Ab]; done))
 have X10 : hp w' (w.heap.size + 1 + 1) = some (.cells #[i64 0, i64 0, .slice none 0 0, .slice none 0 0, .slice none 0 0, .bool false] 84 (0, 0)) := (E0.Ah (by simp)).trans (by first | assumption | rfl | (simp (maxSteps := 1000000) (disch := first | exact xD | fail) [-Option.bind_some, qs, -Aa, -Ab]; done))
 have X11 : hp w' (w.heap.size + 1 + 1 + 1) = some (.cells #[i64 0, i64 0] 36 (0, 0)) := (E0.Ah (by simp)).trans (by first | assumption | rfl | (simp (maxSteps := 1000000) (disch := first | exact xD | fail) [-Option.bind_some, qs, -Aa, -Ab]; done))
 rw [HZ]
 simp (maxSteps := 1000000) (disch := first | exact xD | fail) [-Option.bind_some, qs, -Aa, -Ab, qm, e5, e10, e11, e12, X5, X12]
 have kS : ∀ b, S1 b ∨ S2 b ∨ S3 b → S b ∧ b < w.heap.size := by
  rintro b (h | h | h)
  ·exact ⟨(k1 b h).1, (k1 b h).2.2.2⟩
  ·exact ⟨(k2 b h).1, (k2 b h).2.2.2⟩
  ·exact ⟨(k3 b h).1, (k3 b h).2.2.2⟩
 obtain ⟨W, hW⟩ : ∃ W : World, W = w'.setRow w.heap.size #[i64 p.me, i64 m, .slice a p.chain.length c, .slice a1 p.log.length c1, .slice a2 p.Bs.length c2, .bool p.fell] := ⟨_, rfl⟩
 rw [← hW]
 have sW : W.heap.size = w'.heap.size := by rw [hW, size_setRow]
 have kW : ∀ b, b ≠ w.heap.size → hp W b = hp w' b := fun b h => by rw [hW, Ad h]
 have V5 : hp W w.heap.size = some (.cells #[i64 p.me, i64 m, .slice a p.chain.length c, .slice a1 p.log.length c1, .slice a2 p.Bs.length c2, .bool p.fell] 84 (0, 0)) := by
  rw [hW]
  exact (by first | assumption | rfl | (simp (maxSteps := 1000000) (disch := first | exact xD | fail) [-Option.bind_some, -Aa, -Ab, X5]; done))
 have FW : Ext w W := by
  rw [hW]
  exact F0.set (by omega) _
 have V10 := (kW (w.heap.size + 1 + 1) (by omega)).trans X10
 have V11 := (kW (w.heap.size + 1 + 1 + 1) (by omega)).trans X11
 have V12 := (kW b (by omega)).trans X12
 have dv : D Bz (fun b => w.heap.size + 1 ≤ b) W [i64 key, i64 m, i64 p.me, .slice a5 4 c5, .string text, .bool gone] ⟨key, ⟨m, p.me⟩, past, text, gone⟩ := by
  refine D.Bv.2 ⟨a5, c5, by rw [hp4], ?_, htx⟩
  rw [hp4]
  exact (dt.Ak fun b hb hbl => kW b (by omega)).wide fun b hb _ => by omega
 refine Ag.bind (PH (M := M) (clk := m) (v := ⟨key, ⟨m, p.me⟩, past, text, gone⟩) hf hM hx h6 ⟨hk0, hk3, fun _ => hp4⟩ (q1.ext FW) (q2.ext FW) (q3.ext FW) (fun b h => ⟨(k1 b h).2.1, (k1 b h).2.2.1, by have := (k1 b h).2.2.2; have := FW.size; omega⟩) (fun b h => ⟨(k2 b h).2.1, (k2 b h).2.2.1, by have := (k2 b h).2.2.2; have := FW.size; omega⟩) (fun b h => ⟨(k3 b h).2.1, (k3 b h).2.2.1, by have := (k3 b h).2.2.2; have := FW.size; omega⟩) dv (fun b _ h h' => by have := (k1 b h').2.2.2; omega)) ?_
 rintro ⟨_, w2⟩ ⟨rfl, M2, OO⟩
 have zM2 := M2.size
 try simp only [] at zM2
 try dsimp only at M2 OO
 have zM2 := M2.size
 have nb : ∀ b, w.heap.size ≤ b → ¬ S1 b := fun b h h' => by have := (k1 b h').2.2.2; omega
 have Z5 := (M2.Ah _ (by omega) (nb _ (by omega))).trans V5
 have Z10 := (M2.Ah _ (by omega) (nb _ (by omega))).trans V10
 have Z11 := (M2.Ah _ (by omega) (nb _ (by omega))).trans V11
 have Z12 := (M2.Ah _ (by omega) (nb _ (by omega))).trans V12
 simp (maxSteps := 1000000) (disch := first | exact xD | fail) [-Option.bind_some, qs, -Aa, -Ab, qm, Z5, Z12]
 refine Ag.bind (OO _ (fun b hb hbl => ?_) (by simp)) ?_
 ·refine (Bg _ _).trans (Ad ?_)
  rintro rfl
  rcases hb with h | h | h | h
  ·have := (k1 _ h).2.2.2; omega
  ·have := (k2 _ h).2.2.2; omega
  ·have := (k3 _ h).2.2.2; omega
  ·simp only [In] at h; omega
 rintro ⟨_, w3⟩ ⟨cs', p', rfl, f3, o3, M3⟩
 have zM3 := M3.size
 try simp only [qz] at zM3
 try dsimp only at o3 M3
 have zM3 := M3.size
 simp only [Ac, size_setRow] at zM3
 have nb3 : ∀ b, w.heap.size ≤ b → b < W.heap.size → ¬ (S1 b ∨ S2 b ∨ S3 b ∨ In W.heap.size w2.heap.size b) := by
  rintro b h1 h2 (h | h | h | h)
  ·have := (k1 b h).2.2.2; omega
  ·have := (k2 b h).2.2.2; omega
  ·have := (k3 b h).2.2.2; omega
  ·simp only [In] at h; omega
 have T10 : hp w3 (w.heap.size + 1 + 1) = _ := (M3.Ah _ (by simp; omega) (nb3 _ (by omega) (by omega))).trans ((Bg _ _).trans ((Ad (by omega)).trans Z10))
 have T11 : hp w3 (w.heap.size + 1 + 1 + 1) = _ := (M3.Ah _ (by simp; omega) (nb3 _ (by omega) (by omega))).trans ((Bg _ _).trans ((Ad (by omega)).trans Z11))
 have T12 : hp w3 b = _ := (M3.Ah _ (by simp; omega) (nb3 _ (by omega) (by omega))).trans ((Bg _ _).trans ((Ad (by omega)).trans Z12))
 have o3' := o3.d
 obtain ⟨a7, c7, a8, c8, a9, c9, rfl, _, _, _⟩ := D.place.1 o3'
 simp (maxSteps := 1000000) (disch := first | exact xD | fail) [-Option.bind_some, qs, -Aa, -Ab, qm, T10, T11, T12]
 refine hQ _ ⟨_, p', ⟨m, p.me⟩, rfl, f3, (o3.Ak fun b hb hbl => ?_).wide ?_, ?_⟩
 ·have hne : b ≠ w.heap.size + 1 + 1 ∧ b ≠ w.heap.size + 1 + 1 + 1 := by
   rcases hb with h | h | h | h
   ·have := (k1 _ h).2.2.2; omega
   ·have := (k2 _ h).2.2.2; omega
   ·have := (k3 _ h).2.2.2; omega
   ·omega
  rw [Ad hne.2, Ad hne.1]
 ·intro b hb hbl
  simp only [size_setRow] at hbl
  rcases hb with h | h | h | h
  ·exact .inl (kS b (.inl h)).1
  ·exact .inl (kS b (.inr (.inl h))).1
  ·exact .inl (kS b (.inr (.inr h))).1
  ·refine .inr ?_
   simp only [In, size_setRow]
   omega
 ·have Ma : Mod S w w2 := Mod.A8 (Mod.of FW S) M2 fun b _ h => (kS b (.inl h)).1
  have Mb : Mod S w (dw (w2.setRow w.heap.size #[i64 p.me, i64 m, .slice a p.chain.length c, .slice a1 p.log.length c1, .slice a2 p.Bs.length c2, .bool p.fell])) := (Ma.AE (.inl (Nat.le_refl _)) _).Sq
  have Mc : Mod S w w3 := Mod.A8 Mb M3 fun b hb h => by
   rcases h with h | h | h | h
   ·exact (kS b (.inl h)).1
   ·exact (kS b (.inr (.inl h))).1
   ·exact (kS b (.inr (.inr h))).1
   ·simp only [In] at h; omega
  exact (Mc.AE (.inl (by omega)) _).AE (.inl (by omega)) _
theorem Ot {M : Nat} {p : PlaceD} {x : CNode} {v : Ver} {clk : Int} {a a1 a2 av : Option Addr} {c c1 c2 cv b5 : Nat} {S S1 S2 S3 Sv : Nat → Prop} {w W : World} {e : Env} (hf : CV M p) (hM : M ≤ 1000000) (hx : p.chain[0]? = some x) (h6 : x.wait.length < 6) (hv : Mw v)
  (q1 : O AU S1 w [.slice a p.chain.length c] p.chain) (q2 : O AB S2 w [.slice a1 p.log.length c1] p.log) (q3 : O O9 S3 w [.slice a2 p.Bs.length c2] p.Bs) (k1 : ∀ b, S1 b → S b ∧ ¬ S2 b ∧ ¬ S3 b ∧ b < w.heap.size) (k2 : ∀ b, S2 b → S b ∧ ¬ S1 b ∧ ¬ S3 b ∧ b < w.heap.size) (k3 : ∀ b, S3 b → S b ∧ ¬ S1 b ∧ ¬ S2 b ∧ b < w.heap.size)
  (FW : Ext w W) (dv : D Bz Sv W [i64 v.key, i64 v.tag.t, i64 v.tag.p, .slice av v.past.length cv, .string v.text, .bool v.gone] v) (hSv : ∀ b, Sv b → ¬ S1 b)
  (e2 : e 2 = pt w.heap.size 0) (e4 : e 4 = pt (w.heap.size + 1) 0) (e5 : e 5 = pt b5 0) (hb5 : w.heap.size + 1 + 1 ≤ b5)
  (V2 : hp W w.heap.size = some (.cells #[i64 p.me, i64 clk, .slice a p.chain.length c, .slice a1 p.log.length c1, .slice a2 p.Bs.length c2, .bool p.fell] 84 (0, 0))) (V4 : hp W (w.heap.size + 1) = some (.cells #[i64 0, i64 0, .slice none 0 0, .slice none 0 0, .slice none 0 0, .bool false] 84 (0, 0)))
  (V5 : hp W b5 = some (.cells #[i64 v.key, i64 v.tag.t, i64 v.tag.p, .slice av v.past.length cv, .string v.text, .bool v.gone] 49 (0, 0))) :
  Ag (Dh e W) fun r => ∃ (cs' : List Value) (p' : PlaceD), r.1 = .agg cs'.toArray ∧ CV (M + 4) p' ∧ O Il (fun b => S b ∨ In w.heap.size r.2.heap.size b) r.2 cs' p' ∧ Mod S w r.2 := by
 have zFW := FW.size
 have y5 := Aq V5
 rw [IJ]
 have kS : ∀ b, S1 b ∨ S2 b ∨ S3 b → S b ∧ b < w.heap.size := by
  rintro b (h | h | h)
  ·exact ⟨(k1 b h).1, (k1 b h).2.2.2⟩
  ·exact ⟨(k2 b h).1, (k2 b h).2.2.2⟩
  ·exact ⟨(k3 b h).1, (k3 b h).2.2.2⟩
 refine Ag.post fun Q hQ => ?_
 simp (disch := first | exact xD | fail) [-Option.bind_some, -Aa, -Ab, e2, e4, e5, V2, V5]
 refine Ag.bind (PH (M := M) (clk := clk) hf hM hx h6 hv (q1.ext FW) (q2.ext FW) (q3.ext FW) (fun b h => ⟨(k1 b h).2.1, (k1 b h).2.2.1, by have := (k1 b h).2.2.2; omega⟩) (fun b h => ⟨(k2 b h).2.1, (k2 b h).2.2.1, by have := (k2 b h).2.2.2; omega⟩) (fun b h => ⟨(k3 b h).2.1, (k3 b h).2.2.1, by have := (k3 b h).2.2.2; omega⟩) dv (fun b _ h h' => hSv b h h')) ?_
 rintro ⟨_, w2⟩ ⟨rfl, M2, OO⟩
 have zM2 := M2.size
 try simp only [] at zM2
 try dsimp only at M2 OO
 have zM2 := M2.size
 have nb : ∀ b, w.heap.size ≤ b → ¬ S1 b := fun b h h' => by have := (k1 b h').2.2.2; omega
 have Z2 := (M2.Ah _ (by omega) (nb _ (by omega))).trans V2
 have Z4 := (M2.Ah _ (by omega) (nb _ (by omega))).trans V4
 have Z5 := (M2.Ah _ (by omega) (nb _ (by omega))).trans V5
 simp (disch := first | exact xD | fail) [-Option.bind_some, -Aa, -Ab, qm, Z2]
 refine Ag.bind (OO _ (fun b hb hbl => ?_) (by simp)) ?_
 ·refine Ad ?_
  rintro rfl
  rcases hb with h | h | h | h
  ·have := (k1 _ h).2.2.2; omega
  ·have := (k2 _ h).2.2.2; omega
  ·have := (k3 _ h).2.2.2; omega
  ·simp only [In] at h; omega
 rintro ⟨_, w3⟩ ⟨cs', p', rfl, f3, o3, M3⟩
 have zM3 := M3.size
 try simp only [qz] at zM3
 try dsimp only at o3 M3
 have zM3 := M3.size
 simp only [size_setRow] at zM3
 have nb3 : ∀ b, w.heap.size ≤ b → b < W.heap.size → ¬ (S1 b ∨ S2 b ∨ S3 b ∨ In W.heap.size w2.heap.size b) := by
  rintro b h1 h2 (h | h | h | h)
  ·have := (k1 b h).2.2.2; omega
  ·have := (k2 b h).2.2.2; omega
  ·have := (k3 b h).2.2.2; omega
  ·simp only [In] at h; omega
 have T4 : hp w3 (w.heap.size + 1) = _ := (M3.Ah _ (by simp; omega) (nb3 _ (by omega) (by omega))).trans ((Ad (by omega)).trans Z4)
 have o3' := o3.d
 obtain ⟨a7, c7, a8, c8, a9, c9, rfl, _, _, _⟩ := D.place.1 o3'
 simp (disch := first | exact xD | fail) [-Option.bind_some, -Aa, -Ab, qm, T4]
 refine hQ _ ⟨_, p', rfl, f3, (o3.Ak fun b hb hbl => ?_).wide ?_, ?_⟩
 ·refine Ad ?_
  rintro rfl
  rcases hb with h | h | h | h
  ·have := (k1 _ h).2.2.2; omega
  ·have := (k2 _ h).2.2.2; omega
  ·have := (k3 _ h).2.2.2; omega
  ·omega
 ·intro b hb hbl
  simp only [size_setRow] at hbl
  rcases hb with h | h | h | h
  ·exact .inl (kS b (.inl h)).1
  ·exact .inl (kS b (.inr (.inl h))).1
  ·exact .inl (kS b (.inr (.inr h))).1
  ·refine .inr ?_
   simp only [In, size_setRow]
   omega
 ·have Ma : Mod S w w2 := Mod.A8 (Mod.of FW S) M2 fun b _ h => (kS b (.inl h)).1
  have Mb : Mod S w (w2.setRow w.heap.size #[i64 p.me, i64 clk, .slice a p.chain.length c, .slice a1 p.log.length c1, .slice a2 p.Bs.length c2, .bool p.fell]) := Ma.AE (.inl (Nat.le_refl _)) _
  have Mc : Mod S w w3 := Mod.A8 Mb M3 fun b hb h => by
   rcases h with h | h | h | h
   ·exact (kS b (.inl h)).1
   ·exact (kS b (.inr (.inl h))).1
   ·exact (kS b (.inr (.inr h))).1
   ·simp only [In] at h; omega
  exact Mc.AE (.inl (by omega)) _
theorem QP {M i : Nat} {S : Nat → Prop} {cs : List Value} {p : PlaceD} {x : CNode} {w : World} (hf : CV M p) (hM : M ≤ 1000000) (hi : i < 3) (hx : p.chain[0]? = some x) (h6 : x.wait.length < 6) (hlk : HS p i ≠ -1) (ho : O Il S w cs p) :
  Ag (EV P 132 #[.agg cs.toArray, i64 i] w) fun r => ∃ (cs' : List Value) (p' : PlaceD), r.1 = .agg cs'.toArray ∧ CV (M + 4) p' ∧ O Il (fun b => S b ∨ In w.heap.size r.2.heap.size b) r.2 cs' p' ∧ Mod S w r.2 := by
 have ho' := ho.d
 obtain ⟨a, c, a1, c1, a2, c2, S1, S2, S3, rfl, q1, q2, q3, k1, k2, k3⟩ := O.Hj ho
 have hf' := hf
 obtain ⟨hI, hl, hlp, gl3, hgl⟩ := hf'
 obtain ⟨l, hgi, _⟩ := Am (l := p.Bs) (k := i) (by omega)
 have hl60 := hgl l (List.mem_of_getElem? hgi)
 have hlk' : HS p i = GV x.store l 0 := by rw [HS, hx, hgi]
 obtain ⟨j, hj, hjl⟩ : ∃ j : Nat, HS p i = (j : Int) ∧ j < l.length := by
  rcases Lt (head := x.store) l 0 with h | ⟨j, h, _, hj⟩
  ·rw [hlk'] at hlk; exact absurd h hlk
  ·exact ⟨j, by rw [hlk', h], by omega⟩
 obtain ⟨v, hv, _⟩ := Am hjl
 have hvp := hl60.2 v (List.mem_of_getElem? hv)
 obtain ⟨b3, o3, cs3, rfl, A3, D3, _, _⟩ := q3.d.at (by decide) hgi
 obtain ⟨a4, c4, rfl, D4⟩ := D3.GD
 have p0 := A3 0 _ rfl
 simp only [Nat.add_zero] at p0
 simp only [Gq, Nat.mul_one] at p0
 obtain ⟨b9, o9, cs9, rfl, A5, D5, _, _⟩ := D4.at (by decide) hv
 have D5' := D5
 obtain ⟨av, cv, rfl, hq1, _⟩ := D.Bv.1 D5'
 have t0 := A5 0 _ rfl
 have t1 := A5 1 _ rfl
 have t2 := A5 2 _ rfl
 have t3 := A5 3 _ rfl
 have t4 := A5 4 _ rfl
 have t5 := A5 5 _ rfl
 simp only [AX, Nat.add_zero] at t0 t1 t2 t3 t4 t5
 have ya := A3.lt
 have yb := A5.lt
 have go : ∀ (Q : Value × World → Prop) (e : Env) (W : World) (b5 : Nat), (∀ r, (∃ (cs' : List Value) (p' : PlaceD), r.1 = .agg cs'.toArray ∧ CV (M + 4) p' ∧ O Il (fun b => S b ∨ In w.heap.size r.2.heap.size b) r.2 cs' p' ∧ Mod S w r.2) → Q r) → e 2 = pt w.heap.size 0 → e 4 = pt (w.heap.size + 1) 0 → e 5 = pt b5 0 → w.heap.size + 1 + 1 ≤ b5 → Ext w W →
   hp W w.heap.size = some (.cells #[i64 p.me, i64 p.clock, .slice a p.chain.length c, .slice a1 p.log.length c1, .slice (some ⟨b3, o3, none⟩) p.Bs.length c2, .bool p.fell] 84 (0, 0)) → hp W (w.heap.size + 1) = some (.cells #[i64 0, i64 0, .slice none 0 0, .slice none 0 0, .slice none 0 0, .bool false] 84 (0, 0)) →
   hp W b5 = some (.cells #[i64 v.key, i64 v.tag.t, i64 v.tag.p, .slice av v.past.length cv, .string v.text, .bool v.gone] 49 (0, 0)) → Ag (Dg e W) Q := by
  intro Q e W b5 hQ e2 e4 e5 hb5 FW V2 V4 V5
  have zFW := FW.size
  have y5 := Aq V5
  rw [II]
  by_cases hgt : p.clock < v.tag.t
  ·simp (disch := first | exact xD | fail) [-Option.bind_some, -Aa, -Ab, qm, e2, e5, V2, V5, hgt]
   refine Ag.mono (Ot (clk := v.tag.t) (W := W.setRow w.heap.size #[i64 p.me, i64 v.tag.t, .slice a p.chain.length c, .slice a1 p.log.length c1, .slice (some ⟨b3, o3, none⟩) p.Bs.length c2, .bool p.fell]) hf hM hx h6 (QN hvp) q1 q2 q3 k1 k2 k3 (FW.set (by omega) _) ((D5.ext FW).Ak (fun b hb hbl => Ad (by have := (k3 b hb).2.2.2; omega))) (fun b h => (k3 b h).2.1) xA xA xA hb5 (by first | assumption | rfl | (simp (disch := first | exact xD | fail) [-Option.bind_some, -Aa, -Ab, V2]; done)) ((Ad (by omega)).trans V4) ((Ad (by omega)).trans V5)) hQ
  ·simp (disch := first | exact xD | fail) [-Option.bind_some, -Aa, -Ab, e2, e5, V2, V5, hgt]
   exact Ag.mono (Ot (clk := p.clock) hf hM hx h6 (QN hvp) q1 q2 q3 k1 k2 k3 FW (D5.ext FW) (fun b h => (k3 b h).2.1) xA xA xA hb5 V2 V4 V5) hQ
 refine Ag.post fun Q hQ => ?_
 refine Ag.enter plain mixed (KR _ _ _) (by kernel_rfl) (n := 2) (by kernel_rfl) rfl ?_
 simp (disch := first | exact xD | fail) [-Option.bind_some, -Aa, -Ab]
 refine HY _ _ ?_
 simp (disch := first | exact xD | fail) [-Option.bind_some, qs, -Aa, -Ab, HU, p0]
 constructor
 ·skip
  refine Ag.mono (JT hf hi (ho'.ext xE)) ?_
  rintro ⟨_, w1⟩ ⟨rfl, E1⟩
  try dsimp only at E1
  have zE1 := E1.size
  try simp only [qz] at zE1
  rw [hj]
  simp (disch := first | exact xD | fail) [-Option.bind_some, qs, -Aa, -Ab, qm, AW, p0, t0, t1, t2, t3, t4, t5, E1.Ah]
  exact go Q _ _ (w1.heap.size) hQ xA xA xA (by omega) xE (by first | assumption | rfl | (simp (disch := first | exact xD | fail) [-Option.bind_some, qs, -Aa, -Ab, E1.Ah]; done)) (by first | assumption | rfl | (simp (disch := first | exact xD | fail) [-Option.bind_some, qs, -Aa, -Ab, E1.Ah]; done)) (by first | assumption | rfl | (simp (disch := first | exact xD | fail) [-Option.bind_some, qs, -Aa, -Ab]; done))
 ·skip
  refine Ag.mono (JT hf hi (ho'.ext xE)) ?_
  rintro ⟨_, w1⟩ ⟨rfl, E1⟩
  try dsimp only at E1
  have zE1 := E1.size
  try simp only [qz] at zE1
  rw [hj]
  have N5 : hp w1 (w.heap.size + 1 + 1) = some (.cells #[i64 0, i64 0, i64 0, .slice none 0 0, .string ⟨#[]⟩, .bool false] 49 (0, 0)) := (E1.Ah (by simp)).trans (by first | assumption | rfl | (simp (disch := first | exact xD | fail) [-Option.bind_some, qs, -Aa, -Ab]; done))
  simp (disch := first | exact xD | fail) [-Option.bind_some, qs, -Aa, -Ab, qm, AW, N5, p0, t0, t1, t2, t3, t4, t5, E1.Ah]
  exact go Q _ _ (w.heap.size + 1 + 1) hQ xA xA xA (by omega) xE (by first | assumption | rfl | (simp (disch := first | exact xD | fail) [-Option.bind_some, qs, -Aa, -Ab, E1.Ah]; done)) (by first | assumption | rfl | (simp (disch := first | exact xD | fail) [-Option.bind_some, qs, -Aa, -Ab, E1.Ah]; done)) (by first | assumption | rfl | (simp (disch := first | exact xD | fail) [-Option.bind_some, -Aa, -Ab, N5]; done))
end Go.Proofs.YtjhhommnkaemlaaGreat.X
