/- A part of the proof, without conditions. -/
import Derived.Test.YtjhhommnkaemlaaGreatEvWp
import Derived.Test.YtjhhommnkaemlaaGreatD21
import Derived.Test.YtjhhommnkaemlaaGreatEvWo
import Derived.Test.YtjhhommnkaemlaaGreatEvO
set_option linter.unusedVariables false
set_option linter.unusedSimpArgs false
set_option linter.deprecated false
set_option maxRecDepth 100000
set_option maxHeartbeats 1000000
namespace Go.Proofs.YtjhhommnkaemlaaGreat.X
open Go Go.Ev Go.RowKit
attribute [local irreducible] World.alloc World.setRow Go.Ev.dw
theorem Ov {B g p m sN n : Nat} (hm : m < 4) (hsN : sN ≤ 4) (hn : n ≤ 120) (hp0 : p ≤ 500000000000) {w : World} (hr : R w B g p) :
  Ag (EV P 96 #[pt g 0, i64 (1 + (m : Int)), i64 sN, i64 n] w) fun r => ∃ (a : Option Addr) (c p' : Nat) (evs : List EventD), r.1 = .slice a evs.length c ∧ O Li (fun b => w.heap.size ≤ b) r.2 [.slice a evs.length c] evs ∧ (∀ x ∈ evs, x.text.size ≤ 1000) ∧ p' ≤ 700000000000 ∧ R r.2 B g p' ∧ Mod (fun b => b = g) w r.2 := by
 have hl := hr.lt
 refine Ag.post fun Q hQ => ?_
 refine Ag.enter plain mixed (IX _ _ _ _ _) (by kernel_rfl) (n := 4) (by kernel_rfl) rfl ?_
 simp (disch := first | exact xD | fail) [-Option.bind_some, qs, -Aa, -Ab]
 refine Ag.bind (PF hm hsN) ?_
 rintro ⟨_, w1⟩ ⟨cs, st, rfl, f1, o1, E1⟩
 try dsimp only at cs st f1 o1 E1
 have zE1 := E1.size
 try simp only [qz] at zE1
 obtain ⟨u5, l5, d5, u6, l6, d6, u7, l7, d7, u8, l8, d8, rfl⟩ := o1.B6
 simp (disch := first | exact xD | fail) [-Option.bind_some, -Aa, -Ab, qm]
 refine Ag.mono (Og (b9 := w1.heap.size) (w0 := w) (by omega) hl.2 n hn n 0 _ _ p 0 (some ⟨w1.heap.size + 1, 0, none⟩) _ st [] (In w.heap.size w1.heap.size) (fun b => b = w1.heap.size + 1) (by omega) xA xA xA rfl xA (by first | assumption | rfl | (simp (disch := first | exact xD | fail) [-Option.bind_some, qs, -Aa, -Ab]; done)) f1 (o1.Ak fun b hb hbl => ?_) (fun b h => by simp only [In] at h; simp only [World.size_alloc, size_setRow]; omega) (O.empty (L := Gg) (mx := 2513169434916) (g := w1.heap.size + 1) (by first | assumption | rfl | (simp (disch := first | exact xD | fail) [-Option.bind_some, qs, -Aa, -Ab]; done))) (fun b h => by subst h; simp only [World.size_alloc, size_setRow]; omega) (Nat.le_refl 0) (fun x h => by simp at h) (by omega) (hr.ext xE) xM) ?_
 ·simp (disch := (first | omega | (simp only [World.size_alloc, size_setRow]; omega))) only [Ad, Ae]
 rintro r ⟨a', c', p', evs', h1, h2, h3, h4, h5, h6⟩
 exact hQ _ ⟨a', c', p', evs', h1, h2, h3, by omega, h5, h6⟩
theorem Qe {B g p : Nat} (hp0 : p ≤ 400000000000) {w : World} (hr : R w B g p) :
  Ag (EV P 74 #[pt g 0] w) fun r => ∃ (m sN : Nat) (a : Option Addr) (c p' : Nat) (evs : List EventD), m < 4 ∧ sN ≤ 4 ∧ r.1 = .tuple #[i64 (1 + (m : Int)), i64 sN, .slice a evs.length c] ∧ O Li (fun b => w.heap.size ≤ b) r.2 [.slice a evs.length c] evs ∧ (∀ x ∈ evs, x.text.size ≤ 1000) ∧ p' ≤ 700000000000 ∧ R r.2 B g p' ∧ Mod (fun b => b = g) w r.2 := by
 have hl := hr.lt
 refine Ag.post fun Q hQ => ?_
 refine Ag.enter plain mixed (Kn _ _) (by kernel_rfl) (n := 1) (by kernel_rfl) rfl ?_
 simp (disch := first | exact xD | fail) [-Option.bind_some, -Aa, -Ab]
 refine Ag.bind (Al (k := 4) (by omega) (by omega) (by omega) hr) ?_
 rintro ⟨_, w1⟩ ⟨m, rfl, hm, R1, K1⟩
 try dsimp only at R1 K1
 have zK1 := K1.size
 simp (disch := first | exact xD | fail) [-Option.bind_some, qs, -Aa, -Ab]
 refine Ag.bind (Al (k := 4) (by omega) (by omega) (by omega) R1) ?_
 rintro ⟨_, w2⟩ ⟨m2, rfl, hm2, R2, K2⟩
 try dsimp only at R2 K2
 have zK2 := K2.size
 simp (disch := first | exact xD | fail) [-Option.bind_some, qs, -Aa, -Ab]
 refine Ag.bind (Bf (ints := [0, 20, 60, 120]) (k := 4) (by omega) (by omega) (by omega) rfl (At.nw rfl) (by omega) (R2.ext xE)) ?_
 rintro ⟨_, w3⟩ ⟨n, hn, rfl, R3, K3⟩
 try dsimp only at R3 K3
 have zK3 := K3.size
 simp only [World.size_alloc] at zK3
 obtain ⟨n', rfl, hn'⟩ : ∃ n' : Nat, n = (n' : Int) ∧ n' ≤ 120 := by
  simp only [List.mem_cons, List.not_mem_nil, or_false] at hn
  rcases hn with rfl | rfl | rfl | rfl
  ·exact ⟨0, rfl, by omega⟩
  ·exact ⟨20, rfl, by omega⟩
  ·exact ⟨60, rfl, by omega⟩
  ·exact ⟨120, rfl, by omega⟩
 have hes : (1 + (m2 : Int)) = ((1 + m2 : Nat) : Int) := by omega
 have N3 : Mod (fun b => b = g) w w3 := ((K1.tr K2).al _).tr K3
 simp (disch := first | exact xD | fail) [-Option.bind_some, -Aa, -Ab]
 rw [hes]
 refine Ag.bind (Ov (sN := 1 + m2) hm (by omega) hn' (by omega) R3) ?_
 rintro ⟨_, w4⟩ ⟨a', c', p', evs', rfl, h2, h3, h4, h5, h6⟩
 try dsimp only at h2 h5 h6
 simp (disch := first | exact xD | fail) [-Option.bind_some, -Aa, -Ab]
 exact hQ _ ⟨m, 1 + m2, a', c', p', evs', hm, by omega, rfl, h2.wide (fun b h _ => by omega), h3, h4, h5, N3.tr h6⟩
end Go.Proofs.YtjhhommnkaemlaaGreat.X
namespace Go.Proofs.YtjhhommnkaemlaaGreat.X
open Go Go.Ev Go.RowKit
attribute [local irreducible] World.alloc World.setRow Go.Ev.dw
theorem QQ {b6 b7 c n : Nat} {a : Option Addr} {Te : Nat → Prop} {evs : List EventD} {w0 : World} (hb6 : w0.heap.size ≤ b6) (hb67 : b6 < b7) (hD : D Li Te w0 [.slice a n c] evs) (hx : ∀ x ∈ evs, x.text.size ≤ 1000) :
  ∀ (d k : Nat) (e : Env) (W : World) (cs : List Value) (st : WorldD) (T : Nat → Prop), k + d = 60 → e 2 = .slice a n c → e 6 = pt b6 0 → e 7 = pt b7 0 → e 8 = i64 k → hp W b7 = some (.cells cs.toArray 77 (0, 0)) → hp W b6 = some (.cells #[.slice none 0 0, .slice none 0 0, .slice none 0 0, .slice none 0 0] 77 (0, 0)) →
   BG (16 * k) st → O tW T W cs st → (∀ b, T b → w0.heap.size ≤ b ∧ b < W.heap.size ∧ b ≠ b6 ∧ b ≠ b7) → Ext w0 W →
   Ag (Ds e W) fun r => ∃ (cs' : List Value) (st' : WorldD), r.1 = .agg cs'.toArray ∧ BG 1000 st' ∧ O tW (In w0.heap.size r.2.heap.size) r.2 cs' st' ∧ Ext w0 r.2 := by
 obtain ⟨rfl, hmx, _⟩ := hD.n
 intro d
 have out : ∀ (k : Nat) (W : World) (cs : List Value) (st : WorldD) (T : Nat → Prop) (Q : Value × World → Prop), k ≤ 60 → hp W b7 = some (.cells cs.toArray 77 (0, 0)) → BG (16 * k) st → O tW T W cs st → (∀ b, T b → w0.heap.size ≤ b ∧ b < W.heap.size ∧ b ≠ b6 ∧ b ≠ b7) → Ext w0 W →
   (∀ r, (∃ (cs' : List Value) (st' : WorldD), r.1 = .agg cs'.toArray ∧ BG 1000 st' ∧ O tW (In w0.heap.size r.2.heap.size) r.2 cs' st' ∧ Ext w0 r.2) → Q r) → Q (.agg cs.toArray, W.setRow b6 cs.toArray) := by
  intro k W cs st T Q hk X7 hf ho hT E0 hQ
  have zE0 := E0.size
  try simp only [qz] at zE0
  refine hQ _ ⟨_, _, rfl, hf.up (by omega), (ho.Ak fun b hb hbl => Ad (hT b hb).2.2.1).wide ?_, E0.set hb6 _⟩
  intro b hb hbl
  have := hT b hb
  simp only [In, size_setRow]
  omega
 induction d with
 | zero =>
  intro k e W cs st T hd e2 e6 e7 e8 X7 X6 hf ho hT E0
  have zE0 := E0.size
  try simp only [qz] at zE0
  rw [Fh]
  obtain rfl : k = 60 := by omega
  obtain ⟨u1, l1, d1, u2, l2, d2, u3, l3, d3, u4, l4, d4, rfl⟩ := ho.B6
  refine Ag.post fun Q hQ => ?_
  by_cases hl : 60 < evs.length
  ·simp (disch := first | exact xD | fail) [-Option.bind_some, -Aa, -Ab, qm, e2, e6, e7, e8, X6, X7, show (60 : Int) < evs.length by omega]
   exact out 60 W _ st T Q (by omega) X7 hf ho hT E0 hQ
  ·simp (disch := first | exact xD | fail) [-Option.bind_some, -Aa, -Ab, qm, e2, e6, e7, e8, X6, X7, show ¬ (60 : Int) < evs.length by omega]
   exact out 60 W _ st T Q (by omega) X7 hf ho hT E0 hQ
 | succ d ih =>
  intro k e W cs st T hd e2 e6 e7 e8 X7 X6 hf ho hT E0
  have zE0 := E0.size
  try simp only [qz] at zE0
  rw [Fh]
  have hk : k < 60 := by omega
  obtain ⟨u1, l1, d1, u2, l2, d2, u3, l3, d3, u4, l4, d4, rfl⟩ := ho.B6
  have zE0' := E0.size
  have y7 := Aq X7
  have y6 := Aq X6
  by_cases hl : k < evs.length
  ·obtain ⟨v, hv, _⟩ := Am hl
   have hvx := hx v (List.mem_of_getElem? hv)
   obtain ⟨b5, o5, cs5, rfl, A5, D5, _, _⟩ := hD.at (by decide) hv
   obtain ⟨rfl, _⟩ := D.event.1 D5
   have y5 := A5.lt
   have t0 := A5 0 _ rfl
   have t1 := A5 1 _ rfl
   have t2 := A5 2 _ rfl
   have t3 := A5 3 _ rfl
   have t4 := A5 4 _ rfl
   have t5 := A5 5 _ rfl
   simp only [Nat.add_zero] at t0 t1 t2 t3 t4 t5
   simp only [QL] at t0 t1 t2 t3 t4 t5
   have nT : ∀ b, b < w0.heap.size ∨ b = b6 ∨ b = b7 ∨ W.heap.size ≤ b → ¬ T b := fun b h h' => by have := hT b h'; omega
   refine Ag.post fun Q hQ => ?_
   have jn : ∀ (e' : Env) (W' : World) (xb : Nat) (u5 : Option Addr) (l5 d5 : Nat) (u6 : Option Addr) (l6 d6 : Nat) (u7 : Option Addr) (l7 d7 : Nat) (u8 : Option Addr) (l8 d8 : Nat) (st' : WorldD) (T' : Nat → Prop), e' 2 = .slice (some ⟨b5, o5, none⟩) evs.length c → e' 6 = pt b6 0 → e' 7 = pt b7 0 → e' 8 = i64 k → e' 9 = pt xb 0 →
     hp W' xb = some (.cells #[.slice u5 l5 d5, .slice u6 l6 d6, .slice u7 l7 d7, .slice u8 l8 d8] 77 (0, 0)) → hp W' b7 = some (.cells #[.slice u1 l1 d1, .slice u2 l2 d2, .slice u3 l3 d3, .slice u4 l4 d4] 77 (0, 0)) → hp W' b6 = some (.cells #[.slice none 0 0, .slice none 0 0, .slice none 0 0, .slice none 0 0] 77 (0, 0)) →
     BG (16 * k + 16) st' → O tW T' W' [.slice u5 l5 d5, .slice u6 l6 d6, .slice u7 l7 d7, .slice u8 l8 d8] st' → (∀ b, T' b → w0.heap.size ≤ b ∧ b < W'.heap.size ∧ b ≠ b6 ∧ b ≠ b7) → Ext w0 W' → Ag (Dt e' W') Q := by
    intro e' W' xb u5 l5 d5 u6 l6 d6 u7 l7 d7 u8 l8 d8 st' T' g2 g6 g7 g8 g9 Xx X7' X6' q2 q3 q4 q5
    rw [IV]
    simp (disch := first | exact xD | fail) [-Option.bind_some, qs, -Aa, -Ab, qm, g7, g8, g9, Xx, X7']
    exact Ag.mono (ih (k + 1) _ _ _ st' T' (by omega) xA xA xA xA (by first | assumption | rfl | (simp (disch := first | exact xD | fail) [-Option.bind_some, -Aa, -Ab, X7']; done)) ((Ad (by omega)).trans X6') (q2.up (by omega)) (q3.Ak fun b hb hbl => Ad (q4 b hb).2.2.2) (fun b hb => by have := q4 b hb; simp only [size_setRow]; exact this) (q5.set (by omega) _)) hQ
   simp (disch := first | exact xD | fail) [-Option.bind_some, -Aa, -Ab, e2, e8, show (k : Int) < 60 by omega, show (k : Int) < evs.length by omega]
   refine Ib _ _ ?_
   simp (disch := first | exact xD | fail) [-Option.bind_some, qs, -Aa, -Ab, e2, e7, e8, X7, S8, E0.Ah, t0, t1, t2, t3, t4, t5]
   constructor
   ·refine Ag.mono (O4 (S := T) hf (by omega) hvx (ho.ext xE)) ?_
    rintro ⟨v2, w2⟩ ⟨cs', st', q, hv2, hq, f2, o2, M2⟩
    have zM2 := M2.size
    try simp only [qz] at zM2
    try dsimp only at hv2 o2 M2
    subst hv2
    have zM2 := M2.size
    simp only [Ac] at zM2 o2
    obtain ⟨u5, l5, d5, u6, l6, d6, u7, l7, d7, u8, l8, d8, rfl⟩ := o2.B6
    have K2 : ∀ b, b < W.heap.size → ¬ T b → hp w2 b = hp W b := fun b hb h => (M2.Ah b xB h).trans (Bg _ _)
    have N7 := K2 b7 y7 (nT _ (by omega))
    have N6 := K2 b6 y6 (nT _ (by omega))
    have Nb := K2 b5 (by omega) (nT _ (.inl y5))
    have E2 : Ext w0 w2 := Mod.after (E0.tr (Cc W)) M2 (fun b h1 h2 => nT b (.inl h1) h2)
    have zE2 := E2.size
    try simp only [qz] at zE2
    simp (disch := first | exact xD | fail) [-Option.bind_some, qs, -Aa, -Ab, qm, N7, Nb, X7, E0.Ah, t0, t1, t2, t3, t4, t5]
    refine jn _ _ w2.heap.size _ _ _ _ _ _ _ _ _ _ _ _ st' (fun b => T b ∨ In W.heap.size w2.heap.size b) xA xA xA xA xA (by first | assumption | rfl | (simp (disch := first | exact xD | fail) [-Option.bind_some, qs, -Aa, -Ab]; done)) ?_ ?_ f2 (o2.Ak fun b hb hbl => (Ad (by omega)).trans (Ae hbl)) ?_ ((E2.al _).set (by omega) _)
    ·exact (Ad (by omega)).trans ((Ae (by omega)).trans (N7.trans X7))
    ·exact (Ad (by omega)).trans ((Ae (by omega)).trans (N6.trans X6))
    ·intro b hb
     simp only [World.size_alloc, size_setRow]
     rcases hb with h | h
     ·have := hT b h
      exact ⟨this.1, by omega, this.2.2⟩
     ·simp only [In] at h
      omega
   ·refine Ag.mono (O4 (S := T) hf (by omega) hvx (ho.ext xE)) ?_
    rintro ⟨v2, w2⟩ ⟨cs', st', q, hv2, hq, f2, o2, M2⟩
    have zM2 := M2.size
    try simp only [qz] at zM2
    try dsimp only at hv2 o2 M2
    subst hv2
    have zM2 := M2.size
    simp only [Ac, World.size_alloc] at zM2 o2
    obtain ⟨u5, l5, d5, u6, l6, d6, u7, l7, d7, u8, l8, d8, rfl⟩ := o2.B6
    have K2 : ∀ b, b < W.heap.size → ¬ T b → hp w2 b = hp W b := fun b hb h => (M2.Ah b xB h).trans ((Ae (by simp only [Ac]; omega)).trans (Bg _ _))
    have N7 := K2 b7 y7 (nT _ (by omega))
    have N6 := K2 b6 y6 (nT _ (by omega))
    have Nb := K2 b5 (by omega) (nT _ (.inl y5))
    have Nx : hp w2 W.heap.size = some (.cells #[.slice none 0 0, .slice none 0 0, .slice none 0 0, .slice none 0 0] 77 (0, 0)) := (M2.Ah _ xB (nT _ (by omega))).trans (by first | assumption | rfl | (simp (disch := first | exact xD | fail) [-Option.bind_some, qs, -Aa, -Ab]; done))
    have E2 : Ext w0 w2 := Mod.after ((E0.tr (Cc W)).al _) M2 (fun b h1 h2 => nT b (.inl h1) h2)
    have zE2 := E2.size
    try simp only [qz] at zE2
    simp (disch := first | exact xD | fail) [-Option.bind_some, qs, -Aa, -Ab, qm, Nx]
    refine jn _ _ W.heap.size _ _ _ _ _ _ _ _ _ _ _ _ st' (fun b => T b ∨ In (W.heap.size + 1) w2.heap.size b) xA xA xA xA xA (by first | assumption | rfl | (simp (disch := first | exact xD | fail) [-Option.bind_some, -Aa, -Ab, Nx]; done)) ?_ ?_ f2 (o2.Ak fun b hb hbl => Ad ?_) ?_ (E2.set (by omega) _)
    ·exact (Ad (by omega)).trans (N7.trans X7)
    ·exact (Ad (by omega)).trans (N6.trans X6)
    ·rcases hb with h | h
     ·have := hT b h; omega
     ·simp only [In] at h; omega
    ·intro b hb
     simp only [size_setRow]
     rcases hb with h | h
     ·have := hT b h
      exact ⟨this.1, by omega, this.2.2⟩
     ·simp only [In] at h
      omega
  ·refine Ag.post fun Q hQ => ?_
   simp (disch := first | exact xD | fail) [-Option.bind_some, -Aa, -Ab, qm, e2, e6, e7, e8, X6, X7, show ¬ (k : Int) < evs.length by omega]
   exact out k W _ st T Q (by omega) X7 hf ho hT E0 hQ
theorem QR {m sN n c : Nat} {a : Option Addr} {Te : Nat → Prop} {evs : List EventD} {w : World} (hm : m < 4) (hsN : sN ≤ 4) (hD : D Li Te w [.slice a n c] evs) (hx : ∀ x ∈ evs, x.text.size ≤ 1000) :
  Ag (EV P 76 #[i64 (1 + (m : Int)), i64 sN, .slice a n c] w) fun r => ∃ (cs' : List Value) (st' : WorldD), r.1 = .agg cs'.toArray ∧ BG 1000 st' ∧ O tW (In w.heap.size r.2.heap.size) r.2 cs' st' ∧ Ext w r.2 := by
 refine Ag.post fun Q hQ => ?_
 refine Ag.enter plain mixed (K6 _ _ _ _) (by kernel_rfl) (n := 3) (by kernel_rfl) rfl ?_
 simp (disch := first | exact xD | fail) [-Option.bind_some, qs, -Aa, -Ab]
 refine Ag.bind (PF hm hsN) ?_
 rintro ⟨_, w1⟩ ⟨cs, st, rfl, f1, o1, E1⟩
 try dsimp only at cs st f1 o1 E1
 have zE1 := E1.size
 try simp only [qz] at zE1
 obtain ⟨u5, l5, d5, u6, l6, d6, u7, l7, d7, u8, l8, d8, rfl⟩ := o1.B6
 simp only [World.size_alloc] at o1
 have N6 : hp w1 w.heap.size = some (.cells #[.slice none 0 0, .slice none 0 0, .slice none 0 0, .slice none 0 0] 77 (0, 0)) := (E1.Ah xB).trans (by first | assumption | rfl | (simp (disch := first | exact xD | fail) [-Option.bind_some, qs, -Aa, -Ab]; done))
 simp (disch := first | exact xD | fail) [-Option.bind_some, -Aa, -Ab, qm]
 refine Ag.mono (QQ (b6 := w.heap.size) (b7 := w1.heap.size) (w0 := w) (Nat.le_refl _) (by omega) hD hx 60 0 _ _ _ st (In (w.heap.size + 1) w1.heap.size) (by omega) rfl rfl rfl xA (by first | assumption | rfl | (simp (disch := first | exact xD | fail) [-Option.bind_some, qs, -Aa, -Ab]; done)) ((Ad (by omega)).trans ((Ae (by omega)).trans N6)) f1 (o1.Ak fun b hb hbl => (Ad (by omega)).trans (Ae hbl)) (fun b h => by simp only [In] at h; simp only [World.size_alloc, size_setRow]; omega) xE) hQ
end Go.Proofs.YtjhhommnkaemlaaGreat.X
namespace Go.Proofs.YtjhhommnkaemlaaGreat.X
open Go Go.Ev Go.RowKit
theorem QS {a : Option Addr} {c : Nat} {S : Nat → Prop} {xs : List Ver} {w0 : World} (hD : D AB S w0 [.slice a xs.length c] xs) :
  ∀ (d k : Nat) (e : Env) (W : World) (a' : Option Addr) (c' : Nat), k + d = xs.length → e 0 = .slice a xs.length c → e 3 = .slice a' k c' → e 4 = i64 k → O AB (In w0.heap.size W.heap.size) W [.slice a' k c'] (xs.take k) → Ext w0 W →
   Ag (DC e W) fun r => ∃ (a2 : Option Addr) (c2 : Nat), r.1 = .slice a2 xs.length c2 ∧ O AB (In w0.heap.size r.2.heap.size) r.2 [.slice a2 xs.length c2] xs ∧ Ext w0 r.2 := by
 have hmx := hD.n.2.1
 intro d
 induction d with
 | zero =>
  intro k e W a' c' hd e0 e3 e4 oo E0
  have zE0 := E0.size
  try simp only [qz] at zE0
  rw [Fp]
  obtain rfl : k = xs.length := by omega
  rw [List.take_length] at oo
  refine Ag.post fun Q hQ => ?_
  simp (disch := first | exact xD | fail) [-Option.bind_some, qs, -Aa, -Ab, qm, e0, e3, e4, E0.Ah]
  exact hQ _ ⟨_, _, rfl, oo, E0⟩
 | succ d ih =>
  intro k e W a' c' hd e0 e3 e4 oo E0
  have zE0 := E0.size
  try simp only [qz] at zE0
  rw [Fp]
  have hlt : k < xs.length := by omega
  obtain ⟨v, hv, _⟩ := Am hlt
  obtain ⟨b5, o5, cs5, rfl, A5, D5, _, _⟩ := hD.at (by decide) hv
  have D5' := D5
  obtain ⟨av, cv, rfl, _, _⟩ := D.Bv.1 D5'
  have t0 := A5 0 _ rfl
  have t1 := A5 1 _ rfl
  have t2 := A5 2 _ rfl
  have t3 := A5 3 _ rfl
  have t4 := A5 4 _ rfl
  have t5 := A5 5 _ rfl
  simp only [AX, Cs, AO, Nat.add_zero] at t0 t1 t2 t3 t4 t5
  have htk : (xs.take k).length = k := by rw [List.length_take]; omega
  refine Ag.post fun Q hQ => ?_
  simp (disch := first | exact xD | fail) [-Option.bind_some, qs, -Aa, -Ab, qm, e0, e3, e4, hlt, AW, E0.Ah, t0, t1, t2, t3, t4, t5]
  refine Ag.bind (AZ (D5.ext xE)) ?_
  rintro ⟨_, w1⟩ ⟨ds, rfl, o2, E1⟩
  try dsimp only at ds o2 E1
  have zE1 := E1.size
  try simp only [qz] at zE1
  have zo2 := O.Bv.1 o2
  obtain ⟨a5, c5, rfl, _, _⟩ := zo2
  have zE0' := E0.size
  simp (disch := first | exact xD | fail) [-Option.bind_some, qs, -Aa, -Ab, qm, e0, e3, e4, E0.Ah, hlt, t0, t1, t2, t3, t4, t5, E1.Ah]
  refine Ag.bind (O.app (L := Bz) (mx := 1954687338211) (xs := xs.take k) (x := v) (cs := [i64 v.key, i64 v.tag.t, i64 v.tag.p, .slice a5 v.past.length c5, .string v.text, .bool v.gone]) Cj Ed rfl (by decide) (oo.ext (E1.al _)) (o2.Ak fun b hb hbl => Ae hbl) (fun b hb h1 h2 => by simp only [In] at h1 h2; omega) (At.nw rfl) (by omega) (by decide) (by decide)) ?_
  rintro ⟨_, w3⟩ ⟨a8, c8, rfl, o8, M8⟩
  have zM8 := M8.size
  try simp only [qz] at zM8
  try dsimp only at o8 M8
  have zM8 := M8.size
  simp only [World.size_alloc] at zM8 o8
  have F3 : Ext w0 w3 := Mod.after ((E0.tr E1).al _) M8 (fun b h1 h2 => by simp only [In] at h2; omega)
  have hts : xs.take k ++ [v] = xs.take (k + 1) := by rw [List.take_add_one, hv]; rfl
  rw [htk, hts] at o8
  rw [htk]
  simp (disch := first | exact xD | fail) [-Option.bind_some, qs, -Aa, -Ab, qm, e4, e0, e3, E0.Ah, hlt, t0, t1, t2, t3, t4, t5, E1.Ah, M8.Ah]
  exact Ag.mono (ih (k + 1) _ w3 a8 c8 (by omega) xA xA xA (o8.wide fun b hb hbl => by simp only [In] at hb ⊢; omega) F3) hQ
theorem I6 {a : Option Addr} {n c : Nat} {S : Nat → Prop} {xs : List Ver} {w : World} (hD : D AB S w [.slice a n c] xs) :
  Ag (EV P 112 #[.slice a n c] w) fun r => ∃ (a2 : Option Addr) (c2 : Nat), r.1 = .slice a2 xs.length c2 ∧ O AB (In w.heap.size r.2.heap.size) r.2 [.slice a2 xs.length c2] xs ∧ Ext w r.2 := by
 obtain ⟨rfl, _⟩ := hD.n
 refine Ag.post fun Q hQ => ?_
 refine Ag.enter plain mixed (Ld _ _) (by kernel_rfl) (n := 1) (by kernel_rfl) rfl ?_
 simp (disch := first | exact xD | fail) [-Option.bind_some, -Aa, -Ab]
 exact Ag.mono (QS hD xs.length 0 _ _ _ _ (by omega) rfl rfl rfl ((O.empty (L := Bz) (mx := 1954687338211) (g := w.heap.size) (by first | assumption | rfl | (simp (disch := first | exact xD | fail) [-Option.bind_some, qs, -Aa, -Ab]; done))).wide fun b hb hbl => by subst hb; simp only [In, World.size_alloc]; omega) xE) hQ
theorem QT {a2 : Option Addr} {c2 g1 g2 g3 : Nat} {S : Nat → Prop} {p : PlaceD} {acl al0 : Value} {a0 al1 : Option Addr} {c0 cl1 : Nat} {v0 v1 v2 v3 v5 : Value} {w0 w1 : World} {T : Nat → Prop} (hD : D O9 S w0 [.slice a2 p.Bs.length c2] p.Bs) (hg : w0.heap.size ≤ g1 ∧ w0.heap.size ≤ g2 ∧ w0.heap.size ≤ g3) (hne : g1 ≠ g2 ∧ g1 ≠ g3 ∧ g2 ≠ g3) (hz : g1 < w1.heap.size ∧ g2 < w1.heap.size ∧ g3 < w1.heap.size) (E01 : Ext w0 w1) (hc4 : p.chain.length ≤ 1000) :
  ∀ (d k : Nat) (e : Env) (W : World) (a' : Option Addr) (c' : Nat), k + d = p.Bs.length → e 1 = pt g1 0 → e 2 = pt g2 0 → e 3 = pt g3 0 → e 4 = i64 k →
   hp W g1 = some (.cells #[i64 p.me, i64 p.clock, .slice a0 p.chain.length c0, .slice al1 p.log.length cl1, .slice a2 p.Bs.length c2, .bool p.fell] 84 (0, 0)) → hp W g2 = some (.cells #[i64 0, i64 0, .slice none 0 0, .slice none 0 0, .slice none 0 0, .bool false] 84 (0, 0)) →
   (∃ (a5 : Option Addr) (c5 : Nat) (a6 : Option Addr) (c6 : Nat) (S1 S2 : Nat → Prop), hp W g3 = some (.cells #[i64 p.me, i64 p.clock, .slice a5 p.chain.length c5, .slice a6 p.log.length c6, .slice a' k c', .bool p.fell] 84 (0, 0)) ∧ O AU S1 W [.slice a5 p.chain.length c5] p.chain ∧ O AB S2 W [.slice a6 p.log.length c6] p.log ∧
    (∀ b, S1 b → w0.heap.size ≤ b ∧ b < w1.heap.size ∧ b ≠ g1 ∧ b ≠ g2 ∧ b ≠ g3) ∧ (∀ b, S2 b → w0.heap.size ≤ b ∧ b < w1.heap.size ∧ b ≠ g1 ∧ b ≠ g2 ∧ b ≠ g3) ∧ (∀ b, S1 b → ¬ S2 b)) →
   O O9 (In w1.heap.size W.heap.size) W [.slice a' k c'] (p.Bs.take k) → Ext w0 W → w1.heap.size ≤ W.heap.size →
   Ag (Dy e W) fun r => ∃ cs', r.1 = .agg cs'.toArray ∧ O Il (In w0.heap.size r.2.heap.size) r.2 cs' p ∧ Ext w0 r.2 := by
 have hmx := hD.n.2.1
 intro d
 induction d with
 | zero =>
  intro k e W a' c' hd e1 e2 e3 e4 X1 X2 hx oo E0 hzW
  have zE0 := E0.size
  try simp only [qz] at zE0
  obtain ⟨a5, c5, a6, c6, S1, S2, X3, o1, o2, k1, k2, k12⟩ := hx
  rw [Fj]
  obtain rfl : k = p.Bs.length := by omega
  rw [List.take_length] at oo
  refine Ag.post fun Q hQ => ?_
  simp (disch := first | exact xD | fail) [-Option.bind_some, qs, -Aa, -Ab, qm, e1, e2, e3, e4, X1, X2, X3, E0.Ah]
  refine hQ _ ⟨_, rfl, (O.Eg (p := p) (S1 := S1) (S2 := S2) (S3 := In w1.heap.size W.heap.size) (o1.Ak fun b hb hbl => Ad (k1 b hb).2.2.2.1) (o2.Ak fun b hb hbl => Ad (k2 b hb).2.2.2.1) (oo.Ak fun b hb hbl => Ad (by simp only [In] at hb; omega)) (fun b _ h => k12 b h) (fun b _ h h' => by have := k1 b h; simp only [In] at h'; omega) (fun b _ h h' => by have := k2 b h; simp only [In] at h'; omega)).wide ?_, E0.set hg.2.1 _⟩
  intro b hb hbl
  simp only [In, size_setRow] at hbl ⊢
  rcases hb with h | h | h
  ·have := k1 b h; omega
  ·have := k2 b h; omega
  ·simp only [In] at h; have := E01.size; omega
 | succ d ih =>
  intro k e W a' c' hd e1 e2 e3 e4 X1 X2 hx oo E0 hzW
  have zE0 := E0.size
  try simp only [qz] at zE0
  obtain ⟨a5, c5, a6, c6, S1, S2, X3, o1, o2, k1, k2, k12⟩ := hx
  rw [Fj]
  have hlt : k < p.Bs.length := by omega
  obtain ⟨l, hl, _⟩ := Am hlt
  obtain ⟨b5, o5, cs5, rfl, A5, D5, _, _⟩ := hD.at (by decide) hl
  obtain ⟨av, cv, rfl, D6⟩ := D5.GD
  have t0 := A5 0 _ rfl
  simp only [AX, Cs, AO, Nat.add_zero] at t0
  simp only [Gq, Nat.mul_one] at t0
  have htk : (p.Bs.take k).length = k := by rw [List.length_take]; omega
  have y1 := Aq X1
  have y2 := Aq X2
  have y3 := Aq X3
  refine Ag.post fun Q hQ => ?_
  simp (disch := first | exact xD | fail) [-Option.bind_some, qs, -Aa, -Ab, qm, e1, e2, e3, e4, X1, X2, X3, hlt, HU, E0.Ah, t0]
  refine Ag.bind (I6 (D6.ext xE)) ?_
  rintro ⟨_, w2⟩ ⟨a9, c9, rfl, o9, E1⟩
  try dsimp only at a9 c9 o9 E1
  have zE1 := E1.size
  try simp only [qz] at zE1
  simp only [Ac] at zE1 o9
  have F1 : Ext W w2 := xE
  have N1 := (F1.Ah y1).trans X1
  have N2 := (F1.Ah y2).trans X2
  have N3 := (F1.Ah y3).trans X3
  simp (disch := first | exact xD | fail) [-Option.bind_some, qs, -Aa, -Ab, qm, N1, N2, N3, e1, e2, e3, e4, X1, X2, E0.Ah, X3, hlt, t0, E1.Ah]
  refine Ag.bind (O.app (L := AB) (mx := 5864062014805) (xs := p.Bs.take k) (x := l) (cs := [.slice a9 l.length c9]) PM Rf rfl (by decide) (oo.ext (F1.al _)) (o9.Ak fun b hb hbl => Ae hbl) (fun b hb h1 h2 => by simp only [In] at h1 h2; omega) (At.nw rfl) (by omega) (by decide) (by decide)) ?_
  rintro ⟨_, w3⟩ ⟨a8, c8, rfl, o8, M8⟩
  have zM8 := M8.size
  try simp only [qz] at zM8
  try dsimp only at o8 M8
  have zM8 := M8.size
  simp only [World.size_alloc] at zM8 o8
  have k8 : ∀ b, b < w1.heap.size → hp w3 b = hp W b := fun b hb => (M8.Ah b xB (fun h => by simp only [In] at h; omega)).trans ((Ae (by omega)).trans (F1.Ah (by omega)))
  have hz01 := E01.size
  have F3 : Ext w0 w3 := Mod.after ((E0.tr F1).al _) M8 (fun b h1 h2 => by simp only [In] at h2; omega)
  have hts : p.Bs.take k ++ [l] = p.Bs.take (k + 1) := by rw [List.take_add_one, hl]; rfl
  rw [htk, hts] at o8
  rw [htk]
  have L1 := (k8 g1 hz.1).trans X1
  have L2 := (k8 g2 hz.2.1).trans X2
  have L3 := (k8 g3 hz.2.2).trans X3
  simp (disch := first | exact xD | fail) [-Option.bind_some, qs, -Aa, -Ab, qm, L3, e4, e1, e2, e3, X1, X2, E0.Ah, X3, hlt, t0, E1.Ah, M8.Ah]
  refine Ag.mono (ih (k + 1) _ _ a8 c8 (by omega) xA xA xA xA ((Ad hne.2.1).trans L1) ((Ad hne.2.2).trans L2) ⟨a5, c5, a6, c6, S1, S2, (by first | assumption | rfl | (simp (disch := first | exact xD | fail) [-Option.bind_some, qs, -Aa, -Ab, qm, L3, e1, e2, e3, e4, X1, X2, E0.Ah, X3, hlt, t0, E1.Ah, M8.Ah]; done)), o1.Ak fun b hb _ => (Ad (k1 b hb).2.2.2.2).trans (k8 b (k1 b hb).2.1), o2.Ak fun b hb _ => (Ad (k2 b hb).2.2.2.2).trans (k8 b (k2 b hb).2.1), k1, k2, k12⟩ ((o8.Ak fun b hb hbl => Ad ?_).wide ?_) (F3.set hg.2.2 _) (by simp only [size_setRow]; omega)) hQ
  ·rcases hb with h | h | h
   ·simp only [In] at h; omega
   ·simp only [In] at h; omega
   ·omega
  ·intro b hb hbl
   simp only [In, size_setRow] at hb hbl ⊢
   omega
theorem QU {M : Nat} {S : Nat → Prop} {cs : List Value} {p : PlaceD} {w : World} (hD : D Il S w cs p) (hc4 : p.chain.length ≤ 1000) :
  Ag (EV P 97 #[.agg cs.toArray] w) fun r => ∃ cs', r.1 = .agg cs'.toArray ∧ O Il (In w.heap.size r.2.heap.size) r.2 cs' p ∧ Ext w r.2 := by
 obtain ⟨a0, c0, al1, cl1, a2, c2, rfl, q1, q2, q3⟩ := D.place.1 hD
 have hgn := q3.n
 refine Ag.post fun Q hQ => ?_
 refine Ag.enter plain mixed (K9 _ _) (by kernel_rfl) (n := 1) (by kernel_rfl) rfl ?_
 simp (disch := first | exact xD | fail) [-Option.bind_some, -Aa, -Ab]
 refine Ie _ _ ?_
 simp (disch := first | exact xD | fail) [-Option.bind_some, qs, -Aa, -Ab]
 have J : ∀ (e' : Env) (W : World) (a5 : Option Addr) (c5 : Nat) (a6 : Option Addr) (c6 g3 : Nat) (S1 S2 : Nat → Prop), e' 1 = pt w.heap.size 0 → e' 2 = pt (w.heap.size + 1) 0 → e' 3 = pt g3 0 → w.heap.size + 2 ≤ g3 → hp W w.heap.size = some (.cells #[i64 p.me, i64 p.clock, .slice a0 p.chain.length c0, .slice al1 p.log.length cl1, .slice a2 p.Bs.length c2, .bool p.fell] 84 (0, 0)) → hp W (w.heap.size + 1) = some (.cells #[i64 0, i64 0, .slice none 0 0, .slice none 0 0, .slice none 0 0, .bool false] 84 (0, 0)) →
   hp W g3 = some (.cells #[i64 p.me, i64 p.clock, .slice a5 p.chain.length c5, .slice a6 p.log.length c6, .slice none 0 0, .bool p.fell] 84 (0, 0)) → O AU S1 W [.slice a5 p.chain.length c5] p.chain → O AB S2 W [.slice a6 p.log.length c6] p.log → (∀ b, S1 b → w.heap.size + 2 ≤ b ∧ b < W.heap.size ∧ b ≠ g3) → (∀ b, S2 b → w.heap.size + 2 ≤ b ∧ b < W.heap.size ∧ b ≠ g3) → (∀ b, S1 b → ¬ S2 b) → Ext w W → Ag (Cp e' W) Q := by
  intro e' W a5 c5 a6 c6 g3 S1 S2 e1 e2 e3 hg3 X1 X2 X3 o1 o2 k1 k2 k12 E0
  have zE0 := E0.size
  try simp only [qz] at zE0
  have y1 := Aq X1
  have y2 := Aq X2
  have y3 := Aq X3
  rw [IY]
  simp (disch := first | exact xD | fail) [-Option.bind_some, -Aa, -Ab]
  exact Ag.mono (QT (w0 := w) (w1 := W) (g1 := w.heap.size) (g2 := w.heap.size + 1) (g3 := g3) (T := S1) (acl := i64 0) (al0 := i64 0) (v0 := i64 0) (v1 := i64 0) (v2 := i64 0) (v3 := i64 0) (v5 := i64 0) (a0 := a0) (c0 := c0) (al1 := al1) (cl1 := cl1) q3 (by omega) (by omega) ⟨y1, y2, y3⟩ E0 hc4 p.Bs.length 0 _ W none 0 (by omega) xA xA xA rfl X1 X2 ⟨a5, c5, a6, c6, S1, S2, X3, o1, o2, fun b h => by have := k1 b h; omega, fun b h => by have := k2 b h; omega, k12⟩ O.nil E0 (Nat.le_refl _)) hQ
 refine ⟨?_, ?_⟩
 ·skip
  refine Ag.mono (HX (q1.ext xE)) ?_
  rintro ⟨_, w1⟩ ⟨a5, c5, rfl, o1, E1⟩
  try dsimp only at a5 c5 o1 E1
  have zE1 := E1.size
  try simp only [qz] at zE1
  try simp only [Ac, World.size_alloc] at zE1 o1
  simp (disch := first | exact xD | fail) [-Option.bind_some, qs, -Aa, -Ab, E1.Ah]
  refine ⟨?_, ?_⟩
  ·skip
   refine Ag.mono (I6 (q2.ext xE)) ?_
   rintro ⟨_, w2⟩ ⟨a6, c6, rfl, o2, E2⟩
   try dsimp only at a6 c6 o2 E2
   have zE2 := E2.size
   try simp only [qz] at zE2
   try simp only [Ac, World.size_alloc] at zE2 o2
   have F2 : Ext w w2 := xE
   simp (disch := first | exact xD | fail) [-Option.bind_some, qs, -Aa, -Ab, qm, E1.Ah, E2.Ah]
   refine J _ _ a5 c5 a6 c6 (w2.heap.size) (In (w.heap.size + 1 + 1) w1.heap.size) (In (w1.heap.size) w2.heap.size) xA xA xA (by omega) (by first | assumption | rfl | (simp (disch := first | exact xD | fail) [-Option.bind_some, qs, -Aa, -Ab, E1.Ah, E2.Ah]; done)) (by first | assumption | rfl | (simp (disch := first | exact xD | fail) [-Option.bind_some, qs, -Aa, -Ab, E1.Ah, E2.Ah]; done)) (by first | assumption | rfl | (simp (disch := first | exact xD | fail) [-Option.bind_some, qs, -Aa, -Ab]; done)) ?_ ?_ ?_ ?_ (fun b h h' => by simp only [In] at h h'; omega) xE
   ·exact (o1.Ak fun b hb hbl => by simp only [In] at hb; exact ((Ad (by omega)).trans (Ae (by omega))).trans (E2.Ah (by omega))).wide fun b h _ => h
   ·exact (o2.Ak fun b hb hbl => by simp only [In] at hb; exact (Ad (by omega)).trans (Ae (by omega))).wide fun b h _ => h
   ·intro b h
    simp only [In] at h
    (try simp only [World.size_alloc, size_setRow]); omega
   ·intro b h
    simp only [In] at h
    (try simp only [World.size_alloc, size_setRow]); omega
  ·skip
   refine Ag.mono (I6 (q2.ext xE)) ?_
   rintro ⟨_, w2⟩ ⟨a6, c6, rfl, o2, E2⟩
   try dsimp only at a6 c6 o2 E2
   have zE2 := E2.size
   try simp only [qz] at zE2
   try simp only [World.size_alloc] at zE2 o2
   have F2 : Ext w w2 := xE
   have N3 : hp w2 (w1.heap.size) = some (.cells #[i64 0, i64 0, .slice none 0 0, .slice none 0 0, .slice none 0 0, .bool false] 84 (0, 0)) := (by first | assumption | rfl | (simp (disch := first | exact xD | fail) [-Option.bind_some, qs, -Aa, -Ab, E2.Ah]; done))
   simp (disch := first | exact xD | fail) [-Option.bind_some, qs, -Aa, -Ab, qm, N3, E1.Ah, E2.Ah]
   refine J _ _ a5 c5 a6 c6 (w1.heap.size) (In (w.heap.size + 1 + 1) w1.heap.size) (In (w1.heap.size + 1) w2.heap.size) xA xA xA (by omega) (by first | assumption | rfl | (simp (disch := first | exact xD | fail) [-Option.bind_some, qs, -Aa, -Ab, E1.Ah, E2.Ah]; done)) (by first | assumption | rfl | (simp (disch := first | exact xD | fail) [-Option.bind_some, qs, -Aa, -Ab, E1.Ah, E2.Ah]; done)) (by first | assumption | rfl | (simp (disch := first | exact xD | fail) [-Option.bind_some, -Aa, -Ab, N3]; done)) ?_ ?_ ?_ ?_ (fun b h h' => by simp only [In] at h h'; omega) xE
   ·exact (o1.Ak fun b hb hbl => by simp only [In] at hb; exact (Ad (by omega)).trans ((E2.Ah (by simp only [World.size_alloc]; omega)).trans (Ae (by omega)))).wide fun b h _ => h
   ·exact (o2.Ak fun b hb hbl => by simp only [In] at hb; exact Ad (by omega)).wide fun b h _ => h
   ·intro b h
    simp only [In] at h
    (try simp only [size_setRow]); omega
   ·intro b h
    simp only [In] at h
    (try simp only [size_setRow]); omega
 ·skip
  refine Ag.mono (HX (q1.ext xE)) ?_
  rintro ⟨_, w1⟩ ⟨a5, c5, rfl, o1, E1⟩
  try dsimp only at a5 c5 o1 E1
  have zE1 := E1.size
  try simp only [qz] at zE1
  try simp only [Ac, World.size_alloc] at zE1 o1
  simp (disch := first | exact xD | fail) [-Option.bind_some, qs, -Aa, -Ab, E1.Ah]
  refine Ag.mono (I6 (q2.ext xE)) ?_
  rintro ⟨_, w2⟩ ⟨a6, c6, rfl, o2, E2⟩
  try dsimp only at a6 c6 o2 E2
  have zE2 := E2.size
  try simp only [qz] at zE2
  try simp only [Ac, World.size_alloc] at zE2 o2
  have F2 : Ext w w2 := xE
  have N3 : hp w2 (w.heap.size + 1 + 1) = some (.cells #[i64 0, i64 0, .slice none 0 0, .slice none 0 0, .slice none 0 0, .bool false] 84 (0, 0)) := (by first | assumption | rfl | (simp (disch := first | exact xD | fail) [-Option.bind_some, qs, -Aa, -Ab, E1.Ah, E2.Ah]; done))
  simp (disch := first | exact xD | fail) [-Option.bind_some, qs, -Aa, -Ab, qm, N3, E1.Ah, E2.Ah]
  refine J _ _ a5 c5 a6 c6 (w.heap.size + 1 + 1) (In (w.heap.size + 1 + 1 + 1) w1.heap.size) (In (w1.heap.size) w2.heap.size) xA xA xA (by omega) (by first | assumption | rfl | (simp (disch := first | exact xD | fail) [-Option.bind_some, qs, -Aa, -Ab, E1.Ah, E2.Ah]; done)) (by first | assumption | rfl | (simp (disch := first | exact xD | fail) [-Option.bind_some, qs, -Aa, -Ab, E1.Ah, E2.Ah]; done)) (by first | assumption | rfl | (simp (disch := first | exact xD | fail) [-Option.bind_some, -Aa, -Ab, N3]; done)) ?_ ?_ ?_ ?_ (fun b h h' => by simp only [In] at h h'; omega) xE
  ·exact (o1.Ak fun b hb hbl => by simp only [In] at hb; exact (Ad (by omega)).trans (E2.Ah (by omega))).wide fun b h _ => h
  ·exact (o2.Ak fun b hb hbl => by simp only [In] at hb; exact Ad (by omega)).wide fun b h _ => h
  ·intro b h
   simp only [In] at h
   (try simp only [size_setRow]); omega
  ·intro b h
   simp only [In] at h
   (try simp only [size_setRow]); omega
theorem QV {g1 g2 g3 : Nat} {a1 a2 a3 a4 b1 b2 b4 : Option Addr} {c1 c2 c3 c4 n1 n2 n4 d1 d2 d4 m1 m2 m4 : Nat} {S T1 T2 T4 : Nat → Prop} {st : WorldD} {w0 W3 : World} (hD : D (Ez 36 131) S w0 [.slice a3 st.net.length c3] st.net) (hg : w0.heap.size ≤ g1 ∧ w0.heap.size ≤ g2 ∧ w0.heap.size ≤ g3) (hne : g1 ≠ g2 ∧ g1 ≠ g3 ∧ g2 ≠ g3) (hz : g1 < W3.heap.size ∧ g2 < W3.heap.size ∧ g3 < W3.heap.size) (E03 : Ext w0 W3)
  (Pt : RO W3 ⟨st.places, st.Az, [], st.AF⟩ (.slice b1 m1 d1) (.slice b2 m2 d2) (.slice none 0 0) (.slice b4 m4 d4) T1 T2 (fun _ => False) T4) (hT : ∀ b, T1 b ∨ T2 b ∨ T4 b → w0.heap.size ≤ b ∧ b < W3.heap.size ∧ b ≠ g2 ∧ b ≠ g3) :
  ∀ (d k : Nat) (e : Env) (W : World) (a' : Option Addr) (c' : Nat), k + d = st.net.length → e 1 = pt g1 0 → e 2 = pt g2 0 → e 3 = pt g3 0 → e 7 = i64 k →
   hp W g1 = some (.cells #[.slice a1 n1 c1, .slice a2 n2 c2, .slice a3 st.net.length c3, .slice a4 n4 c4] 77 (0, 0)) → hp W g2 = some (.cells #[.slice none 0 0, .slice none 0 0, .slice none 0 0, .slice none 0 0] 77 (0, 0)) → hp W g3 = some (.cells #[.slice b1 m1 d1, .slice b2 m2 d2, .slice a' k c', .slice b4 m4 d4] 77 (0, 0)) →
   (∀ b, b < W3.heap.size → b ≠ g3 → hp W b = hp W3 b) → O (Ez 36 131) (In W3.heap.size W.heap.size) W [.slice a' k c'] (st.net.take k) → Ext w0 W → W3.heap.size ≤ W.heap.size →
   Ag (Dr e W) fun r => ∃ cs', r.1 = .agg cs'.toArray ∧ O tW (In w0.heap.size r.2.heap.size) r.2 cs' st ∧ Ext w0 r.2 := by
 have hmx := hD.n.2.1
 intro d
 induction d with
 | zero =>
  intro k e W a' c' hd e1 e2 e3 e7 X1 X2 X3 hk oo E0 hzW
  have zE0 := E0.size
  try simp only [qz] at zE0
  rw [Fg]
  obtain rfl : k = st.net.length := by omega
  rw [List.take_length] at oo
  refine Ag.post fun Q hQ => ?_
  simp (disch := first | exact xD | fail) [-Option.bind_some, qs, -Aa, -Ab, qm, e1, e2, e3, e7, X1, X2, X3, E0.Ah]
  have P2 : RO W st (.slice b1 m1 d1) (.slice b2 m2 d2) (.slice a' st.net.length c') (.slice b4 m4 d4) T1 T2 (In W3.heap.size W.heap.size) T4 :=
   ⟨Pt.o1.Ak fun b hb _ => hk b (hT b (.inl hb)).2.1 (hT b (.inl hb)).2.2.2, Pt.o2.Ak fun b hb _ => hk b (hT b (.inr (.inl hb))).2.1 (hT b (.inr (.inl hb))).2.2.2, oo, Pt.o4.Ak fun b hb _ => hk b (hT b (.inr (.inr hb))).2.1 (hT b (.inr (.inr hb))).2.2.2,
    fun b _ q q' => Pt.d12 b (hT b (.inl q)).2.1 q q', fun b _ q q' => by have := hT b (.inl q); simp only [In] at q'; omega, fun b _ q q' => Pt.d14 b (hT b (.inl q)).2.1 q q',
    fun b _ q q' => by have := hT b (.inr (.inl q)); simp only [In] at q'; omega, fun b _ q q' => Pt.d24 b (hT b (.inr (.inl q))).2.1 q q', fun b _ q q' => by have := hT b (.inr (.inr q')); simp only [In] at q; omega⟩
  refine hQ _ ⟨_, rfl, (P2.mk'.Ak fun b hb hbl => Ad ?_).wide ?_, E0.set hg.2.1 _⟩
  ·rcases hb with h | h | h | h
   ·exact (hT b (.inl h)).2.2.1
   ·exact (hT b (.inr (.inl h))).2.2.1
   ·simp only [In] at h; omega
   ·exact (hT b (.inr (.inr h))).2.2.1
  ·intro b hb hbl
   have := E03.size
   simp only [In, size_setRow] at hbl ⊢
   rcases hb with h | h | h | h
   ·have := hT b (.inl h); omega
   ·have := hT b (.inr (.inl h)); omega
   ·simp only [In] at h; omega
   ·have := hT b (.inr (.inr h)); omega
 | succ d ih =>
  intro k e W a' c' hd e1 e2 e3 e7 X1 X2 X3 hk oo E0 hzW
  have zE0 := E0.size
  try simp only [qz] at zE0
  rw [Fg]
  have hlt : k < st.net.length := by omega
  obtain ⟨f, hf, _⟩ := Am hlt
  obtain ⟨b5, o5, cs5, rfl, A5, D5, _, _⟩ := hD.at (by decide) hf
  obtain ⟨ds, rfl, D6⟩ := D.frame.1 D5
  have D6' := D6
  obtain ⟨av, cv, rfl, _, _⟩ := D.Bv.1 D6'
  have t0 := A5 0 _ rfl
  have t1 := A5 1 _ rfl
  have t2 := A5 2 _ rfl
  have t3 := A5 3 _ rfl
  have t4 := A5 4 _ rfl
  have t5 := A5 5 _ rfl
  have t6 := A5 6 _ rfl
  have t7 := A5 7 _ rfl
  have t8 := A5 8 _ rfl
  simp only [AX, Cs, AO, Nat.add_zero] at t0 t1 t2 t3 t4 t5 t6 t7 t8
  simp only [Ob] at t0 t1 t2 t3 t4 t5 t6 t7 t8
  have htk : (st.net.take k).length = k := by rw [List.length_take]; omega
  have y1 := Aq X1
  have y2 := Aq X2
  have y3 := Aq X3
  refine Ag.post fun Q hQ => ?_
  simp (disch := first | exact xD | fail) [-Option.bind_some, qs, -Aa, -Ab, qm, e1, e2, e3, e7, X1, X2, X3, hlt, Rb, E0.Ah, t0, t1, t2, t3, t4, t5, t6, t7, t8]
  refine Ag.bind (AZ (D6.ext xE)) ?_
  rintro ⟨_, w2⟩ ⟨ds, rfl, o9, E1⟩
  try dsimp only at ds o9 E1
  have zE1 := E1.size
  try simp only [qz] at zE1
  have zo9 := O.Bv.1 o9
  obtain ⟨a9, c9, rfl, _, _⟩ := zo9
  simp only [World.size_alloc, size_setRow] at o9
  have F1 : Ext W w2 := xE
  have N1 := (F1.Ah y1).trans X1
  have N2 := (F1.Ah y2).trans X2
  have N3 := (F1.Ah y3).trans X3
  have NB : hp w2 W.heap.size = some (.cells #[i64 f.src, i64 f.dst, i64 f.idx, i64 f.Bv.key, i64 f.Bv.tag.t, i64 f.Bv.tag.p, .slice av f.Bv.past.length cv, .string f.Bv.text, .bool f.Bv.gone] 131 (0, 0)) := (E1.Ah xB).trans (by first | assumption | rfl | (simp (disch := first | exact xD | fail) [-Option.bind_some, qs, -Aa, -Ab, qm, e1, e2, e3, e7, X1, X2, X3, E0.Ah, hlt, t0, t1, t2, t3, t4, t5, t6, t7, t8, E1.Ah]; done))
  simp (disch := first | exact xD | fail) [-Option.bind_some, qs, -Aa, -Ab, qm, N1, N2, N3, NB, e1, e2, e3, e7, X1, X2, X3, E0.Ah, hlt, t0, t1, t2, t3, t4, t5, t6, t7, t8, E1.Ah]
  generalize hWa : World.setRow _ W.heap.size _ = Wa
  have sWa : Wa.heap.size = w2.heap.size := by rw [← hWa]; simp
  have kWa : ∀ b, b ≠ W.heap.size → hp Wa b = hp w2 b := fun b h => by rw [← hWa]; exact Ad h
  have FWa : Ext W Wa := by rw [← hWa]; exact F1.set (Nat.le_refl _) _
  refine Ag.bind (O.app (L := GM 36) (mx := 1466015503701) (xs := st.net.take k) (S1 := In (W.heap.size + 1) w2.heap.size) (x := f) (cs := [i64 f.src, i64 f.dst, i64 f.idx, i64 f.Bv.key, i64 f.Bv.tag.t, i64 f.Bv.tag.p, .slice a9 f.Bv.past.length c9, .string f.Bv.text, .bool f.Bv.gone]) MZ NN rfl (by decide) (oo.ext (FWa.al _)) (O.frame.2 ⟨_, rfl, o9.Ak fun b hb hbl => (Ae (by omega)).trans (kWa b (by simp only [In] at hb; omega))⟩) (fun b hb h1 h2 => by simp only [In] at h1 h2; omega) (At.nw (by omega)) (by omega) (by decide) (by decide)) ?_
  rintro ⟨_, w3⟩ ⟨a8, c8, rfl, o8, M8⟩
  have zM8 := M8.size
  try simp only [qz] at zM8
  try dsimp only at o8 M8
  have zM8 := M8.size
  simp only [World.size_alloc] at zM8 o8
  have k8 : ∀ b, b < W3.heap.size → hp w3 b = hp W b := fun b hb => (M8.Ah b xB (fun h => by simp only [In] at h; omega)).trans ((Ae (by omega)).trans (FWa.Ah (by omega)))
  have F3 : Ext w0 w3 := Mod.after ((E0.tr FWa).al _) M8 (fun b h1 h2 => by have := E03.size; simp only [In] at h2; omega)
  have hts : st.net.take k ++ [f] = st.net.take (k + 1) := by rw [List.take_add_one, hf]; rfl
  rw [htk, hts] at o8
  rw [htk]
  have L1 := (k8 g1 hz.1).trans X1
  have L2 := (k8 g2 hz.2.1).trans X2
  have L3 := (k8 g3 hz.2.2).trans X3
  simp (disch := first | exact xD | fail) [-Option.bind_some, qs, -Aa, -Ab, qm, L3, e7, e1, e2, e3, X1, X2, X3, E0.Ah, hlt, t0, t1, t2, t3, t4, t5, t6, t7, t8, E1.Ah, M8.Ah]
  refine Ag.mono (ih (k + 1) _ _ a8 c8 (by omega) xA xA xA xA ((Ad hne.2.1).trans L1) ((Ad hne.2.2).trans L2) (by first | assumption | rfl | (simp (disch := first | exact xD | fail) [-Option.bind_some, qs, -Aa, -Ab, qm, L3, e1, e2, e3, e7, X1, X2, X3, E0.Ah, hlt, t0, t1, t2, t3, t4, t5, t6, t7, t8, E1.Ah, M8.Ah]; done)) (fun b hb hn => (Ad hn).trans ((k8 b hb).trans (hk b hb hn))) ((o8.Ak fun b hb hbl => Ad ?_).wide ?_) (F3.set hg.2.2 _) (by simp only [size_setRow]; omega)) hQ
  ·rcases hb with h | h | h
   ·simp only [In] at h; omega
   ·simp only [In] at h; omega
   ·omega
  ·intro b hb hbl
   simp only [In, size_setRow] at hb hbl ⊢
   omega
theorem QW {g1 g2 g3 : Nat} {a1 a2 a3 a4 b1 b4 : Option Addr} {c1 c2 c3 c4 n1 n4 d1 d4 m1 m4 : Nat} {S T1 T4 : Nat → Prop} {st : WorldD} {w0 W2 : World} (hD : D (Ii 36 129) S w0 [.slice a2 st.Az.length c2] st.Az) (hN : D (Ez 36 131) S w0 [.slice a3 st.net.length c3] st.net) (hs4 : ∀ s ∈ st.Az, s.past.length = 4) (hg : w0.heap.size ≤ g1 ∧ w0.heap.size ≤ g2 ∧ w0.heap.size ≤ g3) (hne : g1 ≠ g2 ∧ g1 ≠ g3 ∧ g2 ≠ g3) (hz : g1 < W2.heap.size ∧ g2 < W2.heap.size ∧ g3 < W2.heap.size) (E02 : Ext w0 W2)
  (Pt : RO W2 ⟨st.places, [], [], st.AF⟩ (.slice b1 m1 d1) (.slice none 0 0) (.slice none 0 0) (.slice b4 m4 d4) T1 (fun _ => False) (fun _ => False) T4) (hT : ∀ b, T1 b ∨ T4 b → w0.heap.size ≤ b ∧ b < W2.heap.size ∧ b ≠ g2 ∧ b ≠ g3) :
  ∀ (d k : Nat) (e : Env) (W : World) (a' : Option Addr) (c' : Nat), k + d = st.Az.length → e 1 = pt g1 0 → e 2 = pt g2 0 → e 3 = pt g3 0 → e 5 = i64 k →
   hp W g1 = some (.cells #[.slice a1 n1 c1, .slice a2 st.Az.length c2, .slice a3 st.net.length c3, .slice a4 n4 c4] 77 (0, 0)) → hp W g2 = some (.cells #[.slice none 0 0, .slice none 0 0, .slice none 0 0, .slice none 0 0] 77 (0, 0)) → hp W g3 = some (.cells #[.slice b1 m1 d1, .slice a' k c', .slice none 0 0, .slice b4 m4 d4] 77 (0, 0)) →
   (∀ b, b < W2.heap.size → b ≠ g3 → hp W b = hp W2 b) → O (Ii 36 129) (In W2.heap.size W.heap.size) W [.slice a' k c'] (st.Az.take k) → Ext w0 W → W2.heap.size ≤ W.heap.size →
   Ag (Dq e W) fun r => ∃ cs', r.1 = .agg cs'.toArray ∧ O tW (In w0.heap.size r.2.heap.size) r.2 cs' st ∧ Ext w0 r.2 := by
 have hmx := hD.n.2.1
 intro d
 induction d with
 | zero =>
  intro k e W a' c' hd e1 e2 e3 e5 X1 X2 X3 hk oo E0 hzW
  have zE0 := E0.size
  try simp only [qz] at zE0
  rw [Ff]
  obtain rfl : k = st.Az.length := by omega
  rw [List.take_length] at oo
  refine Ag.post fun Q hQ => ?_
  simp (disch := first | exact xD | fail) [-Option.bind_some, qs, -Aa, -Ab, qm, e1, e2, e3, e5, X1, X2, X3, E0.Ah]
  have P2 : RO W ⟨st.places, st.Az, [], st.AF⟩ (.slice b1 m1 d1) (.slice a' st.Az.length c') (.slice none 0 0) (.slice b4 m4 d4) T1 (In W2.heap.size W.heap.size) (fun _ => False) T4 :=
   ⟨Pt.o1.Ak fun b hb _ => hk b (hT b (.inl hb)).2.1 (hT b (.inl hb)).2.2.2, oo, O.nil, Pt.o4.Ak fun b hb _ => hk b (hT b (.inr hb)).2.1 (hT b (.inr hb)).2.2.2,
    fun b _ q q' => by have := hT b (.inl q); simp only [In] at q'; omega, fun b _ _ q' => q', fun b _ q q' => Pt.d14 b (hT b (.inl q)).2.1 q q',
    fun b _ _ q' => q', fun b _ q q' => by have := hT b (.inr q'); simp only [In] at q; omega, fun b _ q _ => q⟩
  exact Ag.mono (QV (g1 := g1) (g2 := g2) (g3 := g3) (n2 := st.Az.length) (m2 := st.Az.length) (w0 := w0) (W3 := W) hN hg hne (by omega) E0 P2 (fun b h => by rcases h with h | h | h; have := hT b (.inl h); omega; (simp only [In] at h; have := E02.size; omega); have := hT b (.inr h); omega) st.net.length 0 _ W none 0 (by omega) xA xA xA rfl X1 X2 X3 (fun b _ _ => rfl) O.nil E0 (Nat.le_refl _)) hQ
 | succ d ih =>
  intro k e W a' c' hd e1 e2 e3 e5 X1 X2 X3 hk oo E0 hzW
  have zE0 := E0.size
  try simp only [qz] at zE0
  rw [Ff]
  have hlt : k < st.Az.length := by omega
  obtain ⟨s, hs, _⟩ := Am hlt
  have hp4 := hs4 s (List.mem_of_getElem? hs)
  obtain ⟨b5, o5, cs5, rfl, A5, D5, _, _⟩ := hD.at (by decide) hs
  obtain ⟨av, cv, rfl, D6⟩ := D.Az.1 D5
  rw [hp4] at A5 D6
  have t0 := A5 0 _ rfl
  have t1 := A5 1 _ rfl
  have t2 := A5 2 _ rfl
  have t3 := A5 3 _ rfl
  have t4 := A5 4 _ rfl
  simp only [AX, Cs, AO, Nat.add_zero] at t0 t1 t2 t3 t4
  simp only [RM] at t0 t1 t2 t3 t4
  have htk : (st.Az.take k).length = k := by rw [List.length_take]; omega
  have y1 := Aq X1
  have y2 := Aq X2
  have y3 := Aq X3
  refine Ag.post fun Q hQ => ?_
  simp (disch := first | exact xD | fail) [-Option.bind_some, qs, -Aa, -Ab, qm, e1, e2, e3, e5, X1, X2, X3, hlt, DM, E0.Ah, t0, t1, t2, t3, t4]
  refine Ag.bind (O.KG (L := EN) (mx := 8796093021952) Cb CD Gt rfl (by decide) (O.empty (g := W.heap.size + 1) (by first | assumption | rfl | (simp (disch := first | exact xD | fail) [-Option.bind_some, qs, -Aa, -Ab, qm, e1, e2, e3, e5, X1, X2, X3, E0.Ah, hlt, t0, t1, t2, t3, t4]; done))) (D6.ext xE) (by simp; omega) (by decide) (by decide)) ?_
  rintro ⟨_, w2⟩ ⟨a9, c9, rfl, o9, M9⟩
  have zM9 := M9.size
  try simp only [qz] at zM9
  try dsimp only at o9 M9
  simp only [List.nil_append, List.length_nil, Nat.zero_add, hp4, World.size_alloc, size_setRow] at o9
  have zM9 := M9.size
  simp only [World.size_alloc, size_setRow] at zM9
  have F1 : Ext W w2 := Mod.after xE M9 (fun b h1 h2 => by have h2 : b = W.heap.size + 1 := h2; omega)
  have N1 := (F1.Ah y1).trans X1
  have N2 := (F1.Ah y2).trans X2
  have N3 := (F1.Ah y3).trans X3
  have NB : hp w2 W.heap.size = some (.cells #[i64 s.place, .slice av 4 cv, i64 s.wait.t, i64 s.wait.p, i64 s.key] 129 (0, 0)) := (M9.Ah _ xB (by omega)).trans (by first | assumption | rfl | (simp (disch := first | exact xD | fail) [-Option.bind_some, qs, -Aa, -Ab, qm, e1, e2, e3, e5, X1, X2, X3, E0.Ah, hlt, t0, t1, t2, t3, t4, M9.Ah]; done))
  simp (disch := first | exact xD | fail) [-Option.bind_some, qs, -Aa, -Ab, qm, N1, N2, N3, NB, List.length_nil, Nat.zero_add, hp4, e1, e2, e3, e5, X1, X2, X3, E0.Ah, hlt, t0, t1, t2, t3, t4, M9.Ah]
  generalize hWa : World.setRow _ W.heap.size _ = Wa
  have sWa : Wa.heap.size = w2.heap.size := by rw [← hWa]; simp
  have kWa : ∀ b, b ≠ W.heap.size → hp Wa b = hp w2 b := fun b h => by rw [← hWa]; exact Ad h
  have FWa : Ext W Wa := by rw [← hWa]; exact F1.set (Nat.le_refl _) _
  have o9' : O Bj (In (W.heap.size + 1) w2.heap.size) w2 [.slice a9 s.past.length c9] s.past := by
   rw [hp4]
   refine o9.wide fun b hb hbl => ?_
   simp only [In]
   rcases hb with h | h
   ·have h : b = W.heap.size + 1 := h
    omega
   ·omega
  refine Ag.bind (O.app (L := HN 36) (mx := 2513169434916) (xs := st.Az.take k) (S1 := In (W.heap.size + 1) w2.heap.size) (x := s) (cs := [i64 s.place, .slice a9 4 c9, i64 s.wait.t, i64 s.wait.p, i64 s.key]) Ra Re rfl (by decide) (oo.ext (FWa.al _)) (O.Az.2 ⟨a9, c9, by rw [hp4], o9'.Ak fun b hb hbl => (Ae (by omega)).trans (kWa b (by simp only [In] at hb; omega))⟩) (fun b hb h1 h2 => by simp only [In] at h1 h2; omega) (At.nw (by omega)) (by omega) (by decide) (by decide)) ?_
  rintro ⟨_, w3⟩ ⟨a8, c8, rfl, o8, M8⟩
  have zM8 := M8.size
  try simp only [qz] at zM8
  try dsimp only at o8 M8
  have zM8 := M8.size
  simp only [World.size_alloc] at zM8 o8
  have k8 : ∀ b, b < W2.heap.size → hp w3 b = hp W b := fun b hb => (M8.Ah b xB (fun h => by simp only [In] at h; omega)).trans ((Ae (by omega)).trans (FWa.Ah (by omega)))
  have F3 : Ext w0 w3 := Mod.after ((E0.tr FWa).al _) M8 (fun b h1 h2 => by have := E02.size; simp only [In] at h2; omega)
  have hts : st.Az.take k ++ [s] = st.Az.take (k + 1) := by rw [List.take_add_one, hs]; rfl
  rw [htk, hts] at o8
  rw [htk]
  have L1 := (k8 g1 hz.1).trans X1
  have L2 := (k8 g2 hz.2.1).trans X2
  have L3 := (k8 g3 hz.2.2).trans X3
  simp (disch := first | exact xD | fail) [-Option.bind_some, qs, -Aa, -Ab, qm, L3, e5, e1, e2, e3, X1, X2, X3, E0.Ah, hlt, t0, t1, t2, t3, t4, M9.Ah, M8.Ah]
  refine Ag.mono (ih (k + 1) _ _ a8 c8 (by omega) xA xA xA xA ((Ad hne.2.1).trans L1) ((Ad hne.2.2).trans L2) (by first | assumption | rfl | (simp (disch := first | exact xD | fail) [-Option.bind_some, qs, -Aa, -Ab, qm, L3, e1, e2, e3, e5, X1, X2, X3, E0.Ah, hlt, t0, t1, t2, t3, t4, M9.Ah, M8.Ah]; done)) (fun b hb hn => (Ad hn).trans ((k8 b hb).trans (hk b hb hn))) ((o8.Ak fun b hb hbl => Ad ?_).wide ?_) (F3.set hg.2.2 _) (by simp only [size_setRow]; omega)) hQ
  ·rcases hb with h | h | h
   ·simp only [In] at h; omega
   ·simp only [In] at h; omega
   ·omega
  ·intro b hb hbl
   simp only [In, size_setRow] at hb hbl ⊢
   omega
theorem QX {g1 g2 g3 : Nat} {a1 a2 a3 a4 b4 : Option Addr} {c1 c2 c3 c4 n4 d4 m4 : Nat} {S T4 : Nat → Prop} {st : WorldD} {w0 W1 : World} (hP : D (Ey 36 49 86 42 84) S w0 [.slice a1 st.places.length c1] st.places) (hch : ∀ p ∈ st.places, p.chain.length ≤ 1000)
  (hD : D (Ii 36 129) S w0 [.slice a2 st.Az.length c2] st.Az) (hN : D (Ez 36 131) S w0 [.slice a3 st.net.length c3] st.net) (hs4 : ∀ s ∈ st.Az, s.past.length = 4) (hg : w0.heap.size ≤ g1 ∧ w0.heap.size ≤ g2 ∧ w0.heap.size ≤ g3) (hne : g1 ≠ g2 ∧ g1 ≠ g3 ∧ g2 ≠ g3) (hz : g1 < W1.heap.size ∧ g2 < W1.heap.size ∧ g3 < W1.heap.size) (E01 : Ext w0 W1)
  (o4 : O (Ih 38) T4 W1 [.slice b4 m4 d4] st.AF) (hT : ∀ b, T4 b → w0.heap.size ≤ b ∧ b < W1.heap.size ∧ b ≠ g2 ∧ b ≠ g3) :
  ∀ (d k : Nat) (e : Env) (W : World) (a' : Option Addr) (c' : Nat), k + d = st.places.length → e 1 = pt g1 0 → e 2 = pt g2 0 → e 3 = pt g3 0 → e 4 = i64 k →
   hp W g1 = some (.cells #[.slice a1 st.places.length c1, .slice a2 st.Az.length c2, .slice a3 st.net.length c3, .slice a4 n4 c4] 77 (0, 0)) → hp W g2 = some (.cells #[.slice none 0 0, .slice none 0 0, .slice none 0 0, .slice none 0 0] 77 (0, 0)) → hp W g3 = some (.cells #[.slice a' k c', .slice none 0 0, .slice none 0 0, .slice b4 m4 d4] 77 (0, 0)) →
   (∀ b, b < W1.heap.size → b ≠ g3 → hp W b = hp W1 b) → O (Ey 36 49 86 42 84) (In W1.heap.size W.heap.size) W [.slice a' k c'] (st.places.take k) → Ext w0 W → W1.heap.size ≤ W.heap.size →
   Ag (Dn e W) fun r => ∃ cs', r.1 = .agg cs'.toArray ∧ O tW (In w0.heap.size r.2.heap.size) r.2 cs' st ∧ Ext w0 r.2 := by
 have hmx := hP.n.2.1
 intro d
 induction d with
 | zero =>
  intro k e W a' c' hd e1 e2 e3 e4 X1 X2 X3 hk oo E0 hzW
  have zE0 := E0.size
  try simp only [qz] at zE0
  rw [Fe]
  obtain rfl : k = st.places.length := by omega
  rw [List.take_length] at oo
  refine Ag.post fun Q hQ => ?_
  simp (disch := first | exact xD | fail) [-Option.bind_some, qs, -Aa, -Ab, qm, e1, e2, e3, e4, X1, X2, X3, E0.Ah]
  have P2 : RO W ⟨st.places, [], [], st.AF⟩ (.slice a' st.places.length c') (.slice none 0 0) (.slice none 0 0) (.slice b4 m4 d4) (In W1.heap.size W.heap.size) (fun _ => False) (fun _ => False) T4 :=
   ⟨oo, O.nil, O.nil, o4.Ak fun b hb _ => hk b (hT b hb).2.1 (hT b hb).2.2.2,
    fun b _ _ q' => q', fun b _ _ q' => q', fun b _ q q' => by have := hT b q'; simp only [In] at q; omega, fun b _ q _ => q, fun b _ q _ => q, fun b _ q _ => q⟩
  exact Ag.mono (QW (g1 := g1) (g2 := g2) (g3 := g3) (n1 := st.places.length) (m1 := st.places.length) (w0 := w0) (W2 := W) hD hN hs4 hg hne (by omega) E0 P2 (fun b h => by rcases h with h | h; (simp only [In] at h; have := E01.size; omega); have := hT b h; omega) st.Az.length 0 _ W none 0 (by omega) xA xA xA rfl X1 X2 X3 (fun b _ _ => rfl) O.nil E0 (Nat.le_refl _)) hQ
 | succ d ih =>
  intro k e W a' c' hd e1 e2 e3 e4 X1 X2 X3 hk oo E0 hzW
  have zE0 := E0.size
  try simp only [qz] at zE0
  rw [Fe]
  have hlt : k < st.places.length := by omega
  obtain ⟨p, hp', _⟩ := Am hlt
  have hpc := hch p (List.mem_of_getElem? hp')
  obtain ⟨b5, o5, cs5, rfl, A5, D5, _, _⟩ := hP.at (by show 0 < 6; decide) hp'
  have D6 := D5
  obtain ⟨ac, cc, al, cl, ag, cg, rfl, _, _, _⟩ := D.place.1 D5
  have t0 := A5 0 _ rfl
  have t1 := A5 1 _ rfl
  have t2 := A5 2 _ rfl
  have t3 := A5 3 _ rfl
  have t4 := A5 4 _ rfl
  have t5 := A5 5 _ rfl
  simp only [AX, Cs, AO, Nat.add_zero] at t0 t1 t2 t3 t4 t5
  simp only [Hi] at t0 t1 t2 t3 t4 t5
  have htk : (st.places.take k).length = k := by rw [List.length_take]; omega
  have y1 := Aq X1
  have y2 := Aq X2
  have y3 := Aq X3
  refine Ag.post fun Q hQ => ?_
  simp (disch := first | exact xD | fail) [-Option.bind_some, qs, -Aa, -Ab, qm, e1, e2, e3, e4, X1, X2, X3, hlt, CF, E0.Ah, t0, t1, t2, t3, t4, t5]
  refine Ag.bind (QU (M := 0) (D6.ext xE) hpc) ?_
  rintro ⟨_, w2⟩ ⟨ds, rfl, o9, E1⟩
  try dsimp only at ds o9 E1
  have zE1 := E1.size
  try simp only [qz] at zE1
  have o9' := o9.d
  obtain ⟨ad, cd, ae, ce, af, cf, rfl, _, _, _⟩ := D.place.1 o9'
  simp only [Ac] at zE1 o9
  have F1 : Ext W w2 := xE
  have N1 := (F1.Ah y1).trans X1
  have N2 := (F1.Ah y2).trans X2
  have N3 := (F1.Ah y3).trans X3
  simp (disch := first | exact xD | fail) [-Option.bind_some, qs, -Aa, -Ab, qm, N1, N2, N3, e1, e2, e3, e4, X1, X2, X3, E0.Ah, hlt, t0, t1, t2, t3, t4, t5, E1.Ah]
  refine Ag.bind (O.app (L := Il) (mx := 1466015503701) (xs := st.places.take k) (S1 := In W.heap.size w2.heap.size) (x := p) (cs := [i64 p.me, i64 p.clock, .slice ad p.chain.length cd, .slice ae p.log.length ce, .slice af p.Bs.length cf, .bool p.fell]) Q9 SF rfl (by decide) (oo.ext (F1.al _)) (o9.Ak fun b hb hbl => Ae hbl) (fun b hb h1 h2 => by simp only [In] at h1 h2; omega) (At.nw rfl) (by omega) (by decide) (by decide)) ?_
  rintro ⟨_, w3⟩ ⟨a8, c8, rfl, o8, M8⟩
  have zM8 := M8.size
  try simp only [qz] at zM8
  try dsimp only at o8 M8
  have zM8 := M8.size
  simp only [World.size_alloc] at zM8 o8
  have k8 : ∀ b, b < W1.heap.size → hp w3 b = hp W b := fun b hb => (M8.Ah b xB (fun h => by simp only [In] at h; omega)).trans ((Ae (by omega)).trans (F1.Ah (by omega)))
  have F3 : Ext w0 w3 := Mod.after ((E0.tr F1).al _) M8 (fun b h1 h2 => by have := E01.size; simp only [In] at h2; omega)
  have hts : st.places.take k ++ [p] = st.places.take (k + 1) := by rw [List.take_add_one, hp']; rfl
  rw [htk, hts] at o8
  rw [htk]
  have L1 := (k8 g1 hz.1).trans X1
  have L2 := (k8 g2 hz.2.1).trans X2
  have L3 := (k8 g3 hz.2.2).trans X3
  simp (disch := first | exact xD | fail) [-Option.bind_some, qs, -Aa, -Ab, qm, L3, e4, e1, e2, e3, X1, X2, X3, E0.Ah, hlt, t0, t1, t2, t3, t4, t5, E1.Ah, M8.Ah]
  refine Ag.mono (ih (k + 1) _ _ a8 c8 (by omega) xA xA xA xA ((Ad hne.2.1).trans L1) ((Ad hne.2.2).trans L2) (by first | assumption | rfl | (simp (disch := first | exact xD | fail) [-Option.bind_some, qs, -Aa, -Ab, qm, L3, e1, e2, e3, e4, X1, X2, X3, E0.Ah, hlt, t0, t1, t2, t3, t4, t5, E1.Ah, M8.Ah]; done)) (fun b hb hn => (Ad hn).trans ((k8 b hb).trans (hk b hb hn))) ((o8.Ak fun b hb hbl => Ad ?_).wide ?_) (F3.set hg.2.2 _) (by simp only [size_setRow]; omega)) hQ
  ·rcases hb with h | h | h
   ·simp only [In] at h; omega
   ·simp only [In] at h; omega
   ·omega
  ·intro b hb hbl
   simp only [In, size_setRow] at hb hbl ⊢
   omega
theorem QY {M : Nat} {S : Nat → Prop} {cs : List Value} {st : WorldD} {w : World} (hf : BG M st) (hD : D tW S w cs st) :
  Ag (EV P 75 #[.agg cs.toArray] w) fun r => ∃ cs', r.1 = .agg cs'.toArray ∧ O tW (In w.heap.size r.2.heap.size) r.2 cs' st ∧ Ext w r.2 := by
 obtain ⟨a1, c1, a2, c2, a3, c3, a4, c4, rfl, q1, q2, q3, q4⟩ := D.world.1 hD
 have hh := hf.2.2.2.2.2.2
 refine Ag.post fun Q hQ => ?_
 refine Ag.enter plain mixed (K5 _ _) (by kernel_rfl) (n := 1) (by kernel_rfl) rfl ?_
 simp (disch := first | exact xD | fail) [-Option.bind_some, qs, -Aa, -Ab]
 refine Ag.bind (O.KG (L := I2) (mx := 3518437208883) (OY (Db ER (Db ER (Db ER Cb)))) Q7 Rc rfl (by decide) (O.empty (g := w.heap.size + 1 + 1) (by first | assumption | rfl | (simp (disch := first | exact xD | fail) [-Option.bind_some, qs, -Aa, -Ab]; done))) (q4.ext xE) (by simp; omega) (by decide) (by decide)) ?_
 rintro ⟨_, w2⟩ ⟨a9, c9, rfl, o9, M9⟩
 have zM9 := M9.size
 try simp only [qz] at zM9
 try dsimp only at o9 M9
 simp only [List.nil_append, List.length_nil, Nat.zero_add, World.size_alloc] at o9
 have zM9 := M9.size
 simp only [World.size_alloc] at zM9
 have F1 : Ext w w2 := Mod.after xE M9 (fun b h1 h2 => by have h2 : b = w.heap.size + 1 + 1 := h2; omega)
 have N1 : hp w2 w.heap.size = some (.cells #[.slice a1 st.places.length c1, .slice a2 st.Az.length c2, .slice a3 st.net.length c3, .slice a4 st.AF.length c4] 77 (0, 0)) := (M9.Ah _ xB (by omega)).trans (by first | assumption | rfl | (simp (disch := first | exact xD | fail) [-Option.bind_some, qs, -Aa, -Ab]; done))
 have N2 : hp w2 (w.heap.size + 1) = some (.cells #[.slice none 0 0, .slice none 0 0, .slice none 0 0, .slice none 0 0] 77 (0, 0)) := (M9.Ah _ xB (by omega)).trans (by first | assumption | rfl | (simp (disch := first | exact xD | fail) [-Option.bind_some, qs, -Aa, -Ab]; done))
 simp (disch := first | exact xD | fail) [-Option.bind_some, -Aa, -Ab, qm, List.length_nil, Nat.zero_add]
 refine Ag.mono (QX (g1 := w.heap.size) (g2 := w.heap.size + 1) (g3 := w2.heap.size) (n4 := st.AF.length) (T4 := In (w.heap.size + 1 + 1) w2.heap.size) (w0 := w) q1 (fun p h => by have := (hf.2.1 p h).1.2.1; omega) q2 q3 (fun s h => (hf.2.2.2.1 s h).2.2.1) (by omega) (by omega) (by simp only [World.size_alloc, size_setRow]; omega) xE ((o9.Ak fun b hb hbl => (Ad (by omega)).trans (Ae hbl)).wide ?_) (fun b h => by simp only [In] at h; simp only [World.size_alloc, size_setRow]; omega) st.places.length 0 _ _ none 0 (by omega) rfl rfl rfl rfl ((Ad (by omega)).trans ((Ae (by omega)).trans N1)) ((Ad (by omega)).trans ((Ae (by omega)).trans N2)) (by first | assumption | rfl | (simp (disch := first | exact xD | fail) [-Option.bind_some, qs, -Aa, -Ab]; done)) (fun b _ _ => rfl) O.nil xE (Nat.le_refl _)) hQ
 intro b hb hbl
 simp only [In]
 rcases hb with h | h
 ·have h : b = w.heap.size + 1 + 1 := h
  omega
 ·omega
theorem Pb {B g p : Nat} (hp0 : p ≤ 300000000000) {w : World} (hr : R w B g p) :
  Ag (EV P 43 #[pt g 0] w) fun r => ∃ (cs : List Value) (st : WorldD) (p' : Nat), r.1 = .agg cs.toArray ∧ BG 1000 st ∧ O tW (fun b => w.heap.size ≤ b) r.2 cs st ∧ p' ≤ 700000000000 ∧ R r.2 B g p' ∧ Mod (fun b => b = g) w r.2 := by
 have hl := hr.lt
 refine Ag.post fun Q hQ => ?_
 refine Ag.enter plain mixed (Jz _ _) (by kernel_rfl) (n := 1) (by kernel_rfl) rfl ?_
 simp (disch := first | exact xD | fail) [-Option.bind_some, -Aa, -Ab]
 refine Ag.bind (Qe (by omega) (hr.ext xE)) ?_
 rintro ⟨_, w1⟩ ⟨m, sN, a, c, p1, evs, hm, hsN, rfl, o1, hx, hp1, R1, M1⟩
 have zM1 := M1.size
 try simp only [qz] at zM1
 try dsimp only at o1 R1 M1
 have zM1 := M1.size
 simp only [World.size_alloc] at zM1
 have N0 : hp w1 w.heap.size = some (.cells #[.slice none 0 0, .slice none 0 0, .slice none 0 0, .slice none 0 0] 77 (0, 0)) := (M1.Ah _ xB (by omega)).trans (by first | assumption | rfl | (simp (disch := first | exact xD | fail) [-Option.bind_some, qs, -Aa, -Ab]; done))
 simp (disch := first | exact xD | fail) [-Option.bind_some, qs, -Aa, -Ab]
 refine Ag.bind (QR hm hsN o1.d hx) ?_
 rintro ⟨_, w2⟩ ⟨cs2, st2, rfl, f2, o2, E2⟩
 try dsimp only at cs2 st2 f2 o2 E2
 have zE2 := E2.size
 try simp only [qz] at zE2
 simp (disch := first | exact xD | fail) [-Option.bind_some, -Aa, -Ab]
 refine Ag.bind (QY f2 o2.d) ?_
 rintro ⟨_, w3⟩ ⟨cs3, rfl, o3, E3⟩
 try dsimp only at cs3 o3 E3
 have zE3 := E3.size
 try simp only [qz] at zE3
 obtain ⟨u5, l5, d5, u6, l6, d6, u7, l7, d7, u8, l8, d8, rfl⟩ := o3.B6
 have N3 : hp w3 w.heap.size = _ := (E3.Ah (by omega)).trans ((E2.Ah (by omega)).trans N0)
 simp (disch := first | exact xD | fail) [-Option.bind_some, -Aa, -Ab, qm, N3]
 refine hQ _ ⟨_, st2, p1, rfl, f2, (o3.Ak fun b hb hbl => Ad (by simp only [In] at hb; omega)).wide fun b hb _ => by simp only [In] at hb; omega, hp1, ((R1.ext E2).ext E3).Ak (fun b h _ => Ad (by omega)), ?_⟩
 have Ma : Mod (fun b => b = g) w w1 := Mod.tr xM M1
 exact ((Ma.ex E2).ex E3).AE (.inl (Nat.le_refl _)) _
attribute [local irreducible] World.alloc World.setRow Go.Ev.dw
end Go.Proofs.YtjhhommnkaemlaaGreat.X
namespace Go.Proofs.YtjhhommnkaemlaaGreat.X
open Go Go.Ev Go.RowKit
attribute [local irreducible] World.alloc World.setRow Go.Ev.dw
theorem Fw {s : Value} {ns : List Int} {w : World} (hs : CZ w s ns) (hn : ns.length ≤ 1000000000000) :
  Ag (EV P 20 #[s] w) fun r => ∃ (a : Option Addr) (c : Nat) (vs : List Ver), r.1 = .agg #[.slice a vs.length c] ∧ D AB (fun b => w.heap.size ≤ b) r.2 [.slice a vs.length c] vs ∧ Ext w r.2 := by
 have hs' := hs
 obtain ⟨sa, sc, rfl, _⟩ := hs'
 refine Ag.post fun Q hQ => ?_
 refine Ag.enter plain mixed (FQ _ _) (by kernel_rfl) (n := 1) (by kernel_rfl) rfl ?_
 simp (disch := first | exact xD | fail) [-Option.bind_some, qs, -Aa, -Ab, qm]
 refine Ag.bind (LN (hs.mono (Ext.Ak xE)) hn) ?_
 rintro ⟨_, w1⟩ ⟨g, rfl, R1, E1⟩
 have zE1 := E1.size
 try simp only [qz] at zE1
 try dsimp only at R1 E1
 have hl := R1.lt
 have zE1 := E1.size
 simp only [World.size_alloc] at zE1 hl
 have N0 : hp w1 w.heap.size = some (.cells #[.slice none 0 0] 44 (0, 0)) := (E1.Ah xB).trans (by first | assumption | rfl | (simp (disch := first | exact xD | fail) [-Option.bind_some, qs, -Aa, -Ab, qm, E1.Ah]; done))
 have F1 : Ext w w1 := xE
 simp (disch := first | exact xD | fail) [-Option.bind_some, qs, -Aa, -Ab, qm, E1.Ah]
 refine Ag.bind (Al (k := 2) (by omega) (by omega) (by omega) R1) ?_
 rintro ⟨_, w2⟩ ⟨m2, rfl, hm2, R2, M2⟩
 have zM2 := M2.size
 try simp only [qz] at zM2
 try dsimp only at R2 M2
 have zM2 := M2.size
 have N2 := (M2.Ah w.heap.size (by omega) (by omega)).trans N0
 have F2 : Ext w w2 := Mod.after F1 M2 fun b hb h => by omega
 cases h0 : ((m2 : Int) == 0)
 ·simp (disch := first | exact xD | fail) [-Option.bind_some, qs, -Aa, -Ab, qm, h0, E1.Ah, M2.Ah]
  refine Ag.bind (Ik (by omega) R2) ?_
  rintro ⟨_, w3⟩ ⟨vs, a, c, p3, rfl, d3, hp3, R3, M3⟩
  have zM3 := M3.size
  try simp only [qz] at zM3
  try dsimp only at d3 R3 M3
  have zM3 := M3.size
  have N3 := (M3.Ah w.heap.size (by omega) (by omega)).trans N2
  simp (disch := first | exact xD | fail) [-Option.bind_some, qs, -Aa, -Ab, qm, N3, E1.Ah, M2.Ah, M3.Ah]
  exact hQ _ ⟨a, c, vs, rfl, (d3.Ak fun b hb hbl => Ad (by omega)).wide fun b h _ => by omega, (Mod.after F2 M3 fun b hb h => by omega).set (Nat.le_refl _) _⟩
 ·simp (disch := first | exact xD | fail) [-Option.bind_some, qs, -Aa, -Ab, qm, h0, E1.Ah, M2.Ah]
  refine Ag.bind (Pb (by omega) R2) ?_
  rintro ⟨_, w3⟩ ⟨cs, st, p3, rfl, f3, o3, hp3, R3, M3⟩
  have zM3 := M3.size
  try simp only [qz] at zM3
  try dsimp only at o3 R3 M3
  have zM3 := M3.size
  have N3 := (M3.Ah w.heap.size (by omega) (by omega)).trans N2
  have F3 : Ext w w3 := Mod.after F2 M3 fun b hb h => by omega
  obtain ⟨a1, c1, a2, c2, a3, c3, a4, c4, rfl, dp, _, _, _⟩ := D.world.1 o3.d
  have fin : ∀ (e' : Env) (W : World) (b5 : Nat) (k : Nat) (p : PlaceD) (ds : List Value), st.places[k]? = some p → D Il (fun b => w2.heap.size ≤ b) W ds p → e' 2 = pt w.heap.size 0 → e' 5 = pt b5 0 → hp W w.heap.size = some (.cells #[.slice none 0 0] 44 (0, 0)) → hp W b5 = some (.cells ds.toArray 84 (0, 0)) → Ext w W → Ag (Bp e' W) Q := by
   intro e' W b5 k p ds hp' dpl e2 e5 X2 X5 E0
   have zE0 := E0.size
   try simp only [qz] at zE0
   have hpf := f3.2.1 p (List.mem_of_getElem? hp')
   have x0 : 0 < p.chain.length := hpf.1.1
   have x4 := hpf.1.2.1
   obtain ⟨x, hx, _⟩ := Am (l := p.chain) (k := p.chain.length - 1) (by omega)
   have hxn := hpf.1.2.2 x (List.mem_of_getElem? hx)
   obtain ⟨ac, cc, al, cl, ag, cg, rfl, q1, _, _⟩ := D.place.1 dpl
   obtain ⟨b1, o1, cs1, rfl, A1, D1, _, l1⟩ := q1.at (by decide) hx
   obtain ⟨a8, c8, a9, c9, rfl, h2, h3⟩ := D.node.1 D1
   have n0 := A1 0 _ rfl
   have n1 := A1 1 _ rfl
   simp only [AX, Cs, AO, Nat.add_zero] at n0 n1
   have hw1 : IntKind.i64.wrap ((p.chain.length : Int) - 1) = ((p.chain.length - 1 : Nat) : Int) := by rw [Ho (by omega) (by omega)]; omega
   have hln : p.chain.length - 1 < p.chain.length := by omega
   rw [ED]
   simp (disch := first | exact xD | fail) [-Option.bind_some, qs, -Aa, -Ab, qm, e2, e5, X2, X5, hw1, hln, Cr, E1.Ah, M2.Ah, M3.Ah, E0.Ah, n0, n1]
   exact hQ _ ⟨a8, c8, x.store, rfl, (h2.Ak fun b hb hbl => Ad (by omega)).wide fun b h _ => by omega, E0.set (Nat.le_refl _) _⟩
  simp (disch := first | exact xD | fail) [-Option.bind_some, qs, -Aa, -Ab, qm, E1.Ah, M2.Ah, M3.Ah]
  generalize hW0 : World.setRow _ w3.heap.size _ = W0
  have sW0 : W0.heap.size = w3.heap.size + 1 := by rw [← hW0]; simp
  have kW0 : ∀ b, b < w3.heap.size → hp W0 b = hp w3 b := fun b hb => by
   rw [← hW0]
   exact (Ad (by omega)).trans (Ae hb)
  have BW : hp W0 w3.heap.size = some (.cells #[.slice a1 st.places.length c1, .slice a2 st.Az.length c2, .slice a3 st.net.length c3, .slice a4 st.AF.length c4] 77 (0, 0)) := by
   rw [← hW0]
   exact (by first | assumption | rfl | (simp (disch := first | exact xD | fail) [-Option.bind_some, qs, -Aa, -Ab, qm, E1.Ah, M2.Ah, M3.Ah]; done))
  have XW := (kW0 w.heap.size (by omega)).trans N3
  have RW : R W0 _ g p3 := R3.Ak fun b h hb => kW0 b hb
  have FW : Ext w W0 := by rw [← hW0]; exact (F3.al _).set (by omega) _
  have dpl : D (Ey 36 49 86 42 84) (fun b => w2.heap.size ≤ b ∧ b < w3.heap.size) W0 [.slice a1 st.places.length c1] st.places := dp.lt.Ak fun b hb hbl => kW0 b hb.2
  refine Ew _ _ ?_
  simp (disch := first | exact xD | fail) [-Option.bind_some, qs, -Aa, -Ab, qm, BW, E1.Ah, M2.Ah, M3.Ah]
  constructor
  ·skip
   refine Ag.mono (Al (k := 3) (by omega) (by omega) (by omega) (RW.ext xE)) ?_
   rintro ⟨_, w4⟩ ⟨m4, rfl, hm4, R4, M4⟩
   have zM4 := M4.size
   try simp only [qz] at zM4
   try dsimp only at R4 M4
   have zM4 := M4.size
   simp only [World.size_alloc, Ac] at zM4
   have k4 : ∀ b, b < W0.heap.size → b ≠ g → hp w4 b = hp W0 b := fun b hb h => (M4.Ah b xB h).trans (Bg _ _)
   have hk : m4 < st.places.length := by rw [f3.1]; omega
   obtain ⟨p, hp', _⟩ := Am hk
   obtain ⟨b5, o5, cs5, rfl, A5, D5, y6, y5⟩ := dpl.at (by show 0 < 6; decide) hp'
   have D6 : D Il (fun b => w2.heap.size ≤ b ∧ b < w3.heap.size) w4 cs5 p := D5.Ak fun b hb hbl => k4 b hbl (by omega)
   obtain ⟨ac, cc, al, cl, ag, cg, rfl, _, _, _⟩ := D.place.1 D5
   have t0 := A5 0 _ rfl
   have t1 := A5 1 _ rfl
   have t2 := A5 2 _ rfl
   have t3 := A5 3 _ rfl
   have t4 := A5 4 _ rfl
   have t5 := A5 5 _ rfl
   simp only [AX, Cs, AO, Nat.add_zero] at t0 t1 t2 t3 t4 t5
   simp only [Hi] at t0 t1 t2 t3 t4 t5
   have L0 := (k4 w.heap.size (by omega) (by omega)).trans XW
   have LB := (k4 w3.heap.size (by omega) (by omega)).trans BW
   have F4 : Ext w w4 := Mod.after (FW.tr xE) M4 fun b hb h => by omega
   simp (disch := first | exact xD | fail) [-Option.bind_some, qs, -Aa, -Ab, qm, LB, hk, CF, E1.Ah, M2.Ah, M3.Ah, M4.Ah, t0, t1, t2, t3, t4, t5]
   refine fin _ _ w4.heap.size m4 p [i64 p.me, i64 p.clock, .slice ac p.chain.length cc, .slice al p.log.length cl, .slice ag p.Bs.length cg, .bool p.fell] hp' ?_ ?_ ?_ ?_ ?_ ?_
   ·exact (D6.Ak fun b hb hbl => (Ad (by omega)).trans (Ae hbl)).wide fun b h _ => h.1
   ·exact xA
   ·exact xA
   ·exact (Ad (by omega)).trans ((Ae (by omega)).trans L0)
   ·exact (by first | assumption | rfl | (simp (disch := first | exact xD | fail) [-Option.bind_some, qs, -Aa, -Ab, qm, E1.Ah, M2.Ah, M3.Ah, M4.Ah, t0, t1, t2, t3, t4, t5]; done))
   ·exact (F4.al _).set (by omega) _
  ·skip
   refine Ag.mono (Al (k := 3) (by omega) (by omega) (by omega) (RW.ext xE)) ?_
   rintro ⟨_, w4⟩ ⟨m4, rfl, hm4, R4, M4⟩
   have zM4 := M4.size
   try simp only [qz] at zM4
   try dsimp only at R4 M4
   have zM4 := M4.size
   simp only [World.size_alloc, Ac] at zM4
   have k4 : ∀ b, b < W0.heap.size → b ≠ g → hp w4 b = hp W0 b := fun b hb h => (M4.Ah b xB h).trans ((Ae (by simp only [Ac]; omega)).trans (Bg _ _))
   have hk : m4 < st.places.length := by rw [f3.1]; omega
   obtain ⟨p, hp', _⟩ := Am hk
   obtain ⟨b5, o5, cs5, rfl, A5, D5, y6, y5⟩ := dpl.at (by show 0 < 6; decide) hp'
   have D6 : D Il (fun b => w2.heap.size ≤ b ∧ b < w3.heap.size) w4 cs5 p := D5.Ak fun b hb hbl => k4 b hbl (by omega)
   obtain ⟨ac, cc, al, cl, ag, cg, rfl, _, _, _⟩ := D.place.1 D5
   have t0 := A5 0 _ rfl
   have t1 := A5 1 _ rfl
   have t2 := A5 2 _ rfl
   have t3 := A5 3 _ rfl
   have t4 := A5 4 _ rfl
   have t5 := A5 5 _ rfl
   simp only [AX, Cs, AO, Nat.add_zero] at t0 t1 t2 t3 t4 t5
   simp only [Hi] at t0 t1 t2 t3 t4 t5
   have L0 := (k4 w.heap.size (by omega) (by omega)).trans XW
   have LB := (k4 w3.heap.size (by omega) (by omega)).trans BW
   have F4 : Ext w w4 := Mod.after (FW.tr xE) M4 fun b hb h => by omega
   have LP : hp w4 W0.heap.size = some (.cells #[i64 0, i64 0, .slice none 0 0, .slice none 0 0, .slice none 0 0, .bool false] 84 (0, 0)) := (M4.Ah _ xB (by omega)).trans (by first | assumption | rfl | (simp (disch := first | exact xD | fail) [-Option.bind_some, qs, -Aa, -Ab, qm, E1.Ah, M2.Ah, M3.Ah, M4.Ah, t0, t1, t2, t3, t4, t5]; done))
   simp (disch := first | exact xD | fail) [-Option.bind_some, qs, -Aa, -Ab, qm, LB, LP, hk, CF, E1.Ah, M2.Ah, M3.Ah, M4.Ah, t0, t1, t2, t3, t4, t5]
   refine fin _ _ W0.heap.size m4 p [i64 p.me, i64 p.clock, .slice ac p.chain.length cc, .slice al p.log.length cl, .slice ag p.Bs.length cg, .bool p.fell] hp' ?_ ?_ ?_ ?_ ?_ ?_
   ·exact (D6.Ak fun b hb hbl => Ad (by omega)).wide fun b h _ => h.1
   ·exact xA
   ·exact xA
   ·exact (Ad (by omega)).trans L0
   ·exact (by first | assumption | rfl | (simp (disch := first | exact xD | fail) [-Option.bind_some, qs, -Aa, -Ab, qm, LP, E1.Ah, M2.Ah, M3.Ah, M4.Ah, t0, t1, t2, t3, t4, t5]; done))
   ·exact F4.set (by omega) _
end Go.Proofs.YtjhhommnkaemlaaGreat.X
