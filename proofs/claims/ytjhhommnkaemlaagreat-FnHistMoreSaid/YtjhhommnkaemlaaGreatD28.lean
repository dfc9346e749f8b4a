/- A part of the proof, without conditions. -/
import Derived.Test.YtjhhommnkaemlaaGreatEvWp
import Derived.Test.YtjhhommnkaemlaaGreatD27
set_option linter.unusedVariables false
set_option linter.unusedSimpArgs false
set_option linter.deprecated false
set_option maxRecDepth 100000
set_option maxHeartbeats 1000000
namespace Go.Proofs.YtjhhommnkaemlaaGreat.X
open Go Go.Ev Go.RowKit
theorem RF {g1 g2 g3 : Nat} {a1 a2 a3 a4 b4 : Option Addr} {c1 c2 c3 c4 n4 d4 m4 : Nat} {S T4 : Nat → Prop} {st : WorldD} {w0 W1 : World} (hP : D (Fj 36 49 86 42 84) S w0 [.slice a1 st.places.length c1] st.places) (hch : ∀ p ∈ st.places, p.chain.length ≤ 1000)
  (hD : D (HU 36 129) S w0 [.slice a2 st.Ar.length c2] st.Ar) (hN : D (Er 36 131) S w0 [.slice a3 st.net.length c3] st.net) (hs4 : ∀ s ∈ st.Ar, s.past.length = 4) (hg : w0.heap.size ≤ g1 ∧ w0.heap.size ≤ g2 ∧ w0.heap.size ≤ g3) (hne : g1 ≠ g2 ∧ g1 ≠ g3 ∧ g2 ≠ g3) (hz : g1 < W1.heap.size ∧ g2 < W1.heap.size ∧ g3 < W1.heap.size) (E01 : Ext w0 W1)
  (o4 : O (Hg 38) T4 W1 [.slice b4 m4 d4] st.AE) (hT : ∀ b, T4 b → w0.heap.size ≤ b ∧ b < W1.heap.size ∧ b ≠ g2 ∧ b ≠ g3) :
  ∀ (d k : Nat) (e : Env) (W : World) (a' : Option Addr) (c' : Nat), k + d = st.places.length → e 1 = pt g1 0 → e 2 = pt g2 0 → e 3 = pt g3 0 → e 4 = i64 k →
   hp W g1 = some (.cells #[.slice a1 st.places.length c1, .slice a2 st.Ar.length c2, .slice a3 st.net.length c3, .slice a4 n4 c4] 77 (0, 0)) → hp W g2 = some (.cells #[.slice none 0 0, .slice none 0 0, .slice none 0 0, .slice none 0 0] 77 (0, 0)) → hp W g3 = some (.cells #[.slice a' k c', .slice none 0 0, .slice none 0 0, .slice b4 m4 d4] 77 (0, 0)) →
   (∀ b, b < W1.heap.size → b ≠ g3 → hp W b = hp W1 b) → O (Fj 36 49 86 42 84) (In W1.heap.size W.heap.size) W [.slice a' k c'] (st.places.take k) → Ext w0 W → W1.heap.size ≤ W.heap.size →
   Ae (Db e W) fun r => ∃ cs', r.1 = .agg cs'.toArray ∧ O tW (In w0.heap.size r.2.heap.size) r.2 cs' st ∧ Ext w0 r.2 := by
 have hmx := hP.n.2.1
 intro d
 induction d with
 | zero =>
  intro k e W a' c' hd e1 e2 e3 e4 X1 X2 X3 hk oo E0 hzW
  have zE0 := E0.size
  try simp only [qz] at zE0
  rw [Fo]
  obtain rfl : k = st.places.length := by omega
  rw [List.take_length] at oo
  refine Ae.post fun Q hQ => ?_
  simp (disch := first | exact xD | fail) [-Option.bind_some, qs, -Aa, -Ab, qm, e1, e2, e3, e4, X1, X2, X3, E0.Ai]
  have P2 : Tt W ⟨st.places, [], [], st.AE⟩ (.slice a' st.places.length c') (.slice none 0 0) (.slice none 0 0) (.slice b4 m4 d4) (In W1.heap.size W.heap.size) (fun _ => False) (fun _ => False) T4 :=
   ⟨oo, O.nil, O.nil, o4.Aj fun b hb _ => hk b (hT b hb).2.1 (hT b hb).2.2.2,
    fun b _ _ q' => q', fun b _ _ q' => q', fun b _ q q' => by have := hT b q'; simp only [In] at q; omega, fun b _ q _ => q, fun b _ q _ => q, fun b _ q _ => q⟩
  exact Ae.mono (Sz (g1 := g1) (g2 := g2) (g3 := g3) (n1 := st.places.length) (m1 := st.places.length) (w0 := w0) (W2 := W) hD hN hs4 hg hne (by omega) E0 P2 (fun b h => by rcases h with h | h; (simp only [In] at h; have := E01.size; omega); have := hT b h; omega) st.Ar.length 0 _ W none 0 (by omega) xA xA xA rfl X1 X2 X3 (fun b _ _ => rfl) O.nil E0 (Nat.le_refl _)) hQ
 | succ d ih =>
  intro k e W a' c' hd e1 e2 e3 e4 X1 X2 X3 hk oo E0 hzW
  have zE0 := E0.size
  try simp only [qz] at zE0
  rw [Fo]
  have hlt : k < st.places.length := by omega
  obtain ⟨p, hp', _⟩ := Ak hlt
  have hpc := hch p (List.mem_of_getElem? hp')
  obtain ⟨b5, o5, cs5, rfl, A5, D5, _, _⟩ := hP.at (by show 0 < 6; decide) hp'
  have D6 := D5
  obtain ⟨ac, cc, al, cl, ag, cg, rfl, _, _, _⟩ := D.place.1 D5
  have t0 := A5 0 _ rfl
  have t1 := A5 1 _ rfl
  have t2 := A5 2 _ rfl
  have t3 := A5 3 _ rfl
  have t4 := A5 4 _ rfl
  have t5 := A5 5 _ rfl
  simp only [Bw, DK, Bd, Nat.add_zero] at t0 t1 t2 t3 t4 t5
  simp only [Me] at t0 t1 t2 t3 t4 t5
  have htk : (st.places.take k).length = k := by rw [List.length_take]; omega
  have y1 := Aq X1
  have y2 := Aq X2
  have y3 := Aq X3
  refine Ae.post fun Q hQ => ?_
  simp (disch := first | exact xD | fail) [-Option.bind_some, qs, -Aa, -Ab, qm, e1, e2, e3, e4, X1, X2, X3, hlt, CQ, E0.Ai, t0, t1, t2, t3, t4, t5]
  refine Ae.bind (Su (M := 0) (D6.ext xE) hpc) ?_
  rintro ⟨_, w2⟩ ⟨ds, rfl, o9, E1⟩
  try dsimp only at ds o9 E1
  have zE1 := E1.size
  try simp only [qz] at zE1
  have o9' := o9.d
  obtain ⟨ad, cd, ae, ce, af, cf, rfl, _, _, _⟩ := D.place.1 o9'
  simp only [Ad] at zE1 o9
  have F1 : Ext W w2 := xE
  have N1 := (F1.Ai y1).trans X1
  have N2 := (F1.Ai y2).trans X2
  have N3 := (F1.Ai y3).trans X3
  simp (disch := first | exact xD | fail) [-Option.bind_some, qs, -Aa, -Ab, qm, N1, N2, N3, e1, e2, e3, e4, X1, X2, X3, E0.Ai, hlt, t0, t1, t2, t3, t4, t5, E1.Ai]
  refine Ae.bind (O.app (L := Jf) (mx := 1466015503701) (xs := st.places.take k) (S1 := In W.heap.size w2.heap.size) (x := p) (cs := [i64 p.me, i64 p.clock, .slice ad p.chain.length cd, .slice ae p.log.length ce, .slice af p.Bu.length cf, .bool p.fell]) RM TI rfl (by decide) (oo.ext (F1.al _)) (o9.Aj fun b hb hbl => Ag hbl) (fun b hb h1 h2 => by simp only [In] at h1 h2; omega) (At.nw rfl) (by omega) (by decide) (by decide)) ?_
  rintro ⟨_, w3⟩ ⟨a8, c8, rfl, o8, M8⟩
  have zM8 := M8.size
  try simp only [qz] at zM8
  try dsimp only at o8 M8
  have zM8 := M8.size
  simp only [World.size_alloc] at zM8 o8
  have k8 : ∀ b, b < W1.heap.size → hp w3 b = hp W b := fun b hb => (M8.Ai b xB (fun h => by simp only [In] at h; omega)).trans ((Ag (by omega)).trans (F1.Ai (by omega)))
  have F3 : Ext w0 w3 := Mod.after ((E0.tr F1).al _) M8 (fun b h1 h2 => by have := E01.size; simp only [In] at h2; omega)
  have hts : st.places.take k ++ [p] = st.places.take (k + 1) := by rw [List.take_add_one, hp']; rfl
  rw [htk, hts] at o8
  rw [htk]
  have L1 := (k8 g1 hz.1).trans X1
  have L2 := (k8 g2 hz.2.1).trans X2
  have L3 := (k8 g3 hz.2.2).trans X3
  simp (disch := first | exact xD | fail) [-Option.bind_some, qs, -Aa, -Ab, qm, L3, e4, e1, e2, e3, X1, X2, X3, E0.Ai, hlt, t0, t1, t2, t3, t4, t5, E1.Ai, M8.Ai]
  refine Ae.mono (ih (k + 1) _ _ a8 c8 (by omega) xA xA xA xA ((Ac hne.2.1).trans L1) ((Ac hne.2.2).trans L2) (by first | assumption | rfl | (simp (disch := first | exact xD | fail) [-Option.bind_some, qs, -Aa, -Ab, qm, L3, e1, e2, e3, e4, X1, X2, X3, E0.Ai, hlt, t0, t1, t2, t3, t4, t5, E1.Ai, M8.Ai]; done)) (fun b hb hn => (Ac hn).trans ((k8 b hb).trans (hk b hb hn))) ((o8.Aj fun b hb hbl => Ac ?_).wide ?_) (F3.set hg.2.2 _) (by simp only [size_setRow]; omega)) hQ
  ·rcases hb with h | h | h
   ·simp only [In] at h; omega
   ·simp only [In] at h; omega
   ·omega
  ·intro b hb hbl
   simp only [In, size_setRow] at hb hbl ⊢
   omega
theorem RG {M : Nat} {S : Nat → Prop} {cs : List Value} {st : WorldD} {w : World} (hf : BF M st) (hD : D tW S w cs st) :
  Ae (EV P 75 #[.agg cs.toArray] w) fun r => ∃ cs', r.1 = .agg cs'.toArray ∧ O tW (In w.heap.size r.2.heap.size) r.2 cs' st ∧ Ext w r.2 := by
 obtain ⟨a1, c1, a2, c2, a3, c3, a4, c4, rfl, q1, q2, q3, q4⟩ := D.world.1 hD
 have hh := hf.2.2.2.2.2.2
 refine Ae.post fun Q hQ => ?_
 refine Ae.enter plain mixed (K9 _ _) (by kernel_rfl) (n := 1) (by kernel_rfl) rfl ?_
 simp (disch := first | exact xD | fail) [-Option.bind_some, qs, -Aa, -Ab]
 refine Ae.bind (O.IZ (L := Gi) (mx := 3518437208883) (IY (Bs BR (Bs BR (Bs BR BH)))) GZ Nw rfl (by decide) (O.empty (g := w.heap.size + 1 + 1) (by first | assumption | rfl | (simp (disch := first | exact xD | fail) [-Option.bind_some, qs, -Aa, -Ab]; done))) (q4.ext xE) (by simp; omega) (by decide) (by decide)) ?_
 rintro ⟨_, w2⟩ ⟨a9, c9, rfl, o9, M9⟩
 have zM9 := M9.size
 try simp only [qz] at zM9
 try dsimp only at o9 M9
 simp only [List.nil_append, List.length_nil, Nat.zero_add, World.size_alloc] at o9
 have zM9 := M9.size
 simp only [World.size_alloc] at zM9
 have F1 : Ext w w2 := Mod.after xE M9 (fun b h1 h2 => by have h2 : b = w.heap.size + 1 + 1 := h2; omega)
 have N1 : hp w2 w.heap.size = some (.cells #[.slice a1 st.places.length c1, .slice a2 st.Ar.length c2, .slice a3 st.net.length c3, .slice a4 st.AE.length c4] 77 (0, 0)) := (M9.Ai _ xB (by omega)).trans (by first | assumption | rfl | (simp (disch := first | exact xD | fail) [-Option.bind_some, qs, -Aa, -Ab]; done))
 have N2 : hp w2 (w.heap.size + 1) = some (.cells #[.slice none 0 0, .slice none 0 0, .slice none 0 0, .slice none 0 0] 77 (0, 0)) := (M9.Ai _ xB (by omega)).trans (by first | assumption | rfl | (simp (disch := first | exact xD | fail) [-Option.bind_some, qs, -Aa, -Ab]; done))
 simp (disch := first | exact xD | fail) [-Option.bind_some, -Aa, -Ab, qm, List.length_nil, Nat.zero_add]
 refine Ae.mono (RF (g1 := w.heap.size) (g2 := w.heap.size + 1) (g3 := w2.heap.size) (n4 := st.AE.length) (T4 := In (w.heap.size + 1 + 1) w2.heap.size) (w0 := w) q1 (fun p h => by have := (hf.2.1 p h).1.2.1; omega) q2 q3 (fun s h => (hf.2.2.2.1 s h).2.2.1) (by omega) (by omega) (by simp only [World.size_alloc, size_setRow]; omega) xE ((o9.Aj fun b hb hbl => (Ac (by omega)).trans (Ag hbl)).wide ?_) (fun b h => by simp only [In] at h; simp only [World.size_alloc, size_setRow]; omega) st.places.length 0 _ _ none 0 (by omega) rfl rfl rfl rfl ((Ac (by omega)).trans ((Ag (by omega)).trans N1)) ((Ac (by omega)).trans ((Ag (by omega)).trans N2)) (by first | assumption | rfl | (simp (disch := first | exact xD | fail) [-Option.bind_some, qs, -Aa, -Ab]; done)) (fun b _ _ => rfl) O.nil xE (Nat.le_refl _)) hQ
 intro b hb hbl
 simp only [In]
 rcases hb with h | h
 ·have h : b = w.heap.size + 1 + 1 := h
  omega
 ·omega
theorem PF {B g p : Nat} (hp0 : p ≤ 300000000000) {w : World} (hr : R w B g p) :
  Ae (EV P 43 #[pt g 0] w) fun r => ∃ (cs : List Value) (st : WorldD) (p' : Nat), r.1 = .agg cs.toArray ∧ BF 1000 st ∧ O tW (fun b => w.heap.size ≤ b) r.2 cs st ∧ p' ≤ 700000000000 ∧ R r.2 B g p' ∧ Mod (fun b => b = g) w r.2 := by
 have hl := hr.lt
 refine Ae.post fun Q hQ => ?_
 refine Ae.enter plain mixed (Jg _ _) (by kernel_rfl) (n := 1) (by kernel_rfl) rfl ?_
 simp (disch := first | exact xD | fail) [-Option.bind_some, -Aa, -Ab]
 refine Ae.bind (Q0 (by omega) (hr.ext xE)) ?_
 rintro ⟨_, w1⟩ ⟨m, sN, a, c, p1, evs, hm, hsN, rfl, o1, hx, hp1, R1, M1⟩
 have zM1 := M1.size
 try simp only [qz] at zM1
 try dsimp only at o1 R1 M1
 have zM1 := M1.size
 simp only [World.size_alloc] at zM1
 have N0 : hp w1 w.heap.size = some (.cells #[.slice none 0 0, .slice none 0 0, .slice none 0 0, .slice none 0 0] 77 (0, 0)) := (M1.Ai _ xB (by omega)).trans (by first | assumption | rfl | (simp (disch := first | exact xD | fail) [-Option.bind_some, qs, -Aa, -Ab]; done))
 simp (disch := first | exact xD | fail) [-Option.bind_some, qs, -Aa, -Ab]
 refine Ae.bind (So hm hsN o1.d hx) ?_
 rintro ⟨_, w2⟩ ⟨cs2, st2, rfl, f2, o2, E2⟩
 try dsimp only at cs2 st2 f2 o2 E2
 have zE2 := E2.size
 try simp only [qz] at zE2
 simp (disch := first | exact xD | fail) [-Option.bind_some, -Aa, -Ab]
 refine Ae.bind (RG f2 o2.d) ?_
 rintro ⟨_, w3⟩ ⟨cs3, rfl, o3, E3⟩
 try dsimp only at cs3 o3 E3
 have zE3 := E3.size
 try simp only [qz] at zE3
 obtain ⟨u5, l5, d5, u6, l6, d6, u7, l7, d7, u8, l8, d8, rfl⟩ := o3.BX
 have N3 : hp w3 w.heap.size = _ := (E3.Ai (by omega)).trans ((E2.Ai (by omega)).trans N0)
 simp (disch := first | exact xD | fail) [-Option.bind_some, -Aa, -Ab, qm, N3]
 refine hQ _ ⟨_, st2, p1, rfl, f2, (o3.Aj fun b hb hbl => Ac (by simp only [In] at hb; omega)).wide fun b hb _ => by simp only [In] at hb; omega, hp1, ((R1.ext E2).ext E3).Aj (fun b h _ => Ac (by omega)), ?_⟩
 have Ma : Mod (fun b => b = g) w w1 := Mod.tr xM M1
 exact ((Ma.ex E2).ex E3).AL (.inl (Nat.le_refl _)) _
end Go.Proofs.YtjhhommnkaemlaaGreat.X
