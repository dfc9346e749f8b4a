/- A part of the proof, without conditions. -/
import Derived.Test.YtjhhommnkaemlaaGreatEvWo
import Derived.Test.YtjhhommnkaemlaaGreatD31
import Derived.Test.YtjhhommnkaemlaaGreatD21
set_option linter.unusedVariables false
set_option linter.unusedSimpArgs false
set_option linter.deprecated false
set_option maxRecDepth 100000
set_option maxHeartbeats 1000000
namespace Go.Proofs.YtjhhommnkaemlaaGreat.X
open Go Go.Ev Go.RowKit
theorem Kd : ∀ {xs ys : List Ver}, xs.length = ys.length → AG (CR xs ys) = BT (AG xs) (AG ys)
 | [], [], _ => rfl
 | x :: xs, y :: ys, h => by
  have ih := Kd (xs := xs) (ys := ys) (by simpa using h)
  unfold AG at ih ⊢
  rw [CR, List.map_cons, List.map_cons, List.map_cons, BT, ih, CK]
  cases AH x.tag y.tag <;> rfl
 | [], _ :: _, h => by simp at h
 | _ :: _, [], h => by simp at h
theorem Ij : ∀ {p q r : List Tag}, under p q = true → Pw q r → under p r = true
 | [], _, r, _, _ => by cases r <;> rfl
 | _ :: _, [], [], _, _ => rfl
 | a :: p, b :: q, c :: r, h, k => by
  rw [under, Bool.and_eq_true, Bool.not_eq_true'] at h ⊢
  exact ⟨Nu.2 ((Nu.1 h.1).trans k.1), Ij h.2 k.2⟩
 | _ :: _, [], _ :: _, _, k => k.elim
 | _ :: _, _ :: _, [], _, k => k.elim
theorem MR : ∀ {xs ys : List Ver} {z : Ver}, z ∈ CR xs ys → z ∈ xs ∨ z ∈ ys
 | x :: xs, y :: ys, z, h => by
  rw [CR] at h
  rcases List.mem_cons.1 h with rfl | h
  ·cases AH x.tag y.tag
   ·exact .inl List.mem_cons_self
   ·exact .inr List.mem_cons_self
  ·rcases MR h with h | h
   ·exact .inl (List.mem_cons_of_mem _ h)
   ·exact .inr (List.mem_cons_of_mem _ h)
 | [], _, z, h => by simp [CR] at h
 | _ :: _, [], z, h => by simp [CR] at h
theorem Ol {xs ys : List Ver} (h : closed xs = true) (k : closed ys = true) : closed (CR xs ys) = true := by
 simp only [closed, Bool.and_eq_true, List.all_eq_true] at h k ⊢
 have lx := (Ct.1 h.1).2
 have ly := (Ct.1 k.1).2
 refine ⟨RH h.1 k.1, fun z hz => ?_⟩
 have hl : (AG xs).length = (AG ys).length := by simp only [AG, List.length_map]; omega
 rw [Kd (by omega)]
 unfold Bo
 rcases MR hz with hz | hz
 ·have := h.2 z hz
  unfold Bo at this
  rw [Bool.or_eq_true] at this ⊢
  exact this.imp_right fun h => Ij h (Pw.QD hl)
 ·have := k.2 z hz
  unfold Bo at this
  rw [Bool.or_eq_true] at this ⊢
  exact this.imp_right fun h => Ij h (Pw.QE hl)
theorem O8 : closed (List.replicate 4 Rm) = true := by decide +kernel
theorem Om {vs : List Ver} (h : closed vs = true) {v : Ver} {k : Nat} (hv : vs[k]? = some v) (ht : 0 < v.tag.t) : (BS v.past && BS (AG vs) && under v.past (AG vs)) = true := by
 simp only [closed, Bool.and_eq_true, List.all_eq_true] at h
 have hs := Go.Ev.C7 (Ct.1 h.1).1 hv
 have hz : v.tag ≠ Tag.zero := fun e => by rw [e] at ht; exact absurd ht (by decide)
 rw [LS hz, Bool.and_eq_true] at hs
 have hok := hs.1
 simp only [BF, Ef, Bool.and_eq_true] at hok
 have hc := h.2 v (List.mem_of_getElem? hv)
 unfold Bo at hc
 rw [Bool.or_eq_true, beq_iff_eq] at hc
 rw [hok.1.2.2.2, Sy h.1, hc.resolve_left hz]; rfl
theorem GR {sc c5 c7 g5 g7 : Nat} {s2 : Value} {ns2 : List Int} {a5 sa a7 : Option Addr} {vs : List Ver} {w0 : World} (hs2 : CZ w0 s2 ns2) (hn2 : ns2.length ≤ 1000000000000) (hc : closed vs = true) :
  ∀ (d k : Nat) (e : Env) (w : World), k + d = 4 → e 1 = s2 → e 5 = pt g5 0 → e 7 = pt g7 0 → e 8 = i64 k → hp w g5 = some (.cells #[.slice a5 4 c5] 44 (0, 0)) → hp w g7 = some (.cells #[.slice a7 4 c7] 32 (0, 0)) →
   (∃ S5, D AB S5 w [.slice a5 4 c5] vs) → AM w (.slice a7 4 c7) (AG vs) → Ext w0 w → Ag (BE e w) fun r => r.1 = .bool true ∧ Ext w0 r.2 := by
 have hvs4 : vs.length = 4 := by
  simp only [closed, Bool.and_eq_true] at hc
  exact (Ct.1 hc.1).2
 have hsok : Bd vs = true := by
  simp only [closed, Bool.and_eq_true] at hc
  exact hc.1
 intro d
 induction d with
 | zero =>
  intro k e w hd e1 e5 e7 e8 X5 X7 h5 h7 E0
  have zE0 := E0.size
  try simp only [qz] at zE0
  rw [CL]
  obtain rfl : k = 4 := by omega
  obtain ⟨S5, h5⟩ := h5
  have y5 := Aq X5
  refine Ag.post fun Q hQ => ?_
  simp (disch := first | exact xD | fail) [-Option.bind_some, qs, -Aa, -Ab, qm, e1, e5, e7, e8, X5, X7, E0.Ah]
  refine Ag.bind (Fw (hs2.mono (Ext.Ak E0)) hn2) ?_
  rintro ⟨_, w1⟩ ⟨a1, c1, ys, rfl, ha, E1⟩
  have zE1 := E1.size
  try simp only [qz] at zE1
  try dsimp only at ha E1
  have zE1 := E1.size
  have N5 := (E1.Ah y5).trans X5
  simp (disch := first | exact xD | fail) [-Option.bind_some, qs, -Aa, -Ab, qm, N5, e1, e5, e7, e8, X5, X7, E0.Ah, E1.Ah]
  refine Ag.bind (KD _) ?_
  rintro ⟨_, w2⟩ ⟨a2, c2, rfl, o2, E2⟩
  try dsimp only at a2 c2 o2 E2
  have zE2 := E2.size
  try simp only [qz] at zE2
  simp (disch := first | exact xD | fail) [-Option.bind_some, qs, -Aa, -Ab, qm, e1, e5, e7, e8, X5, X7, E0.Ah, E1.Ah, E2.Ah]
  refine Ag.bind (B7 o2.d.Bn) ?_
  rintro ⟨_, w3⟩ ⟨rfl, E3⟩
  have zE3 := E3.size
  try simp only [qz] at zE3
  try dsimp only at E3
  rw [O8]
  have XT : hp w3 w1.heap.size = some (.cells #[.slice a1 ys.length c1] 44 (0, 0)) := (E3.Ah (by omega)).trans ((E2.Ah (by simp only [World.size_alloc, size_setRow]; omega)).trans (by first | assumption | rfl | (simp (disch := first | exact xD | fail) [-Option.bind_some, qs, -Aa, -Ab, qm, e1, e5, e7, e8, X5, X7, E0.Ah, E1.Ah, E2.Ah, E3.Ah]; done)))
  have F13 : Ext w1 w3 := by
   refine Ext.tr ?_ E3
   exact Ext.tr xE E2
  have zF := F13.size
  have N5' := (F13.Ah (by omega)).trans N5
  simp (disch := first | exact xD | fail) [-Option.bind_some, qs, -Aa, -Ab, qm, XT, e1, e5, e7, e8, X5, X7, E0.Ah, E1.Ah, E2.Ah, E3.Ah]
  refine Ag.bind (B7 (ha.ext xE).Bn) ?_
  rintro ⟨_, w4⟩ ⟨rfl, E4⟩
  have zE4 := E4.size
  try simp only [qz] at zE4
  try dsimp only at E4
  have XT4 := (E4.Ah (Aq XT)).trans XT
  have N54 := (E4.Ah (Aq N5')).trans N5'
  cases hcy : closed ys
  ·simp (disch := first | exact xD | fail) [-Option.bind_some, qs, -Aa, -Ab, qm, XT4, N54, e1, e5, e7, e8, X5, X7, E0.Ah, E1.Ah, E2.Ah, E3.Ah, E4.Ah]
   exact hQ _ ⟨rfl, xE⟩
  ·have hjs : BB vs ys = CR vs ys := by
    simp only [closed, Bool.and_eq_true] at hcy
    rw [BB, if_pos (by rw [hsok, hcy.1]; rfl)]
   simp (disch := first | exact xD | fail) [-Option.bind_some, qs, -Aa, -Ab, qm, XT4, N54, e1, e5, e7, e8, X5, X7, E0.Ah, E1.Ah, E2.Ah, E3.Ah, E4.Ah]
   have F14 : Ext w w4 := (E1.tr F13).tr E4
   refine Ag.bind (J5 (h5.ext F14) (ha.ext (F13.tr E4))) ?_
   rintro ⟨_, w5⟩ ⟨a7, c7, rfl, o7, E5⟩
   have zE5 := E5.size
   try simp only [qz] at zE5
   try dsimp only at o7 E5
   simp (disch := first | exact xD | fail) [-Option.bind_some, qs, -Aa, -Ab, qm, e1, e5, e7, e8, X5, X7, E0.Ah, E1.Ah, E2.Ah, E3.Ah, E4.Ah, E5.Ah]
   refine Ag.bind (B7 o7.d.Bn) ?_
   rintro ⟨_, w6⟩ ⟨rfl, E6⟩
   have zE6 := E6.size
   try simp only [qz] at zE6
   try dsimp only at E6
   rw [hjs, Ol hc hcy]
   simp (disch := first | exact xD | fail) [-Option.bind_some, qs, -Aa, -Ab, qm, e1, e5, e7, e8, X5, X7, E0.Ah, E1.Ah, E2.Ah, E3.Ah, E4.Ah, E5.Ah, E6.Ah]
   exact hQ _ ⟨rfl, xE⟩
 | succ d ih =>
  intro k e w hd e1 e5 e7 e8 X5 X7 h5 h7 E0
  have zE0 := E0.size
  try simp only [qz] at zE0
  rw [CL]
  have hk4 : k < 4 := by omega
  have hk4I : (k : Int) < 4 := by omega
  have hkl : k < vs.length := by omega
  obtain ⟨v, hv, _⟩ := Am hkl
  obtain ⟨S5, h5⟩ := h5
  have h5' := h5
  obtain ⟨b1, o1, cs1, rfl, A1, D1, _, l1⟩ := h5'.at (by decide) hv
  obtain ⟨a6, c6, rfl, hp6, ht6⟩ := D.Bv.1 D1
  have p0 := A1 0 _ rfl
  have p1 := A1 1 _ rfl
  have p2 := A1 2 _ rfl
  have p3 := A1 3 _ rfl
  have p4 := A1 4 _ rfl
  have p5 := A1 5 _ rfl
  simp only [AX, Cs, AO, Nat.add_zero] at p0 p1 p2 p3 p4 p5
  have y5 := Aq X5
  have y7 := Aq X7
  refine Ag.post fun Q hQ => ?_
  cases hb : decide (0 < v.tag.t)
  ·simp (disch := first | exact xD | fail) [-Option.bind_some, qs, -Aa, -Ab, qm, AW, hk4, hk4I, hb, e1, e5, e7, e8, X5, X7, E0.Ah, p0, p1, p2, p3, p4, p5]
   have F1 : Ext w (Go.Ev.dw w) := Cc w
   exact Ag.mono (ih (k + 1) _ _ (by omega) xA xA xA xA ((F1.Ah y5).trans X5) ((F1.Ah y7).trans X7) ⟨_, h5.ext F1⟩ (h7.mono (Ext.Ak F1)) (E0.tr F1)) hQ
  ·have hcp := Om hc hv (by simpa using hb)
   simp (disch := first | exact xD | fail) [-Option.bind_some, qs, -Aa, -Ab, qm, AW, hk4, hk4I, hb, e1, e5, e7, e8, X5, X7, E0.Ah, p0, p1, p2, p3, p4, p5]
   refine Ag.bind (Jf (hp6.ext xE).AM (h7.mono (Ext.Ak xE))) ?_
   rintro ⟨_, w1⟩ ⟨rfl, E1⟩
   have zE1 := E1.size
   try simp only [qz] at zE1
   try dsimp only at E1
   rw [hcp]
   have F1 : Ext w w1 := xE
   simp (disch := first | exact xD | fail) [-Option.bind_some, qs, -Aa, -Ab, qm, e1, e5, e7, e8, X5, X7, E0.Ah, p0, p1, p2, p3, p4, p5, E1.Ah]
   exact Ag.mono (ih (k + 1) _ _ (by omega) xA xA xA xA ((F1.Ah y5).trans X5) ((F1.Ah y7).trans X7) ⟨_, h5.ext F1⟩ (h7.mono (Ext.Ak F1)) xE) hQ
theorem GS {s s2 : Value} {ns ns2 : List Int} {w : World} (hs : CZ w s ns) (hs2 : CZ w s2 ns2) : Ag (EV P 7 #[s, s2] w) fun r => r.1 = .bool true ∧ Ext w r.2 := by
 have hs' := hs
 have hs2' := hs2
 obtain ⟨a, c, rfl, q2, q3, q4, q5⟩ := hs
 obtain ⟨b, d, rfl, q6, q7, q8, q9⟩ := hs2
 refine Ag.post fun Q hQ => ?_
 refine Ag.enter plain mixed (Gy _ _ _) (by kernel_rfl) (n := 2) (by kernel_rfl) rfl ?_
 by_cases hl : 1048576 < ns.length
 ·simp (disch := first | exact xD | fail) [-Option.bind_some, qs, -Aa, -Ab, qm, show (1048576 : Int) < ns.length by omega]
  exact hQ _ ⟨rfl, xE⟩
 by_cases hl2 : 1048576 < ns2.length
 ·simp (disch := first | exact xD | fail) [-Option.bind_some, qs, -Aa, -Ab, qm, show ¬ (1048576 : Int) < ns.length by omega, show (1048576 : Int) < ns2.length by omega]
  exact hQ _ ⟨rfl, xE⟩
 simp (disch := first | exact xD | fail) [-Option.bind_some, qs, -Aa, -Ab, qm, show ¬ (1048576 : Int) < ns.length by omega, show ¬ (1048576 : Int) < ns2.length by omega]
 refine Ag.bind (Fw hs' (by omega)) ?_
 rintro ⟨_, w1⟩ ⟨a1, c1, vs, rfl, ha, E1⟩
 have zE1 := E1.size
 try simp only [qz] at zE1
 try dsimp only at ha E1
 have zE1 := E1.size
 simp (disch := first | exact xD | fail) [-Option.bind_some, qs, -Aa, -Ab, qm, E1.Ah]
 refine Ag.bind (B7 (ha.ext xE).Bn) ?_
 rintro ⟨_, w2⟩ ⟨rfl, E2⟩
 have zE2 := E2.size
 try simp only [qz] at zE2
 try dsimp only at E2
 have zE2 := E2.size
 simp only [World.size_alloc, size_setRow] at zE2
 have X5 : hp w2 w1.heap.size = some (.cells #[.slice a1 vs.length c1] 44 (0, 0)) := (E2.Ah (by simp only [World.size_alloc, size_setRow]; omega)).trans (by first | assumption | rfl | (simp (disch := first | exact xD | fail) [-Option.bind_some, qs, -Aa, -Ab, qm, E1.Ah, E2.Ah]; done))
 have F12 : Ext w1 w2 := xE
 simp (disch := first | exact xD | fail) [-Option.bind_some, qs, -Aa, -Ab, qm, X5, E1.Ah, E2.Ah]
 refine Ag.bind (EK (ha.ext F12).Bn) ?_
 rintro ⟨_, w3⟩ ⟨rfl, E3⟩
 have zE3 := E3.size
 try simp only [qz] at zE3
 try dsimp only at E3
 have X53 := (E3.Ah (Aq X5)).trans X5
 have F13 : Ext w1 w3 := F12.tr E3
 cases hcv : closed vs
 ·simp (disch := first | exact xD | fail) [-Option.bind_some, qs, -Aa, -Ab, qm, X53, E1.Ah, E2.Ah, X5, E3.Ah]
  refine Ag.bind (EK (ha.ext F13).Bn) ?_
  rintro ⟨_, w4⟩ ⟨rfl, E4⟩
  have zE4 := E4.size
  try simp only [qz] at zE4
  try dsimp only at E4
  rw [hcv]
  simp (disch := first | exact xD | fail) [-Option.bind_some, qs, -Aa, -Ab, qm, E1.Ah, E2.Ah, X5, E3.Ah, X53, E4.Ah]
  exact hQ _ ⟨rfl, xE⟩
 ·have hsok : Bd vs = true := by
   simp only [closed, Bool.and_eq_true] at hcv
   exact hcv.1
  have hvs4 : vs.length = 4 := (Ct.1 hsok).2
  simp (disch := first | exact xD | fail) [-Option.bind_some, qs, -Aa, -Ab, qm, X53, E1.Ah, E2.Ah, X5, E3.Ah]
  refine Ag.bind (J4 (ha.ext F13).Bn) ?_
  rintro ⟨_, w4⟩ ⟨s7, rfl, f7, E4⟩
  have zE4 := E4.size
  try simp only [qz] at zE4
  try dsimp only at f7 E4
  rw [hsok, if_pos rfl] at f7
  have f7r := f7.r
  have f7r' := f7r
  obtain ⟨a7, c7, hs7, _⟩ := f7r'.len
  subst hs7
  have htl : (AG vs).length = 4 := by simp only [AG, List.length_map]; exact hvs4
  rw [htl] at f7r ⊢
  have X54 := (E4.Ah (Aq X53)).trans X53
  rw [hvs4] at X54
  have d5 : D AB (fun b => w.heap.size ≤ b) w4 [.slice a1 4 c1] vs := by have := ha.ext (F13.tr E4); rwa [hvs4] at this
  have y5 := Aq X54
  simp (disch := first | exact xD | fail) [-Option.bind_some, qs, -Aa, -Ab, qm, E1.Ah, E2.Ah, X5, E3.Ah, X53, E4.Ah, X54]
  have F4 : Ext w w4 := (E1.tr F13).tr E4
  refine Ag.mono (GR (sc := 0) (sa := none) (g5 := w1.heap.size) (g7 := w4.heap.size) hs2' (by omega) hcv 4 0 _ _ (by omega) xA xA xA xA ?_ ?_ ⟨_, d5.ext xE⟩ (f7r.mono (Ext.Ak xE)) xE) ?_
  ·exact (by first | assumption | rfl | (simp (disch := first | exact xD | fail) [-Option.bind_some, qs, -Aa, -Ab, qm, X54, E1.Ah, E2.Ah, X5, E3.Ah, X53, E4.Ah]; done))
  ·exact (by first | assumption | rfl | (simp (disch := first | exact xD | fail) [-Option.bind_some, qs, -Aa, -Ab, qm, E1.Ah, E2.Ah, X5, E3.Ah, X53, E4.Ah, X54]; done))
  ·rintro r ⟨h1, h2⟩
   exact hQ _ ⟨h1, h2⟩
end Go.Proofs.YtjhhommnkaemlaaGreat.X
