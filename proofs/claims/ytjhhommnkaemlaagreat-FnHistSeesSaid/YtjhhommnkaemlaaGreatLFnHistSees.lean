/- A part of the proof: an evaluator of the model, its laws, and contracts of functions; no condition. -/
import Derived.Test.YtjhhommnkaemlaaGreatEvHp
import Derived.Test.YtjhhommnkaemlaaGreatD30
import Derived.Test.YtjhhommnkaemlaaGreatS0
set_option linter.unusedVariables false
set_option linter.unusedSimpArgs false
set_option linter.deprecated false
set_option maxRecDepth 100000
set_option maxHeartbeats 1000000
namespace Go.Proofs.YtjhhommnkaemlaaGreat.X
open Go Go.Ev Go.RowKit
theorem O9 : ∀ (l : List Done) (b : Book) (k : Nat), (CG b (l.take k)).2 = min (CG b l).2 k
 | [], b, k => by rw [List.take_nil]; show 0 = min 0 k; omega
 | d :: l, b, 0 => by rw [List.take_zero]; show 0 = min _ 0; omega
 | d :: l, b, k + 1 => by
  rw [List.take_succ_cons]
  cases h : Bb b d with
  | none => rw [Ca h, Ca h]; show 0 = min 0 (k + 1); omega
  | some b' =>
   rw [BC h, BC h]
   show (CG b' (l.take k)).2 + 1 = min ((CG b' l).2 + 1) (k + 1)
   rw [O9 l b' k]; omega
theorem PT {l : List Done} (k : Nat) (h : CL l = true) : CL (l.take k) = true := by
 simp only [CL, Bool.and_eq_true, List.all_eq_true, decide_eq_true_eq] at h ⊢
 exact ⟨fun x hx => h.1 x (List.mem_of_mem_take hx), by rw [List.length_take]; omega⟩
theorem RO {l : List Done} {k : Nat} (h : CL l = true) (hk : k ≤ l.length) : OK (l.take k) = decide (k ≤ (CG AR l).2) := by
 rw [OK, PT k h, O9, List.length_take, Bool.true_and]
 apply decide_eq_decide.2
 omega
theorem NF {xs : List Done} {s : Int} (h : OK xs = true) (h0 : 0 ≤ s) (h3 : s ≤ 3) : BG xs s = vw (CG AR xs).1 s ∧ (BG xs s).length = 4 := by
 have hf := (IJ.1 h).1
 simp only [CL, Bool.and_eq_true] at hf
 have hb := NX xs AR Hk hf.1
 have e : BG xs s = vw (CG AR xs).1 s := by
  unfold BG vw
  rw [if_pos (by rw [h]; simp only [Bool.true_and, Bool.and_eq_true, decide_eq_true_eq]; exact ⟨h0, h3⟩)]
 rw [e]
 exact ⟨rfl, (Oi hb h0 h3).2⟩
theorem QW {xs : List Done} {s : Int} (h : ¬ (OK xs = true ∧ 0 ≤ s ∧ s ≤ 3)) : BG xs s = [] := by
 unfold BG
 rw [if_neg]
 simpa only [Bool.and_eq_true, decide_eq_true_eq] using h
theorem TQ {b : Book} (hb : b.Ok) (hg : b.Tg) {s : Int} (h0 : 0 ≤ s) (h3 : s ≤ 3) : CR (vw b s) = true := by
 have h := Oi hb h0 h3
 unfold CR
 rw [Bool.and_eq_true, List.all_eq_true, beq_iff_eq]
 exact ⟨fun t ht => hg.v _ (List.mem_of_getElem? h.1) t ht, h.2⟩
theorem I1 {a a7 a8 : Option Addr} {c c7 c8 m8 g7 g8 : Nat} {S : Nat → Prop} {xs : List Done} {s : Int} {p q : List Tag} {w0 : World} (hp4 : p.length = 4) (hall : xs.all B9 = true) (BK : ∀ d ∈ xs, d.Ar = s → d.kind ≠ 1 → AE (p.getD d.key.toNat ⟨0, 0⟩) d.tag = false) (hcut : (CR q && CR p && under q p) = true)
  (ha : D AV S w0 [.slice a xs.length c] xs) :
  ∀ (d k : Nat) (e : Env) (w : World), k + d = xs.length → e 5 = .slice a xs.length c → e 6 = i64 s → e 7 = pt g7 0 → e 8 = pt g8 0 → e 9 = i64 k → hp w g7 = some (.cells #[.slice a7 4 c7] 32 (0, 0)) → hp w g8 = some (.cells #[.slice a8 m8 c8] 32 (0, 0)) →
   (∃ S7, D AH S7 w [.slice a7 4 c7] p) → (∃ S8, D AH S8 w [.slice a8 m8 c8] q) → Ext w0 w → Af (BB e w) fun r => r.1 = .bool true ∧ Ext w0 r.2 := by
 have hn := ha.n
 intro d
 induction d with
 | zero =>
  intro k e w hd e5 e6 e7 e8 e9 X7 X8 h7 h8 E0
  have zE0 := E0.size
  try simp only [qz] at zE0
  rw [DN]
  obtain rfl : k = xs.length := by omega
  obtain ⟨S7, h7⟩ := h7
  obtain ⟨S8, h8⟩ := h8
  have y7 := Aq X7
  have y8 := Aq X8
  refine Af.post fun Q hQ => ?_
  simp (disch := first | exact xD | fail) [-Option.bind_some, qs, -Aa, -Ab, qm, e5, e6, e7, e8, e9, X7, X8, E0.Ai]
  refine Af.bind (IU (h8.ext xE).AN (h7.ext xE).AN) ?_
  rintro ⟨_, w1⟩ ⟨rfl, E1⟩
  have zE1 := E1.size
  try simp only [qz] at zE1
  try dsimp only at E1
  rw [hcut]
  simp (disch := first | exact xD | fail) [-Option.bind_some, qs, -Aa, -Ab, qm, e5, e6, e7, e8, e9, X7, X8, E0.Ai, E1.Ai]
  exact hQ _ ⟨rfl, xE⟩
 | succ d ih =>
  intro k e w hd e5 e6 e7 e8 e9 X7 X8 h7 h8 E0
  have zE0 := E0.size
  try simp only [qz] at zE0
  rw [DN]
  have hlt : k < xs.length := by omega
  obtain ⟨x, hx, hdx⟩ := Al hlt
  have hox := BH.1 (List.all_eq_true.1 hall x (List.mem_of_getElem? hx))
  obtain ⟨b1, o1, cs1, rfl, A1, D1, _, l1⟩ := (ha.ext E0).at (by decide) hx
  obtain rfl := D.done.1 D1
  simp only [EC] at A1
  have p0 := A1 0 _ rfl
  have p1 := A1 1 _ rfl
  have p2 := A1 2 _ rfl
  have p3 := A1 3 _ rfl
  have p4 := A1 4 _ rfl
  simp only [Bp, CV, A0, Nat.add_zero] at p0 p1 p2 p3 p4
  have y7 := Aq X7
  have y8 := Aq X8
  have next : ∀ e' w', e' 5 = .slice (some ⟨b1, o1, none⟩) xs.length c → e' 6 = i64 s → e' 7 = pt g7 0 → e' 8 = pt g8 0 → e' 9 = i64 ((k : Int) + 1) → Ext w w' → Af (BB e' w') fun r => r.1 = .bool true ∧ Ext w0 r.2 := fun e' w' f5 f6 f7 f8 f9 F =>
   ih (k + 1) e' w' (by omega) f5 f6 f7 f8 f9 ((F.Ai y7).trans X7) ((F.Ai y8).trans X8) (by obtain ⟨S7, h⟩ := h7; exact ⟨S7, h.ext F⟩) (by obtain ⟨S8, h⟩ := h8; exact ⟨S8, h.ext F⟩) (E0.tr F)
  refine Af.post fun Q hQ => ?_
  cases hc1 : (x.Ar == s)
  ·simp (disch := first | exact xD | fail) [-Option.bind_some, qs, -Aa, -Ab, qm, Ci, hc1, show (k : Int) < xs.length by omega, e5, e6, e7, e8, e9, X7, X8, E0.Ai, hlt, p0, p1, p2, p3, p4]
   refine Af.mono (next _ _ xA xA xA xA xA xE) hQ
  cases hc2 : (x.kind != 1)
  ·simp (disch := first | exact xD | fail) [-Option.bind_some, qs, -Aa, -Ab, qm, Ci, hc1, hc2, show (k : Int) < xs.length by omega, e5, e6, e7, e8, e9, X7, X8, E0.Ai, hlt, p0, p1, p2, p3, p4]
   refine Af.mono (next _ _ xA xA xA xA xA xE) hQ
  have hsee := BK x (List.mem_of_getElem? hx) (by simpa using hc1) (by simpa using hc2)
  obtain ⟨j, hj⟩ := Int.eq_ofNat_of_zero_le hox.2.2.1.1
  have hj4 : j < p.length := by omega
  obtain ⟨y, hy, _⟩ := Al hj4
  obtain ⟨S7, h7⟩ := h7
  obtain ⟨b2, o2, cs2, rfl, A2, D2, _, l2⟩ := h7.at (by decide) hy
  obtain rfl := D.tag.1 D2
  simp only [CV] at A2
  have q0 := A2 0 _ rfl
  have q1 := A2 1 _ rfl
  simp only [Bp, CV, A0, Nat.add_zero] at q0 q1
  have hyd : p.getD j ⟨0, 0⟩ = y := by rw [List.getD_eq_getElem?_getD, hy, Option.getD_some]
  rw [hj, Int.toNat_natCast, hyd] at hsee
  rw [hj] at p2
  have hj4' : (j : Int) < 4 := by omega
  have hj4n : j < 4 := by omega
  simp (disch := first | exact xD | fail) [-Option.bind_some, qs, -Aa, -Ab, qm, Ci, DL, hc1, hc2, hj4', hj4n, show (k : Int) < xs.length by omega, e5, e6, e7, e8, e9, X7, X8, E0.Ai, hlt, p0, p1, p2, p3, p4, q0, q1]
  refine Af.bind (Cp y x.tag _) ?_
  rintro ⟨_, w1⟩ ⟨rfl, E1⟩
  have zE1 := E1.size
  try simp only [qz] at zE1
  try dsimp only at E1
  rw [hsee]
  have F1 : Ext w w1 := xE
  have f0 : Bj (hp w1 b1) (o1 + k * 5) = some (i64 x.Ar) := by rw [F1.Ai l1]; exact p0
  simp (disch := first | exact xD | fail) [-Option.bind_some, qs, -Aa, -Ab, qm, e5, e6, e7, e8, e9, X7, X8, E0.Ai, hlt, p0, p1, p2, p3, p4, q0, q1, E1.Ai]
  refine Af.mono (next _ _ xA xA xA xA xA xE) hQ
theorem I2 {s s2 : Value} {ns ns2 : List Int} {w : World} (hs : Dw w s ns) (hs2 : Dw w s2 ns2) : Af (EV P 6 #[s, s2] w) fun r => r.1 = .bool true ∧ Ext w r.2 := by
 have hs' := hs
 obtain ⟨a, c, rfl, q2, q3, q4, q5⟩ := hs
 obtain ⟨b, d, rfl, q6, q7, q8, q9⟩ := hs2
 refine Af.post fun Q hQ => ?_
 refine Af.enter plain mixed (Im _ _ _) (by kernel_rfl) (n := 2) (by kernel_rfl) rfl ?_
 by_cases hl : 1048576 < ns.length
 ·simp (disch := first | exact xD | fail) [-Option.bind_some, qs, -Aa, -Ab, qm, show (1048576 : Int) < ns.length by omega]
  exact hQ _ ⟨rfl, xE⟩
 by_cases hl2 : 1048576 < ns2.length
 ·simp (disch := first | exact xD | fail) [-Option.bind_some, qs, -Aa, -Ab, qm, show ¬ (1048576 : Int) < ns.length by omega, show (1048576 : Int) < ns2.length by omega]
  exact hQ _ ⟨rfl, xE⟩
 simp (disch := first | exact xD | fail) [-Option.bind_some, qs, -Aa, -Ab, qm, show ¬ (1048576 : Int) < ns.length by omega, show ¬ (1048576 : Int) < ns2.length by omega]
 refine Af.bind (Lb hs' (by omega)) ?_
 rintro ⟨_, w1⟩ ⟨a1, c1, xs, s, rfl, hs0, hs4, hx, ha, E1⟩
 have zE1 := E1.size
 try simp only [qz] at zE1
 try dsimp only at ha E1
 have zE1 := E1.size
 simp (disch := first | exact xD | fail) [-Option.bind_some, qs, -Aa, -Ab, qm, E1.Ai]
 refine Af.bind (GC (s := s) ha) ?_
 rintro ⟨_, w2⟩ ⟨a2, c2, rfl, o2, E2⟩
 have zE2 := E2.size
 try simp only [qz] at zE2
 try dsimp only at o2 E2
 have zE2 := E2.size
 simp (disch := first | exact xD | fail) [-Option.bind_some, qs, -Aa, -Ab, qm, E1.Ai, E2.Ai]
 have d2 := o2.d
 obtain ⟨p, hp'⟩ : ∃ p, BG xs s = p := ⟨_, rfl⟩
 rw [hp'] at d2 ⊢
 refine Af.bind (GF (s := s) (ha.ext xE) hx.2) ?_
 rintro ⟨_, w3⟩ ⟨a3, c3, S3, rfl, d3, hS3, E3⟩
 have zE3 := E3.size
 try simp only [qz] at zE3
 try dsimp only at d3 E3
 have zE3 := E3.size
 simp only [World.size_alloc, Ac, size_setRow] at zE3
 rw [hp'] at d3 ⊢
 have X7 : hp w3 w2.heap.size = some (.cells #[.slice a2 p.length c2] 32 (0, 0)) := (E3.Ai (by simp only [World.size_alloc, size_setRow, Ac]; omega)).trans (by first | assumption | rfl | (simp (disch := first | exact xD | fail) [-Option.bind_some, qs, -Aa, -Ab, qm, E1.Ai, E2.Ai, E3.Ai]; done))
 have F23 : Ext w2 w3 := xE
 simp (disch := first | exact xD | fail) [-Option.bind_some, qs, -Aa, -Ab, qm, X7, E1.Ai, E2.Ai, E3.Ai]
 refine Af.bind (HP (d2.ext xE) d3) ?_
 rintro ⟨_, w4⟩ ⟨rfl, E4⟩
 try dsimp only at E4
 have zE4 := E4.size
 try simp only [qz] at zE4
 have X7 : hp w4 w2.heap.size = some (.cells #[.slice a2 p.length c2] 32 (0, 0)) := (E4.Ai (Aq X7)).trans X7
 by_cases hok : OK xs = true ∧ 0 ≤ s ∧ s ≤ 3
 ·have hsm := NF hok.1 hok.2.1 hok.2.2
  rw [hp'] at hsm
  have hf := (IJ.1 hok.1).1
  have hfn := (IJ.1 hok.1).2
  have hf' := hf
  simp only [CL, Bool.and_eq_true, decide_eq_true_eq] at hf'
  obtain ⟨kk, hkk, hkl⟩ : ∃ kk : Nat, (ns2.length : Int).tmod ((xs.length : Int) + 1) = (kk : Int) ∧ kk ≤ xs.length := by
   refine ⟨ns2.length % (xs.length + 1), ?_, ?_⟩
   ·rw [Int.tmod_eq_emod_of_nonneg (by omega)]
    exact (Int.natCast_emod ns2.length (xs.length + 1)).symm
   ·exact Nat.le_of_lt_succ (Nat.mod_lt _ (Nat.succ_pos _))
  have hsl : ∀ w', sl P 23 (.slice a1 xs.length c1) none (some (i64 (kk : Int))) none w' = some (.slice a1 kk c1, w') := fun w' => by
   simpa using Pm (P := P) HQ (a := a1) (len := xs.length) (cap := c1) (n := (kk : Int)) (by omega) (by omega) w'
  have hp4 : p.length = 4 := hsm.2
  have hp0 : ((p.length : Int) == 0) = false := by rw [hp4]; rfl
  simp (disch := first | exact xD | fail) [-Option.bind_some, qs, -Aa, -Ab, qm, hp0, LQ, hkk, hsl, E1.Ai, E2.Ai, E3.Ai, X7, E4.Ai]
  have ht : D AV (fun b => w.heap.size ≤ b) w4 [.slice a1 kk c1] (xs.take kk) := (ha.take hkl).ext xE
  refine Af.bind (GC (s := s) ht) ?_
  rintro ⟨_, w5⟩ ⟨a5, c5, rfl, o5, E5⟩
  have zE5 := E5.size
  try simp only [qz] at zE5
  try dsimp only at o5 E5
  have X7' : hp w5 w2.heap.size = some (.cells #[.slice a2 p.length c2] 32 (0, 0)) := (E5.Ai (by (try simp only [Ac]); exact Aq X7)).trans X7
  rw [hp4] at X7' d2
  have hall : xs.all B9 = true := hf'.1
  have htl : (xs.take kk).all B9 = true := List.all_eq_true.2 fun x hx => List.all_eq_true.1 hall x (List.mem_of_mem_take hx)
  have hokt : OK (xs.take kk) = true := by rw [RO hf hkl, hfn]; exact decide_eq_true hkl
  have hst := NF hokt hok.2.1 hok.2.2
  have hb0 := Hk
  have hbt := NX (xs.take kk) AR hb0 htl
  have hbx := NX xs AR hb0 hall
  have hgt := PN (xs.take kk) AR Lv htl
  have hgx := PN xs AR Lv hall
  have hcat : (CG AR xs).1 = (CG (CG AR (xs.take kk)).1 (xs.drop kk)).1 := by
   have := Qr (xs.take kk) (xs.drop kk) AR (IJ.1 hokt).2
   rw [List.take_append_drop] at this
   rw [this]
  have hgrow : Pw (vw (CG AR (xs.take kk)).1 s) (vw (CG AR xs).1 s) := by
   rw [hcat]
   exact Lw _ _ hbt (List.all_eq_true.2 fun x hx => List.all_eq_true.1 hall x (List.mem_of_mem_drop hx)) hok.2.1
  have hcut : (CR (BG (xs.take kk) s) && CR p && under (BG (xs.take kk) s) p) = true := by
   rw [hst.1, hsm.1, TQ hbt hgt hok.2.1 hok.2.2, TQ hbx hgx hok.2.1 hok.2.2, O2 hgrow]; rfl
  have BK : ∀ d ∈ xs, d.Ar = s → d.kind ≠ 1 → AE (p.getD d.key.toNat ⟨0, 0⟩) d.tag = false := by
   intro d hd hds hk
   have := O6 xs AR hb0 Lv hall hfn d hd hk
   rw [hds, ← hsm.1] at this
   exact KF.2 this
  have d5 := o5.d
  have z5 := E5.size
  have y7 := Aq X7'
  rw [hp4]
  simp (disch := first | exact xD | fail) [-Option.bind_some, qs, -Aa, -Ab, qm, E1.Ai, E2.Ai, E3.Ai, X7, E4.Ai, E5.Ai]
  refine Af.mono (I1 (p := p) (q := BG (xs.take kk) s) (g7 := w2.heap.size) (g8 := w5.heap.size) (m8 := (BG (xs.take kk) s).length) hp4 hall BK hcut (ha.ext (w' := w5) xE) xs.length 0 _ _ (by omega) xA xA xA xA xA (by first | assumption | rfl | (simp (disch := first | exact xD | fail) [-Option.bind_some, qs, -Aa, -Ab, qm, X7', E1.Ai, E2.Ai, E3.Ai, X7, E4.Ai, E5.Ai]; done)) (by first | assumption | rfl | (simp (disch := first | exact xD | fail) [-Option.bind_some, qs, -Aa, -Ab, qm, E1.Ai, E2.Ai, E3.Ai, X7, E4.Ai, E5.Ai]; done)) ⟨_, d2.ext xE⟩ ⟨_, d5.ext xE⟩ xE) ?_
  rintro r ⟨h1, h2⟩
  exact hQ _ ⟨h1, Ext.tr xE h2⟩
 ·have hnil := QW hok
  rw [hp'] at hnil
  subst hnil
  simp (disch := first | exact xD | fail) [-Option.bind_some, qs, -Aa, -Ab, qm, X7, E1.Ai, E2.Ai, E3.Ai, E4.Ai]
  refine Af.bind (GF (s := s) (ha.ext xE) hx.2) ?_
  rintro ⟨_, w5⟩ ⟨a5, c5, S5, rfl, d5, hS5, E5⟩
  have zE5 := E5.size
  try simp only [qz] at zE5
  try dsimp only at d5 E5
  rw [hp'] at d5 ⊢
  have X7 : hp w5 w2.heap.size = some (.cells #[.slice a2 0 c2] 32 (0, 0)) := (E5.Ai (by (try simp only [Ac]); exact Aq X7)).trans X7
  simp (disch := first | exact xD | fail) [-Option.bind_some, qs, -Aa, -Ab, qm, X7, E1.Ai, E2.Ai, E3.Ai, E4.Ai, E5.Ai]
  refine Af.bind (HP (d2.ext xE) d5) ?_
  rintro ⟨_, w6⟩ ⟨rfl, E6⟩
  try dsimp only at E6
  have zE6 := E6.size
  try simp only [qz] at zE6
  simp (disch := first | exact xD | fail) [-Option.bind_some, qs, -Aa, -Ab, qm, E1.Ai, E2.Ai, E3.Ai, X7, E4.Ai, E5.Ai, E6.Ai]
  exact hQ _ ⟨rfl, xE⟩
end Go.Proofs.YtjhhommnkaemlaaGreat.X
