/- A part of the proof: an evaluator of the model, its laws, and contracts of functions; no condition. -/
import Derived.Test.YtjhhommnkaemlaaGreatEvHp
import Derived.Test.YtjhhommnkaemlaaGreatD30
import Derived.Test.YtjhhommnkaemlaaGreatS0
set_option linter.unusedVariables false
set_option linter.unusedSimpArgs false
set_option linter.deprecated false
set_option maxRecDepth 100000
set_option maxHeartbeats 1000000
namespace Go.Proofs.YtjhhommnkaemlaaGreat.X
open Go Go.Ev Go.RowKit
theorem Nm {xs : List Done} {s : Int} (h : Nh xs = true) (h0 : 0 ≤ s) (h3 : s ≤ 3) : BO xs s = vw (Eg AW xs).1 s ∧ (BO xs s).length = 4 := by
 have hf := (IF.1 h).1
 simp only [CT, Bool.and_eq_true] at hf
 have hb := Rc xs AW Gl hf.1
 have e : BO xs s = vw (Eg AW xs).1 s := by
  unfold BO vw
  rw [if_pos (by rw [h]; simp only [Bool.true_and, Bool.and_eq_true, decide_eq_true_eq]; exact ⟨h0, h3⟩)]
 rw [e]
 exact ⟨rfl, (Qa hb h0 h3).2⟩
theorem QD {xs : List Done} {s : Int} (h : ¬ (Nh xs = true ∧ 0 ≤ s ∧ s ≤ 3)) : BO xs s = [] := by
 unfold BO
 rw [if_neg]
 simpa only [Bool.and_eq_true, decide_eq_true_eq] using h
theorem Ob {l : List Done} (f : Done → Bool) (h : CT l = true) : CT (l.filter f) = true := by
 simp only [CT, Bool.and_eq_true, List.all_eq_true, decide_eq_true_eq] at h ⊢
 have := List.length_filter_le f l
 exact ⟨fun x hx => h.1 x (List.mem_filter.1 hx).1, by omega⟩
theorem QE {xs : List Done} {s : Int} (h : Nh xs = true) (h0 : 0 ≤ s) (h3 : s ≤ 3) : Nh (xs.filter (Bq s)) = true ∧ BO (xs.filter (Bq s)) s = List.replicate 4 ⟨0, 0⟩ := by
 have hf := (IF.1 h).1
 have hf' := hf
 simp only [CT, Bool.and_eq_true, decide_eq_true_eq] at hf'
 have hA : Apart s AW AW := ⟨fun i _ => Pw.refl _, X0 h3, trivial⟩
 have := LS h0 xs AW AW hA Gl Gl hf'.1 (IF.1 h).2
 have hok : Nh (xs.filter (Bq s)) = true := IF.2 ⟨Ob _ hf, this.1⟩
 exact ⟨hok, by rw [(Nm hok h0 h3).1]; exact this.2.z⟩
theorem H9 {a : Option Addr} {c : Nat} {S : Nat → Prop} {xs : List Done} {s : Int} {w0 : World} (hxl : xs.length ≤ 80) (hok : Nh (xs.filter (Bq s)) = true) (hz : BO (xs.filter (Bq s)) s = List.replicate 4 ⟨0, 0⟩) (ha : D AP S w0 [.slice a xs.length c] xs) :
  ∀ (d k : Nat) (e : Env) (w : World) (a6 : Option Addr) (c6 : Nat) (S6 : Nat → Prop), k + d = xs.length → e 3 = .slice a xs.length c → e 4 = i64 s → e 6 = .slice a6 ((xs.take k).filter (Bq s)).length c6 → e 7 = i64 k → O AP S6 w [.slice a6 ((xs.take k).filter (Bq s)).length c6] ((xs.take k).filter (Bq s)) → (∀ b, S6 b → w0.heap.size ≤ b) → Ext w0 w →
   Ae (BK e w) fun r => r.1 = .bool true ∧ Ext w0 r.2 := by
 have hn := ha.n
 intro d
 induction d with
 | zero =>
  intro k e w a6 c6 S6 hd e3 e4 e6 e7 o6 hS6 E0
  have zE0 := E0.size
  try simp only [qz] at zE0
  rw [Dy]
  obtain rfl : k = xs.length := by omega
  rw [List.take_length] at o6 e6
  refine Ae.post fun Q hQ => ?_
  simp (disch := first | exact xD | fail) [-Option.bind_some, qs, -Aa, -Ab, qm, e3, e4, e6, e7, E0.Ai]
  refine Ae.bind (Mu o6.d) ?_
  rintro ⟨_, w1⟩ ⟨rfl, E1⟩
  try dsimp only at E1
  have zE1 := E1.size
  try simp only [qz] at zE1
  rw [hok]
  simp (disch := first | exact xD | fail) [-Option.bind_some, qs, -Aa, -Ab, qm, e3, e4, e6, e7, E0.Ai, E1.Ai]
  refine Ae.bind (Gz (s := s) (o6.d.ext xE)) ?_
  rintro ⟨_, w2⟩ ⟨a2, c2, rfl, o2, E2⟩
  have zE2 := E2.size
  try simp only [qz] at zE2
  try dsimp only at o2 E2
  have d2 := o2.d
  rw [hz] at d2 ⊢
  simp (disch := first | exact xD | fail) [-Option.bind_some, qs, -Aa, -Ab, qm, e3, e4, e6, e7, E0.Ai, E1.Ai, E2.Ai]
  refine Ae.bind (GD) ?_
  rintro ⟨_, w3⟩ ⟨a3, c3, rfl, o3, E3⟩
  try dsimp only at a3 c3 o3 E3
  have zE3 := E3.size
  try simp only [qz] at zE3
  simp (disch := first | exact xD | fail) [-Option.bind_some, qs, -Aa, -Ab, qm, e3, e4, e6, e7, E0.Ai, E1.Ai, E2.Ai, E3.Ai]
  have F3 : Ext w2 w3 := xE
  have d3 := o3.d
  rw [List.length_replicate] at d2
  refine Ae.bind (FO (d2.ext F3) d3) ?_
  rintro ⟨_, w4⟩ ⟨rfl, E4⟩
  have zE4 := E4.size
  try simp only [qz] at zE4
  try dsimp only at E4
  simp (disch := first | exact xD | fail) [-Option.bind_some, qs, -Aa, -Ab, qm, e3, e4, e6, e7, E0.Ai, E1.Ai, E2.Ai, E3.Ai, E4.Ai]
  exact hQ _ ⟨rfl, xE⟩
 | succ d ih =>
  intro k e w a6 c6 S6 hd e3 e4 e6 e7 o6 hS6 E0
  have zE0 := E0.size
  try simp only [qz] at zE0
  rw [Dy]
  have hlt : k < xs.length := by omega
  have hltI : (k : Int) < xs.length := by omega
  obtain ⟨x, hx, hdx⟩ := Ak hlt
  have htk : xs.take (k + 1) = xs.take k ++ [x] := Gq hx
  have hlen : ((xs.take k).filter (Bq s)).length ≤ 80 := Nat.le_trans (List.length_filter_le _ _) (Nat.le_trans (List.length_take_le' _ _) hxl)
  obtain ⟨b1, o1, cs1, rfl, A1, D1, _, l1⟩ := (ha.ext E0).at (by decide) hx
  obtain rfl := D.done.1 D1
  simp only [Ey] at A1
  have p0 := A1 0 _ rfl
  have p1 := A1 1 _ rfl
  have p2 := A1 2 _ rfl
  have p3 := A1 3 _ rfl
  have p4 := A1 4 _ rfl
  simp only [Bs, DK, Bb, Nat.add_zero] at p0 p1 p2 p3 p4
  have Aj : Bq s x = true → ∀ (w' : World), Ext w w' → ∀ (g : Nat), hp w' g = some (.cells (BE x).toArray 38 (0, 0)) → Ae (Au P #[23, 23] 23 #[.slice a6 ((xs.take k).filter (Bq s)).length c6, .slice (some ⟨g, 0, none⟩) 1 1] w') fun r => ∃ a' c' S', r.1 = .slice a' ((xs.take (k + 1)).filter (Bq s)).length c' ∧ O AP S' r.2 [.slice a' ((xs.take (k + 1)).filter (Bq s)).length c'] ((xs.take (k + 1)).filter (Bq s)) ∧ (∀ b, S' b → w0.heap.size ≤ b) ∧ Ext w0 r.2 := by
   intro hk w' F g X
   have e2 : (xs.take (k + 1)).filter (Bq s) = (xs.take k).filter (Bq s) ++ [x] := by rw [htk, List.filter_append, List.filter_cons_of_pos hk, List.filter_nil]
   refine Ae.mono (O.app (L := GG) (mx := 3518437208883) (S1 := fun _ => False) (x := x) (cs := BE x) HO OW rfl (by decide) (o6.ext F) (O.done.2 rfl) (fun _ _ _ h => h) (fun j v hj => by rw [X, Bh, ← BG, Nat.zero_add]; simpa using hj) (by omega) (by decide) (by decide)) ?_
   rintro ⟨_, w3⟩ ⟨a8, c8, rfl, o8, M8⟩
   have zM8 := M8.size
   try simp only [qz] at zM8
   try dsimp only at o8 M8
   have hs := M8.size
   have hF := F.size
   have hE := E0.size
   have e3 : ((xs.take k).filter (Bq s)).length + 1 = ((xs.take (k + 1)).filter (Bq s)).length := by rw [e2, List.length_append]; rfl
   rw [← e2, e3] at o8
   refine ⟨a8, c8, _, by rw [← e3], o8, ?_, Mod.after (E0.tr F) M8 (fun b h1 h => by have := hS6 b h; omega)⟩
   rintro b (h | h | h)
   ·exact hS6 b h
   ·exact h.elim
   ·omega
  have skip' : Bq s x = false → (xs.take (k + 1)).filter (Bq s) = (xs.take k).filter (Bq s) := fun hk => by rw [htk, List.filter_append, List.filter_cons_of_neg (by rw [hk]; simp), List.filter_nil, List.append_nil]
  refine Ae.post fun Q hQ => ?_
  cases hc1 : (x.Ao != s)
  ·cases hc2 : (x.kind == 1)
   ·have hk : Bq s x = false := by simp only [Bq, hc1, hc2, Bool.or_self]
    rw [← skip' hk] at o6 e6
    simp (disch := first | exact xD | fail) [-Option.bind_some, qs, -Aa, -Ab, qm, Cf, hc1, hc2, e3, e4, e6, e7, E0.Ai, hlt, p0, p1, p2, p3, p4]
    rw [BX]
    simp (disch := first | exact xD | fail) [-Option.bind_some, qs, -Aa, -Ab, qm, e3, e4, e6, e7, E0.Ai, hlt, p0, p1, p2, p3, p4]
    exact Ae.mono (ih (k + 1) _ _ a6 c6 S6 (by omega) xA xA xA xA o6 hS6 E0) hQ
   ·have hk : Bq s x = true := by simp only [Bq, hc1, hc2, Bool.or_true]
    simp (disch := first | exact xD | fail) [-Option.bind_some, qs, -Aa, -Ab, qm, Cf, hc1, hc2, e3, e4, e6, e7, E0.Ai, hlt, p0, p1, p2, p3, p4]
    refine Ae.bind (Aj hk _ xE _ (by first | assumption | rfl | (simp (disch := first | exact xD | fail) [-Option.bind_some, qs, -Aa, -Ab, qm, e3, e4, e6, e7, E0.Ai, hlt, p0, p1, p2, p3, p4]; done))) ?_
    rintro ⟨_, w3⟩ ⟨a8, c8, S8, rfl, o8, hS8, E8⟩
    have zE8 := E8.size
    try simp only [qz] at zE8
    try dsimp only at o8 E8
    simp (disch := first | exact xD | fail) [-Option.bind_some, qs, -Aa, -Ab, qm, e3, e4, e6, e7, E0.Ai, hlt, p0, p1, p2, p3, p4, E8.Ai]
    rw [BX]
    simp (disch := first | exact xD | fail) [-Option.bind_some, qs, -Aa, -Ab, qm, e3, e4, e6, e7, E0.Ai, hlt, p0, p1, p2, p3, p4, E8.Ai]
    exact Ae.mono (ih (k + 1) _ _ a8 c8 S8 (by omega) xA xA xA xA o8 hS8 E8) hQ
  ·have hk : Bq s x = true := by simp only [Bq, hc1, Bool.true_or]
   simp (disch := first | exact xD | fail) [-Option.bind_some, qs, -Aa, -Ab, qm, Cf, hc1, e3, e4, e6, e7, E0.Ai, hlt, p0, p1, p2, p3, p4]
   refine Ae.bind (Aj hk _ xE _ (by first | assumption | rfl | (simp (disch := first | exact xD | fail) [-Option.bind_some, qs, -Aa, -Ab, qm, e3, e4, e6, e7, E0.Ai, hlt, p0, p1, p2, p3, p4]; done))) ?_
   rintro ⟨_, w3⟩ ⟨a8, c8, S8, rfl, o8, hS8, E8⟩
   have zE8 := E8.size
   try simp only [qz] at zE8
   try dsimp only at o8 E8
   simp (disch := first | exact xD | fail) [-Option.bind_some, qs, -Aa, -Ab, qm, e3, e4, e6, e7, E0.Ai, hlt, p0, p1, p2, p3, p4, E8.Ai]
   rw [BX]
   simp (disch := first | exact xD | fail) [-Option.bind_some, qs, -Aa, -Ab, qm, e3, e4, e6, e7, E0.Ai, hlt, p0, p1, p2, p3, p4, E8.Ai]
   exact Ae.mono (ih (k + 1) _ _ a8 c8 S8 (by omega) xA xA xA xA o8 hS8 E8) hQ
theorem Ia {s : Value} {ns : List Int} {w : World} (hs : DI w s ns) : Ae (EV P 4 #[s] w) fun r => r.1 = .bool true ∧ Ext w r.2 := by
 have hs' := hs
 obtain ⟨a, c, rfl, q2, q3, q4, q5⟩ := hs
 refine Ae.post fun Q hQ => ?_
 refine Ae.enter plain mixed (HF _ _) (by kernel_rfl) (n := 1) (by kernel_rfl) rfl ?_
 by_cases hl : 1048576 < ns.length
 ·simp (disch := first | exact xD | fail) [-Option.bind_some, qs, -Aa, -Ab, qm, show (1048576 : Int) < ns.length by omega]
  exact hQ _ ⟨rfl, xE⟩
 simp (disch := first | exact xD | fail) [-Option.bind_some, qs, -Aa, -Ab, qm, show ¬ (1048576 : Int) < ns.length by omega]
 refine Ae.bind (KS hs' (by omega)) ?_
 rintro ⟨_, w1⟩ ⟨a1, c1, xs, s, rfl, hs0, hs4, hx, ha, E1⟩
 have zE1 := E1.size
 try simp only [qz] at zE1
 try dsimp only at ha E1
 have zE1 := E1.size
 simp (disch := first | exact xD | fail) [-Option.bind_some, qs, -Aa, -Ab, qm, E1.Ai]
 refine Ae.bind (Gz (s := s) ha) ?_
 rintro ⟨_, w2⟩ ⟨a2, c2, rfl, o2, E2⟩
 have zE2 := E2.size
 try simp only [qz] at zE2
 try dsimp only at o2 E2
 have zE2 := E2.size
 simp (disch := first | exact xD | fail) [-Option.bind_some, qs, -Aa, -Ab, qm, E1.Ai, E2.Ai]
 have d2 := o2.d
 obtain ⟨p, hp'⟩ : ∃ p, BO xs s = p := ⟨_, rfl⟩
 rw [hp'] at d2 ⊢
 refine Ae.bind (GB (s := s) (ha.ext xE) hx.2) ?_
 rintro ⟨_, w3⟩ ⟨a3, c3, S3, rfl, d3, hS3, E3⟩
 have zE3 := E3.size
 try simp only [qz] at zE3
 try dsimp only at d3 E3
 have zE3 := E3.size
 simp only [World.size_alloc, Ad, size_setRow] at zE3
 rw [hp'] at d3 ⊢
 have X7 : hp w3 w2.heap.size = some (.cells #[.slice a2 p.length c2] 32 (0, 0)) := (E3.Ai (by simp only [World.size_alloc, size_setRow, Ad]; omega)).trans (by first | assumption | rfl | (simp (disch := first | exact xD | fail) [-Option.bind_some, qs, -Aa, -Ab, qm, E1.Ai, E2.Ai, E3.Ai]; done))
 have F23 : Ext w2 w3 := xE
 simp (disch := first | exact xD | fail) [-Option.bind_some, qs, -Aa, -Ab, qm, X7, E1.Ai, E2.Ai, E3.Ai]
 refine Ae.bind (FO (d2.ext xE) d3) ?_
 rintro ⟨_, w4⟩ ⟨rfl, E4⟩
 try dsimp only at E4
 have zE4 := E4.size
 try simp only [qz] at zE4
 have X7 : hp w4 w2.heap.size = some (.cells #[.slice a2 p.length c2] 32 (0, 0)) := (E4.Ai (Ar X7)).trans X7
 by_cases hok : Nh xs = true ∧ 0 ≤ s ∧ s ≤ 3
 ·have hsm := Nm hok.1 hok.2.1 hok.2.2
  rw [hp'] at hsm
  have hp4 : p.length = 4 := hsm.2
  have hp0 : ((p.length : Int) == 0) = false := by rw [hp4]; rfl
  have hall := QE hok.1 hok.2.1 hok.2.2
  have F4 : Ext w1 w4 := xE
  simp (disch := first | exact xD | fail) [-Option.bind_some, qs, -Aa, -Ab, qm, hp0, E1.Ai, E2.Ai, E3.Ai, X7, E4.Ai]
  refine Ae.mono (H9 hx.1 hall.1 hall.2 (ha.ext F4) xs.length 0 _ _ (some ⟨w4.heap.size, 0, none⟩) 0 (fun b => b = w4.heap.size) (by omega) xA xA xA xA (O.empty (by first | assumption | rfl | (simp (disch := first | exact xD | fail) [-Option.bind_some, qs, -Aa, -Ab, qm, E1.Ai, E2.Ai, E3.Ai, X7, E4.Ai]; done))) (fun b h => by omega) xE) ?_
  rintro r ⟨h1, h2⟩
  exact hQ _ ⟨h1, Ext.tr xE h2⟩
 ·have hnil := QD hok
  rw [hp'] at hnil
  subst hnil
  simp (disch := first | exact xD | fail) [-Option.bind_some, qs, -Aa, -Ab, qm, X7, E1.Ai, E2.Ai, E3.Ai, E4.Ai]
  refine Ae.bind (GB (s := s) (ha.ext xE) hx.2) ?_
  rintro ⟨_, w5⟩ ⟨a5, c5, S5, rfl, d5, hS5, E5⟩
  have zE5 := E5.size
  try simp only [qz] at zE5
  try dsimp only at d5 E5
  rw [hp'] at d5 ⊢
  have X7 : hp w5 w2.heap.size = some (.cells #[.slice a2 0 c2] 32 (0, 0)) := (E5.Ai (by (try simp only [Ad]); exact Ar X7)).trans X7
  simp (disch := first | exact xD | fail) [-Option.bind_some, qs, -Aa, -Ab, qm, X7, E1.Ai, E2.Ai, E3.Ai, E4.Ai, E5.Ai]
  refine Ae.bind (FO (d2.ext xE) d5) ?_
  rintro ⟨_, w6⟩ ⟨rfl, E6⟩
  try dsimp only at E6
  have zE6 := E6.size
  try simp only [qz] at zE6
  simp (disch := first | exact xD | fail) [-Option.bind_some, qs, -Aa, -Ab, qm, E1.Ai, E2.Ai, E3.Ai, X7, E4.Ai, E5.Ai, E6.Ai]
  exact hQ _ ⟨rfl, xE⟩
end Go.Proofs.YtjhhommnkaemlaaGreat.X
