/- A part of the proof: an evaluator of the model, its laws, and contracts of functions; no condition. -/
import Derived.Test.YtjhhommnkaemlaaGreatD30
import Derived.Test.YtjhhommnkaemlaaGreatS0
set_option linter.unusedVariables false
set_option linter.unusedSimpArgs false
set_option linter.deprecated false
set_option maxRecDepth 100000
set_option maxHeartbeats 1000000
namespace Go.Proofs.YtjhhommnkaemlaaGreat.X
open Go Go.Ev Go.RowKit
theorem OQ : ∀ (l : List Done) (b : Book) (k : Nat), (EC b (l.take k)).2 = min (EC b l).2 k
 | [], b, k => by rw [List.take_nil]; show 0 = min 0 k; omega
 | d :: l, b, 0 => by rw [List.take_zero]; show 0 = min _ 0; omega
 | d :: l, b, k + 1 => by
  rw [List.take_succ_cons]
  cases h : Bw b d with
  | none => rw [FX h, FX h]; show 0 = min 0 (k + 1); omega
  | some b' =>
   rw [EA h, EA h]
   show (EC b' (l.take k)).2 + 1 = min ((EC b' l).2 + 1) (k + 1)
   rw [OQ l b' k]; omega
theorem Pl {l : List Done} (k : Nat) (h : Ch l = true) : Ch (l.take k) = true := by
 simp only [Ch, Bool.and_eq_true, List.all_eq_true, decide_eq_true_eq] at h ⊢
 exact ⟨fun x hx => h.1 x (List.mem_of_mem_take hx), by rw [List.length_take]; omega⟩
theorem OR {l : List Done} {k : Nat} (h : Ch l = true) (hk : k ≤ l.length) : NL (l.take k) = decide (k ≤ (EC Bm l).2) := by
 rw [NL, Pl k h, OQ, List.length_take, Bool.true_and]
 apply decide_eq_decide.2
 omega
theorem UG {l : List Done} (h : Ch l = true) : NL l = decide ((EC Bm l).2 = l.length) := by rw [NL, h, Bool.true_and]
theorem Mw {s : Value} {ns : List Int} {w : World} (hs : Dt w s ns) : Ae (EV P 3 #[s] w) fun r => r.1 = .bool true ∧ Ext w r.2 := by
 have hs' := hs
 obtain ⟨a, c, rfl, q2, q3, q4, q5⟩ := hs
 refine Ae.post fun Q hQ => ?_
 refine Ae.enter plain mixed (Lr _ _) (by kernel_rfl) (n := 1) (by kernel_rfl) rfl ?_
 by_cases hl : 1048576 < ns.length
 ·simp (disch := first | exact xD | fail) [-Option.bind_some, qs, -Aa, -Ab, qm, show (1048576 : Int) < ns.length by omega]
  exact hQ _ ⟨rfl, xE⟩
 simp (disch := first | exact xD | fail) [-Option.bind_some, qs, -Aa, -Ab, qm, show ¬ (1048576 : Int) < ns.length by omega]
 refine Ae.bind (LR hs' (by omega)) ?_
 rintro ⟨_, w1⟩ ⟨a1, c1, xs, rfl, hx, ha, E1⟩
 have zE1 := E1.size
 try simp only [qz] at zE1
 try dsimp only at ha E1
 have zE1 := E1.size
 simp (disch := first | exact xD | fail) [-Option.bind_some, qs, -Aa, -Ab, qm, E1.Ai]
 refine Ae.bind (Kq (ha.ext xE)) ?_
 rintro ⟨_, w2⟩ ⟨rfl, E2⟩
 try dsimp only at E2
 have zE2 := E2.size
 try simp only [qz] at zE2
 simp (disch := first | exact xD | fail) [-Option.bind_some, qs, -Aa, -Ab, qm, E1.Ai, E2.Ai]
 refine Ae.bind (Ks (ha.ext xE) hx.2) ?_
 rintro ⟨_, w3⟩ ⟨rfl, E3⟩
 try dsimp only at E3
 have zE3 := E3.size
 try simp only [qz] at zE3
 simp (disch := first | exact xD | fail) [-Option.bind_some, qs, -Aa, -Ab, qm, bne_self_eq_false, E1.Ai, E2.Ai, E3.Ai]
 refine Ae.bind (BR (ha.ext xE)) ?_
 rintro ⟨_, w4⟩ ⟨rfl, E4⟩
 try dsimp only at E4
 have zE4 := E4.size
 try simp only [qz] at zE4
 simp (disch := first | exact xD | fail) [-Option.bind_some, qs, -Aa, -Ab, qm, E1.Ai, E2.Ai, E3.Ai, E4.Ai]
 refine Ae.bind (LS (ha.ext xE) hx.2) ?_
 rintro ⟨_, w5⟩ ⟨rfl, E5⟩
 try dsimp only at E5
 have zE5 := E5.size
 try simp only [qz] at zE5
 simp (disch := first | exact xD | fail) [-Option.bind_some, qs, -Aa, -Ab, qm, bne_self_eq_false, E1.Ai, E2.Ai, E3.Ai, E4.Ai, E5.Ai]
 have hle := Pk xs Bm
 cases hf : Ch xs
 ·have e1 : LQ xs = -1 := by rw [LQ, hf]; rfl
  have e2 : NL xs = false := by rw [NL, hf]; rfl
  rw [e1]
  simp (disch := first | exact xD | fail) [-Option.bind_some, qs, -Aa, -Ab, qm, E1.Ai, E2.Ai, E3.Ai, E4.Ai, E5.Ai, e1, e2]
  refine Ae.bind (BR (ha.ext xE)) ?_
  rintro ⟨_, w6⟩ ⟨rfl, E6⟩
  try dsimp only at E6
  have zE6 := E6.size
  try simp only [qz] at zE6
  rw [e2]
  simp (disch := first | exact xD | fail) [-Option.bind_some, qs, -Aa, -Ab, qm, E1.Ai, E2.Ai, E3.Ai, E4.Ai, E5.Ai, e1, e2, E6.Ai]
  exact hQ _ ⟨rfl, xE⟩
 ·obtain ⟨n, hn⟩ : ∃ n, (EC Bm xs).2 = n := ⟨_, rfl⟩
  have e1' : LQ xs = (n : Int) := by rw [LQ, hf, ← hn]; rfl
  rw [hn] at hle
  rw [e1']
  have hsl : ∀ w', sl P 23 (.slice a1 xs.length c1) none (some (i64 n)) none w' = some (.slice a1 n c1, w') := fun w' => by
   simpa using NF (P := P) Gz (a := a1) (len := xs.length) (cap := c1) (n := (n : Int)) (by omega) (by omega) w'
  have hsl1 : n < xs.length → ∀ w', sl P 23 (.slice a1 xs.length c1) none (some (i64 ((n : Int) + 1))) none w' = some (.slice a1 (n + 1) c1, w') := fun h w' => by
   have := NF (P := P) Gz (a := a1) (len := xs.length) (cap := c1) (n := ((n + 1 : Nat) : Int)) (by omega) (by omega) w'
   simpa using this
  simp (disch := first | exact xD | fail) [-Option.bind_some, qs, -Aa, -Ab, qm, show ¬ (n : Int) < 0 by omega, E1.Ai, E2.Ai, E3.Ai, E4.Ai, E5.Ai]
  refine Ae.bind (BR (ha.ext xE)) ?_
  rintro ⟨_, w6⟩ ⟨rfl, E6⟩
  try dsimp only at E6
  have zE6 := E6.size
  try simp only [qz] at zE6
  rw [UG hf, hn]
  have ht : D AQ (fun b => w.heap.size ≤ b) w6 [.slice a1 n c1] (xs.take n) := (ha.take hle).ext xE
  have hk1 : NL (xs.take n) = true := by rw [OR hf hle, hn]; simp
  by_cases hnl : n = xs.length
  ·have hb : ((n : Int) == (xs.length : Int)) = true := by rw [hnl]; exact beq_self_eq_true _
   simp (disch := first | exact xD | fail) [-Option.bind_some, qs, -Aa, -Ab, qm, hb, decide_eq_true hnl, hsl, E1.Ai, E2.Ai, E3.Ai, E4.Ai, E5.Ai, E6.Ai]
   refine Ae.bind (BR ht) ?_
   rintro ⟨_, w7⟩ ⟨rfl, E7⟩
   try dsimp only at E7
   have zE7 := E7.size
   try simp only [qz] at zE7
   rw [hk1]
   simp (disch := first | exact xD | fail) [-Option.bind_some, qs, -Aa, -Ab, qm, hb, E1.Ai, E2.Ai, E3.Ai, E4.Ai, E5.Ai, E6.Ai, E7.Ai]
   exact hQ _ ⟨rfl, xE⟩
  ·have hb : ((n : Int) == (xs.length : Int)) = false := by
    rw [beq_eq_false_iff_ne]
    omega
   simp (disch := first | exact xD | fail) [-Option.bind_some, qs, -Aa, -Ab, qm, hb, decide_eq_false hnl, hsl, E1.Ai, E2.Ai, E3.Ai, E4.Ai, E5.Ai, E6.Ai]
   refine Ae.bind (BR ht) ?_
   rintro ⟨_, w7⟩ ⟨rfl, E7⟩
   try dsimp only at E7
   have zE7 := E7.size
   try simp only [qz] at zE7
   rw [hk1]
   have hlt : n < xs.length := by omega
   have ht1 : D AQ (fun b => w.heap.size ≤ b) w7 [.slice a1 (n + 1) c1] (xs.take (n + 1)) := (ha.take (by omega)).ext xE
   have hk2 : NL (xs.take (n + 1)) = false := by
    rw [OR hf (by omega), hn]
    simp
   simp (disch := first | exact xD | fail) [-Option.bind_some, qs, -Aa, -Ab, qm, hb, hsl1 hlt, E1.Ai, E2.Ai, E3.Ai, E4.Ai, E5.Ai, E6.Ai, E7.Ai, hlt]
   refine Ae.bind (BR ht1) ?_
   rintro ⟨_, w8⟩ ⟨rfl, E8⟩
   try dsimp only at E8
   have zE8 := E8.size
   try simp only [qz] at zE8
   rw [hk2]
   simp (disch := first | exact xD | fail) [-Option.bind_some, qs, -Aa, -Ab, qm, E1.Ai, E2.Ai, E3.Ai, E4.Ai, E5.Ai, E6.Ai, E7.Ai, hlt, E8.Ai]
   exact hQ _ ⟨rfl, xE⟩
end Go.Proofs.YtjhhommnkaemlaaGreat.X
