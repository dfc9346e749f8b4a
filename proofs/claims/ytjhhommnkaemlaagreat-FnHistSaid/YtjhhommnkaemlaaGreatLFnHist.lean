/- A part of the proof: an evaluator of the model, its laws, and contracts of functions; no condition. -/
import Derived.Test.YtjhhommnkaemlaaGreatD30
import Derived.Test.YtjhhommnkaemlaaGreatS0
set_option maxRecDepth 100000
set_option maxHeartbeats 1000000
namespace Go.Proofs.YtjhhommnkaemlaaGreat.X
open Go Go.Ev Go.RowKit
theorem OI : ∀ (l : List Done) (b : Book) (k : Nat), (Ew b (l.take k)).2 = min (Ew b l).2 k
 | [], b, k => by rw [List.take_nil]; show 0 = min 0 k; omega
 | d :: l, b, 0 => by rw [List.take_zero]; show 0 = min _ 0; omega
 | d :: l, b, k + 1 => by
  rw [List.take_succ_cons]
  cases h : Bt b d with
  | none => rw [FQ h, FQ h]; show 0 = min 0 (k + 1); omega
  | some b' =>
   rw [Et h, Et h]
   show (Ew b' (l.take k)).2 + 1 = min ((Ew b' l).2 + 1) (k + 1)
   rw [OI l b' k]; omega
theorem Pc {l : List Done} (k : Nat) (h : Cd l = true) : Cd (l.take k) = true := by
 simp only [Cd, Bool.and_eq_true, List.all_eq_true, decide_eq_true_eq] at h ⊢
 exact ⟨fun x hx => h.1 x (List.mem_of_mem_take hx), by rw [List.length_take]; omega⟩
theorem OJ {l : List Done} {k : Nat} (h : Cd l = true) (hk : k ≤ l.length) : ND (l.take k) = decide (k ≤ (Ew Bj l).2) := by
 rw [ND, Pc k h, OI, List.length_take, Bool.true_and]
 apply decide_eq_decide.2
 omega
theorem Uz {l : List Done} (h : Cd l = true) : ND l = decide ((Ew Bj l).2 = l.length) := by rw [ND, h, Bool.true_and]
theorem Mo {s : Value} {ns : List Int} {w : World} (hs : Dn w s ns) : Ae (EV P 3 #[s] w) fun r => r.1 = .bool true ∧ Ext w r.2 := by
 have hs' := hs
 obtain ⟨a, c, rfl, q2, q3, q4, q5⟩ := hs
 refine Ae.post fun Q hQ => ?_
 refine Ae.enter plain mixed (Lk _ _) (by kernel_rfl) (n := 1) (by kernel_rfl) rfl ?_
 by_cases hl : 1048576 < ns.length
 ·simp (disch := first | exact xD | fail) [-Option.bind_some, -Aa, -Ab, show (1048576 : Int) < ns.length by omega]
  exact hQ _ ⟨rfl, xE⟩
 simp (disch := first | exact xD | fail) [-Option.bind_some, -Aa, -Ab, show ¬ (1048576 : Int) < ns.length by omega]
 refine Ae.bind (LK hs' (by omega)) ?_
 rintro ⟨_, w1⟩ ⟨a1, c1, xs, rfl, hx, ha, E1⟩
 have zE1 := E1.size
 try simp only [] at zE1
 try dsimp only at ha E1
 have zE1 := E1.size
 simp (disch := first | exact xD | fail) [-Option.bind_some, -Aa, -Ab]
 refine Ae.bind (Kj (ha.ext xE)) ?_
 rintro ⟨_, w2⟩ ⟨rfl, E2⟩
 try dsimp only at E2
 have zE2 := E2.size
 try simp only [qz] at zE2
 simp (disch := first | exact xD | fail) [-Option.bind_some, -Aa, -Ab]
 refine Ae.bind (Kl (ha.ext xE) hx.2) ?_
 rintro ⟨_, w3⟩ ⟨rfl, E3⟩
 try dsimp only at E3
 have zE3 := E3.size
 try simp only [qz] at zE3
 simp (disch := first | exact xD | fail) [-Option.bind_some, -Aa, -Ab, bne_self_eq_false]
 refine Ae.bind (BO (ha.ext xE)) ?_
 rintro ⟨_, w4⟩ ⟨rfl, E4⟩
 try dsimp only at E4
 have zE4 := E4.size
 try simp only [qz] at zE4
 simp (disch := first | exact xD | fail) [-Option.bind_some, -Aa, -Ab]
 refine Ae.bind (LL (ha.ext xE) hx.2) ?_
 rintro ⟨_, w5⟩ ⟨rfl, E5⟩
 try dsimp only at E5
 have zE5 := E5.size
 try simp only [qz] at zE5
 simp (disch := first | exact xD | fail) [-Option.bind_some, -Aa, -Ab]
 have hle := Pb xs Bj
 cases hf : Cd xs
 ·have e1 : LJ xs = -1 := by rw [LJ, hf]; rfl
  have e2 : ND xs = false := by rw [ND, hf]; rfl
  rw [e1]
  simp (disch := first | exact xD | fail) [-Option.bind_some, -Aa, -Ab]
  refine Ae.bind (BO (ha.ext xE)) ?_
  rintro ⟨_, w6⟩ ⟨rfl, E6⟩
  try dsimp only at E6
  have zE6 := E6.size
  try simp only [qz] at zE6
  rw [e2]
  simp (disch := first | exact xD | fail) [-Option.bind_some, -Aa, -Ab]
  exact hQ _ ⟨rfl, xE⟩
 ·obtain ⟨n, hn⟩ : ∃ n, (Ew Bj xs).2 = n := ⟨_, rfl⟩
  have e1' : LJ xs = (n : Int) := by rw [LJ, hf, ← hn]; rfl
  rw [hn] at hle
  rw [e1']
  have hsl : ∀ w', sl P 23 (.slice a1 xs.length c1) none (some (i64 n)) none w' = some (.slice a1 n c1, w') := fun w' => by
   simpa using Nv (P := P) Gu (a := a1) (len := xs.length) (cap := c1) (n := (n : Int)) (by omega) (by omega) w'
  have hsl1 : n < xs.length → ∀ w', sl P 23 (.slice a1 xs.length c1) none (some (i64 ((n : Int) + 1))) none w' = some (.slice a1 (n + 1) c1, w') := fun h w' => by
   have := Nv (P := P) Gu (a := a1) (len := xs.length) (cap := c1) (n := ((n + 1 : Nat) : Int)) (by omega) (by omega) w'
   simpa using this
  simp (disch := first | exact xD | fail) [-Option.bind_some, -Aa, -Ab, show ¬ (n : Int) < 0 by omega]
  refine Ae.bind (BO (ha.ext xE)) ?_
  rintro ⟨_, w6⟩ ⟨rfl, E6⟩
  try dsimp only at E6
  have zE6 := E6.size
  try simp only [qz] at zE6
  rw [Uz hf, hn]
  have ht : D AP (fun b => w.heap.size ≤ b) w6 [.slice a1 n c1] (xs.take n) := (ha.take hle).ext xE
  have hk1 : ND (xs.take n) = true := by rw [OJ hf hle, hn]; simp
  by_cases hnl : n = xs.length
  ·have hb : ((n : Int) == (xs.length : Int)) = true := by rw [hnl]; exact beq_self_eq_true _
   simp (disch := first | exact xD | fail) [-Option.bind_some, -Aa, -Ab, hb, decide_eq_true hnl, hsl]
   refine Ae.bind (BO ht) ?_
   rintro ⟨_, w7⟩ ⟨rfl, E7⟩
   try dsimp only at E7
   have zE7 := E7.size
   try simp only [qz] at zE7
   rw [hk1]
   simp (disch := first | exact xD | fail) [-Option.bind_some, -Aa, -Ab, hb]
   exact hQ _ ⟨rfl, xE⟩
  ·have hb : ((n : Int) == (xs.length : Int)) = false := by
    rw [beq_eq_false_iff_ne]
    omega
   simp (disch := first | exact xD | fail) [-Option.bind_some, -Aa, -Ab, hb, decide_eq_false hnl, hsl]
   refine Ae.bind (BO ht) ?_
   rintro ⟨_, w7⟩ ⟨rfl, E7⟩
   try dsimp only at E7
   have zE7 := E7.size
   try simp only [qz] at zE7
   rw [hk1]
   have hlt : n < xs.length := by omega
   have ht1 : D AP (fun b => w.heap.size ≤ b) w7 [.slice a1 (n + 1) c1] (xs.take (n + 1)) := (ha.take (by omega)).ext xE
   have hk2 : ND (xs.take (n + 1)) = false := by
    rw [OJ hf (by omega), hn]
    simp
   simp (disch := first | exact xD | fail) [-Option.bind_some, qs, -Aa, -Ab, hb, hsl1 hlt]
   refine Ae.bind (BO ht1) ?_
   rintro ⟨_, w8⟩ ⟨rfl, E8⟩
   try dsimp only at E8
   have zE8 := E8.size
   try simp only [qz] at zE8
   rw [hk2]
   simp (disch := first | exact xD | fail) [-Option.bind_some, -Aa, -Ab]
   exact hQ _ ⟨rfl, xE⟩
end Go.Proofs.YtjhhommnkaemlaaGreat.X
