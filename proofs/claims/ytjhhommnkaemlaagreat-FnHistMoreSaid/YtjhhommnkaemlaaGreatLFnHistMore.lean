/- A part of the proof, without conditions. -/
import Derived.Test.YtjhhommnkaemlaaGreatEvHp
import Derived.Test.YtjhhommnkaemlaaGreatD30
import Derived.Test.YtjhhommnkaemlaaGreatS0
set_option linter.unusedVariables false
set_option linter.unusedSimpArgs false
set_option linter.deprecated false
set_option maxRecDepth 100000
set_option maxHeartbeats 1000000
namespace Go.Proofs.YtjhhommnkaemlaaGreat.X
open Go Go.Ev Go.RowKit
theorem Jx {xs : List Done} {s : Int} (h : Nl xs = true) (h0 : 0 ≤ s) (h3 : s ≤ 3) : Bq xs s = vw (DB AU xs).1 s ∧ (Bq xs s).length = 4 := by
 have hf := (IB.1 h).1
 simp only [Dy, Bool.and_eq_true] at hf
 have hb := Pu xs AU Gm hf.1
 have e : Bq xs s = vw (DB AU xs).1 s := by
  unfold Bq vw
  rw [if_pos (by rw [h]; simp only [Bool.true_and, Bool.and_eq_true, decide_eq_true_eq]; exact ⟨h0, h3⟩)]
 rw [e]
 exact ⟨rfl, (NY hb h0 h3).2⟩
theorem Qx {xs : List Done} {s : Int} (h : ¬ (Nl xs = true ∧ 0 ≤ s ∧ s ≤ 3)) : Bq xs s = [] := by
 unfold Bq
 rw [if_neg]
 simpa only [Bool.and_eq_true, decide_eq_true_eq] using h
theorem Rn {xs : List Done} {s : Int} {k : Nat} (h : Nl xs = true) (h0 : 0 ≤ s) (h3 : s ≤ 3) (hk : k < 4) (hl : xs.length < 80) : Nl (xs ++ [⟨s, 2, k, (Bq xs s).getD k ⟨0, 0⟩⟩]) = true ∧ Bq (xs ++ [⟨s, 2, k, (Bq xs s).getD k ⟨0, 0⟩⟩]) s = Bq xs s := by
 have hf := (IB.1 h).1
 have hf' := hf
 simp only [Dy, Bool.and_eq_true, decide_eq_true_eq] at hf'
 have hs := (Jx h h0 h3).1
 have hb := Pu xs AU Gm hf'.1
 have hg := Rx xs AU Ry hf'.1
 have hc := NH xs AU Tr Gm hf'.1
 have hst := Pk hc hb (key := k) h0 h3
 have hgo' : DB AU (xs ++ [⟨s, 2, k, (Bq xs s).getD k ⟨0, 0⟩⟩]) = ((DB AU xs).1, xs.length + 1) := by
  rw [Qd _ _ _ (IB.1 h).2, hs, BT hst]
  rfl
 have hop : Cw ⟨s, 2, k, (Bq xs s).getD k ⟨0, 0⟩⟩ = true := by
  refine BS.2 ⟨⟨h0, h3⟩, ⟨(by decide : (1 : Int) ≤ 2), (by decide : (2 : Int) ≤ 3)⟩, ⟨by show (0 : Int) ≤ (k : Int); omega, by show (k : Int) ≤ 3; omega⟩, ?_, .inl rfl⟩
  rw [hs]
  refine Lj (Q := fun t => DC t = true) (fun t ht => ?_) rfl k
  exact hg.v _ (List.mem_of_getElem? (NY hb h0 h3).1) t ht
 have hform : Dy (xs ++ [⟨s, 2, k, (Bq xs s).getD k ⟨0, 0⟩⟩]) = true := by
  simp only [Dy, List.all_append, List.all_cons, List.all_nil, hf'.1, hop, Bool.and_self, Bool.true_and, decide_eq_true_eq, List.length_append, List.length_cons, List.length_nil]
  omega
 have hok : Nl (xs ++ [⟨s, 2, k, (Bq xs s).getD k ⟨0, 0⟩⟩]) = true := IB.2 ⟨hform, by rw [hgo', List.length_append]; rfl⟩
 exact ⟨hok, by rw [(Jx hok h0 h3).1, hgo', hs]⟩
theorem IC {a a5 : Option Addr} {c c5 g5 : Nat} {S : Nat → Prop} {xs : List Done} {s : Int} {p : List Tag} {w0 : World} (hps : Bq xs s = p) (hp4 : p.length = 4) (hxl : xs.length < 80) (hok : Nl xs = true) (h0 : 0 ≤ s) (h3 : s ≤ 3) (ha : D AO S w0 [.slice a xs.length c] xs) :
  ∀ (d k : Nat) (e : Env) (w : World), k + d = 4 → e 3 = .slice a xs.length c → e 4 = i64 s → e 5 = pt g5 0 → e 6 = i64 k → hp w g5 = some (.cells #[.slice a5 4 c5] 32 (0, 0)) → (∃ S5, D AJ S5 w [.slice a5 4 c5] p) → Ext w0 w →
   Ae (B6 e w) fun r => r.1 = .bool true ∧ Ext w0 r.2 := by
 intro d
 induction d with
 | zero =>
  intro k e w hd e3 e4 e5 e6 X5 h5 E0
  have zE0 := E0.size
  try simp only [qz] at zE0
  rw [DE]
  obtain rfl : k = 4 := by omega
  refine Ae.post fun Q hQ => ?_
  simp (disch := first | exact xD | fail) [-Option.bind_some, -Aa, -Ab, e6]
  exact hQ _ ⟨rfl, xE⟩
 | succ d ih =>
  intro k e w hd e3 e4 e5 e6 X5 h5 E0
  have zE0 := E0.size
  try simp only [qz] at zE0
  rw [DE]
  have hk4 : k < 4 := by omega
  have hk4I : (k : Int) < 4 := by omega
  have y5 := Aq X5
  have hkp : k < p.length := by omega
  obtain ⟨y, hy, _⟩ := Ak hkp
  obtain ⟨S5, h5⟩ := h5
  obtain ⟨b2, o2, cs2, rfl, A2, D2, hSb, l2⟩ := h5.at (by decide) hy
  obtain rfl := D.tag.1 D2
  simp only [DK] at A2
  have hyd : p.getD k ⟨0, 0⟩ = y := by rw [List.getD_eq_getElem?_getD, hy, Option.getD_some]
  have hall := Rn (k := k) hok h0 h3 hk4 hxl
  rw [hps, hyd] at hall
  have fin : ∀ (e' : Env) (w' : World) (a7 : Option Addr) (c7 : Nat) (S7 : Nat → Prop), Ext w w' → e' 3 = .slice a xs.length c → e' 4 = i64 s → e' 5 = pt g5 0 → e' 6 = i64 k → e' 7 = .slice a7 (xs.length + 1) c7 → O AO S7 w' [.slice a7 (xs.length + 1) c7] (xs ++ [⟨s, 2, k, y⟩]) → Ae (BD e' w') fun r => r.1 = .bool true ∧ Ext w0 r.2 := by
   intro e' w' a7 c7 S7 F f3 f4 f5 f6 f7 o7
   have N5 := (F.Ai y5).trans X5
   have d7 := o7.d
   rw [GI]
   refine Ae.post fun Q hQ => ?_
   simp (disch := first | exact xD | fail) [-Option.bind_some, qs, -Aa, -Ab, f4, f5, f6, f7]
   refine Ae.bind (My (d7.ext xE)) ?_
   rintro ⟨_, w2⟩ ⟨rfl, E2⟩
   have zE2 := E2.size
   try simp only [qz] at zE2
   try dsimp only at E2
   rw [hall.1]
   have N5 : hp w2 g5 = some (.cells #[.slice (some ⟨b2, o2, none⟩) 4 c5] 32 (0, 0)) := (E2.Ai (by simp only [Ad]; have := F.size; omega)).trans N5
   simp (disch := first | exact xD | fail) [-Option.bind_some, -Aa, -Ab, N5]
   have F72 : Ext w' w2 := xE
   refine Ae.bind (GA (s := s) (d7.ext F72)) ?_
   rintro ⟨_, w3⟩ ⟨a2, c2, rfl, q2, E3⟩
   have zE3 := E3.size
   try simp only [] at zE3
   try dsimp only at q2 E3
   have d2 := q2.d
   rw [hall.2] at d2 ⊢
   have F3 : Ext w2 w3 := xE
   have F2 : Ext w w2 := F.tr F72
   have N5 := (F3.Ai (Aq N5)).trans N5
   rw [hp4] at d2 ⊢
   simp (disch := first | exact xD | fail) [-Option.bind_some, -Aa, -Ab, N5]
   refine Ae.bind (DT d2 (h5.ext (F2.tr F3))) ?_
   rintro ⟨_, w4⟩ ⟨rfl, E4⟩
   have zE4 := E4.size
   try simp only [] at zE4
   try dsimp only at E4
   have F4 : Ext w w4 := xE
   simp (disch := first | exact xD | fail) [-Option.bind_some, -Aa, -Ab]
   exact Ae.mono (ih (k + 1) _ _ (by omega) xA xA xA xA ((F4.Ai y5).trans X5) ⟨_, h5.ext F4⟩ (E0.tr F4)) hQ
  have hcs : (#[i64 s, i64 2, i64 (k : Int), i64 y.t, i64 y.p] : Array Value) = (Bp ⟨s, 2, k, y⟩).toArray := rfl
  have one : ∀ (w3 w' : World) (a8 : Option Addr) (c8 : Nat) (S8 : Nat → Prop) (g : Nat), O AO S8 w3 [.slice a8 xs.length c8] xs → (∀ b, S8 b → w.heap.size ≤ b) → Ext w w3 → Ext w3 w' → At w' g 0 (Bp ⟨s, 2, k, y⟩) → Ae (Au P #[23, 23] 23 #[.slice a8 xs.length c8, .slice (some ⟨g, 0, none⟩) 1 1] w') fun r => ∃ a' c' S', r.1 = .slice a' (xs.length + 1) c' ∧ O AO S' r.2 [.slice a' (xs.length + 1) c'] (xs ++ [⟨s, 2, k, y⟩]) ∧ Ext w r.2 := by
   intro w3 w' a8 c8 S8 g o8 hS8 F F' hA
   refine Ae.mono (O.app (L := Gi) (mx := 3518437208883) (S1 := fun _ => False) (x := ⟨s, 2, k, y⟩) (cs := Bp ⟨s, 2, k, y⟩) GZ Nw rfl (by decide) (o8.ext F') (O.done.2 rfl) (fun _ _ _ h => h) hA (by omega) (by decide) (by decide)) ?_
   rintro ⟨_, w4⟩ ⟨a9, c9, rfl, o9, M9⟩
   have zM9 := M9.size
   try simp only [] at zM9
   exact ⟨a9, c9, _, rfl, o9, Mod.after (F.tr F') M9 (fun b h1 h => by have := hS8 b h; omega)⟩
  have two : ∀ (w' : World) (g : Nat), Ext w w' → w.heap.size ≤ g → hp w' g = some (.cells #[] 38 (0, 0)) → Ae (Au P #[23, 23] 23 #[.slice (some ⟨g, 0, none⟩) 0 0, .slice a xs.length c] w') fun r => ∃ a' c' S', r.1 = .slice a' xs.length c' ∧ O AO S' r.2 [.slice a' xs.length c'] xs ∧ (∀ b, S' b → w.heap.size ≤ b) ∧ Ext w r.2 ∧ (∀ b, b < w'.heap.size → b ≠ g → hp r.2 b = hp w' b) ∧ w'.heap.size ≤ r.2.heap.size := by
   intro w' g F hg X
   refine Ae.mono (O.IZ (L := Gi) (mx := 3518437208883) (IY (Bs BR (Bs BR (Bs BR BH)))) GZ Nw rfl (by decide) (O.empty (g := g) X) ((ha.ext E0).ext F) (by simp; omega) (by decide) (by decide)) ?_
   rintro ⟨_, w4⟩ ⟨a9, c9, rfl, o9, M9⟩
   have zM9 := M9.size
   try simp only [] at zM9
   try dsimp only at o9 M9
   simp only [List.length_nil, Nat.zero_add, List.nil_append] at o9 ⊢
   have zF := F.size
   exact ⟨a9, c9, _, rfl, o9, fun b h => by rcases h with h | h <;> omega, Mod.after F M9 (fun b h1 h => by omega), fun b h1 h2 => M9.Ai b h1 h2, M9.size⟩
  have hA3 := A2
  have q0 := A2 0 _ rfl
  have q1 := A2 1 _ rfl
  simp only [Nat.add_zero] at q0 q1
  refine Ae.post fun Q hQ => ?_
  simp (disch := first | exact xD | fail) [-Option.bind_some, -Aa, -Ab, hk4I, e6]
  refine Gw _ _ ?_
  simp (disch := first | exact xD | fail) [-Option.bind_some, qs, -Aa, -Ab, e3, e4, e5, e6, X5, Em, q0, q1]
  refine ⟨⟨?_, ?_⟩, ?_⟩
  ·refine Ae.mono (two _ _ xE (Nat.le_refl _) (by first | assumption | rfl | (simp (disch := first | exact xD | fail) [-Option.bind_some, qs, -Aa, -Ab]; done))) ?_
   rintro ⟨_, w3⟩ ⟨a8, c8, S8, rfl, o8, hS8, F3, K3, zK⟩
   try dsimp only at o8 F3 K3 zK
   have Y5 := (F3.Ai y5).trans X5
   have A3 := hA3.same (F3.Ai l2)
   have u0 := A3 0 _ rfl
   have u1 := A3 1 _ rfl
   simp only [Nat.add_zero] at u0 u1
   simp (disch := first | exact xD | fail) [-Option.bind_some, -Aa, -Ab, Y5, u0, u1]
   refine Ae.mono (one w3 _ a8 c8 S8 _ o8 hS8 F3 xE (At.nw (cs := Bp ⟨s, 2, k, y⟩) rfl)) ?_
   rintro ⟨_, w4⟩ ⟨a9, c9, S9, rfl, o9, F4⟩
   try dsimp only at o9 F4
   exact Ae.mono (fin _ _ a9 c9 S9 F4 xA xA xA xA rfl o9) hQ
  ·refine Ae.mono (two _ _ xE (Nat.le_refl _) (by first | assumption | rfl | (simp (disch := first | exact xD | fail) [-Option.bind_some, qs, -Aa, -Ab]; done))) ?_
   rintro ⟨_, w3⟩ ⟨a8, c8, S8, rfl, o8, hS8, F3, K3, zK⟩
   try dsimp only at o8 F3 K3 zK
   have Y5 := (F3.Ai y5).trans X5
   have A3 := hA3.same (F3.Ai l2)
   have A4 : At w3 (w.heap.size + 1) 0 (Bp ⟨s, 2, k, y⟩) := (At.nw (w := (dw w).alloc (.cells #[] 38 (0, 0))) (cs := Bp ⟨s, 2, k, y⟩) (E := 38) (n := w.heap.size + 1) (by simp only [World.size_alloc, Ad])).same (K3 _ (by simp only [World.size_alloc, Ad]; omega) (by omega))
   have u0 := A3 0 _ rfl
   have u1 := A3 1 _ rfl
   simp only [Nat.add_zero] at u0 u1
   simp (disch := first | exact xD | fail) [-Option.bind_some, -Aa, -Ab, Y5, u0, u1]
   refine Ae.mono (one w3 _ a8 c8 S8 _ o8 hS8 F3 Ext.rfl A4) ?_
   rintro ⟨_, w4⟩ ⟨a9, c9, S9, rfl, o9, F4⟩
   try dsimp only at o9 F4
   exact Ae.mono (fin _ _ a9 c9 S9 F4 xA xA xA xA rfl o9) hQ
  ·refine Ae.mono (two _ _ xE (by omega) (by first | assumption | rfl | (simp (disch := first | exact xD | fail) [-Option.bind_some, qs, -Aa, -Ab]; done))) ?_
   rintro ⟨_, w3⟩ ⟨a8, c8, S8, rfl, o8, hS8, F3, K3, zK⟩
   try dsimp only at o8 F3 K3 zK
   have Y5 := (F3.Ai y5).trans X5
   have A3 := hA3.same (F3.Ai l2)
   have A4 : At w3 w.heap.size 0 (Bp ⟨s, 2, k, y⟩) := ((At.nw (w := dw w) (cs := Bp ⟨s, 2, k, y⟩) (E := 38) (n := w.heap.size) (by simp only [Ad])).same (Ag (by simp only [World.size_alloc, Ad]; omega))).same (K3 _ (by simp only [World.size_alloc, Ad]; omega) (by omega))
   have u0 := A3 0 _ rfl
   have u1 := A3 1 _ rfl
   simp only [Nat.add_zero] at u0 u1
   simp (disch := first | exact xD | fail) [-Option.bind_some, -Aa, -Ab, Y5, u0, u1]
   refine Ae.mono (one w3 _ a8 c8 S8 _ o8 hS8 F3 Ext.rfl A4) ?_
   rintro ⟨_, w4⟩ ⟨a9, c9, S9, rfl, o9, F4⟩
   try dsimp only at o9 F4
   exact Ae.mono (fin _ _ a9 c9 S9 F4 xA xA xA xA rfl o9) hQ
theorem ID {s : Value} {ns : List Int} {w : World} (hs : DI w s ns) : Ae (EV P 5 #[s] w) fun r => r.1 = .bool true ∧ Ext w r.2 := by
 have hs' := hs
 obtain ⟨a, c, rfl, q2, q3, q4, q5⟩ := hs
 refine Ae.post fun Q hQ => ?_
 refine Ae.enter plain mixed (Ig _ _) (by kernel_rfl) (n := 1) (by kernel_rfl) rfl ?_
 by_cases hl : 1048576 < ns.length
 ·simp (disch := first | exact xD | fail) [-Option.bind_some, -Aa, -Ab, show (1048576 : Int) < ns.length by omega]
  exact hQ _ ⟨rfl, xE⟩
 simp (disch := first | exact xD | fail) [-Option.bind_some, qs, -Aa, -Ab, show ¬ (1048576 : Int) < ns.length by omega]
 refine Ae.bind (KV hs' (by omega)) ?_
 rintro ⟨_, w1⟩ ⟨a1, c1, xs, s, rfl, hs0, hs4, hx, ha, E1⟩
 have zE1 := E1.size
 try simp only [] at zE1
 try dsimp only at ha E1
 have zE1 := E1.size
 simp (disch := first | exact xD | fail) [-Option.bind_some, qs, -Aa, -Ab]
 refine Ae.bind (GA (s := s) ha) ?_
 rintro ⟨_, w2⟩ ⟨a2, c2, rfl, o2, E2⟩
 have zE2 := E2.size
 try simp only [] at zE2
 try dsimp only at o2 E2
 have zE2 := E2.size
 simp (disch := first | exact xD | fail) [-Option.bind_some, qs, -Aa, -Ab, qm]
 have d2 := o2.d
 obtain ⟨p, hp'⟩ : ∃ p, Bq xs s = p := ⟨_, rfl⟩
 rw [hp'] at d2 ⊢
 refine Ae.bind (Ea (s := s) (ha.ext xE) hx.2) ?_
 rintro ⟨_, w3⟩ ⟨a3, c3, S3, rfl, d3, hS3, E3⟩
 have zE3 := E3.size
 try simp only [qz] at zE3
 try dsimp only at d3 E3
 have zE3 := E3.size
 simp only [World.size_alloc, Ad, size_setRow] at zE3
 rw [hp'] at d3 ⊢
 have X7 : hp w3 w2.heap.size = some (.cells #[.slice a2 p.length c2] 32 (0, 0)) := (E3.Ai (by simp only [World.size_alloc, size_setRow, Ad]; omega)).trans (by first | assumption | rfl | (simp (disch := first | exact xD | fail) [-Option.bind_some, qs, -Aa, -Ab]; done))
 have F23 : Ext w2 w3 := xE
 simp (disch := first | exact xD | fail) [-Option.bind_some, -Aa, -Ab, X7]
 refine Ae.bind (DT (d2.ext xE) d3) ?_
 rintro ⟨_, w4⟩ ⟨rfl, E4⟩
 try dsimp only at E4
 have zE4 := E4.size
 try simp only [qz] at zE4
 have X7 : hp w4 w2.heap.size = some (.cells #[.slice a2 p.length c2] 32 (0, 0)) := (E4.Ai (Aq X7)).trans X7
 by_cases hok : Nl xs = true ∧ 0 ≤ s ∧ s ≤ 3
 ·have hsm := Jx hok.1 hok.2.1 hok.2.2
  rw [hp'] at hsm
  have hp4 : p.length = 4 := hsm.2
  have hp0 : ((p.length : Int) == 0) = false := by rw [hp4]; rfl
  have F24 : Ext w2 w4 := xE
  by_cases h80 : xs.length < 80
  ·have F4 : Ext w1 w4 := xE
   rw [hp4] at X7 d2
   have h80' : ¬ (80 : Int) ≤ xs.length := by omega
   simp (disch := first | exact xD | fail) [-Option.bind_some, -Aa, -Ab, h80', hp4, X7]
   refine Ae.mono (IC hp' hp4 h80 hok.1 hok.2.1 hok.2.2 (ha.ext F4) 4 0 _ _ (by omega) xA xA xA xA (by first | assumption | rfl | (simp (disch := first | exact xD | fail) [-Option.bind_some, qs, -Aa, -Ab, qm, X7, E1.Ai, E2.Ai, E3.Ai, E4.Ai]; done)) ⟨_, d2.ext F24⟩ xE) ?_
   rintro r ⟨h1, h2⟩
   exact hQ _ ⟨h1, Ext.tr xE h2⟩
  ·have h80' : (80 : Int) ≤ xs.length := by omega
   simp (disch := first | exact xD | fail) [-Option.bind_some, -Aa, -Ab, X7, hp0, h80']
   refine Ae.bind (Ea (s := s) (ha.ext xE) hx.2) ?_
   rintro ⟨_, w5⟩ ⟨a5, c5, S5, rfl, d5, hS5, E5⟩
   have zE5 := E5.size
   try simp only [qz] at zE5
   try dsimp only at d5 E5
   rw [hp'] at d5 ⊢
   have X7 : hp w5 w2.heap.size = some (.cells #[.slice a2 p.length c2] 32 (0, 0)) := (E5.Ai (by (try simp only [Ad]); exact Aq X7)).trans X7
   simp (disch := first | exact xD | fail) [-Option.bind_some, -Aa, -Ab, X7]
   refine Ae.bind (DT (d2.ext xE) d5) ?_
   rintro ⟨_, w6⟩ ⟨rfl, E6⟩
   try dsimp only at E6
   have zE6 := E6.size
   try simp only [qz] at zE6
   simp (disch := first | exact xD | fail) [-Option.bind_some, -Aa, -Ab]
   exact hQ _ ⟨rfl, xE⟩
 ·have hnil := Qx hok
  rw [hp'] at hnil
  subst hnil
  simp (disch := first | exact xD | fail) [-Option.bind_some, -Aa, -Ab, X7]
  refine Ae.bind (Ea (s := s) (ha.ext xE) hx.2) ?_
  rintro ⟨_, w5⟩ ⟨a5, c5, S5, rfl, d5, hS5, E5⟩
  have zE5 := E5.size
  try simp only [qz] at zE5
  try dsimp only at d5 E5
  rw [hp'] at d5 ⊢
  have X7 : hp w5 w2.heap.size = some (.cells #[.slice a2 0 c2] 32 (0, 0)) := (E5.Ai (by (try simp only [Ad]); exact Aq X7)).trans X7
  simp (disch := first | exact xD | fail) [-Option.bind_some, -Aa, -Ab, X7]
  refine Ae.bind (DT (d2.ext xE) d5) ?_
  rintro ⟨_, w6⟩ ⟨rfl, E6⟩
  try dsimp only at E6
  have zE6 := E6.size
  try simp only [qz] at zE6
  simp (disch := first | exact xD | fail) [-Option.bind_some, -Aa, -Ab]
  exact hQ _ ⟨rfl, xE⟩
end Go.Proofs.YtjhhommnkaemlaaGreat.X
