/- A part of the proof, without conditions. -/
import Derived.Test.YtjhhommnkaemlaaGreatEvO
import Derived.Test.YtjhhommnkaemlaaGreatS13
set_option linter.unusedVariables false
set_option linter.unusedSimpArgs false
set_option linter.deprecated false
set_option maxRecDepth 100000
set_option maxHeartbeats 1000000
namespace Go.Proofs.YtjhhommnkaemlaaGreat.X
open Go Go.Ev Go.RowKit
def Ed (ns : List CNode) : List CNode := ns ++ [⟨JP ns, []⟩]
theorem MX {a : Option Addr} {n c : Nat} {S : Nat → Prop} {ns : List CNode} {w : World} (h0 : 0 < ns.length) (h4 : ns.length < 4) (ho : O AV S w [.slice a n c] ns) :
  Ae (EV P 130 #[.agg #[.slice a n c]] w) fun r => ∃ a' c', r.1 = .agg #[.slice a' (Ed ns).length c'] ∧ O AV (fun b => S b ∨ In w.heap.size r.2.heap.size b) r.2 [.slice a' (Ed ns).length c'] (Ed ns) ∧ Mod S w r.2 := by
 obtain ⟨rfl, hm, _⟩ := ho.n
 have ho := ho.wide (S' := fun b => S b ∧ b < w.heap.size) (fun b h1 h2 => ⟨h1, h2⟩)
 obtain ⟨x, hx, _⟩ := Ak (l := ns) (k := ns.length - 1) (by omega)
 have hj : Ed ns = ns ++ [⟨x.store, []⟩] := by rw [Ed, JP, hx]
 have hjl : (Ed ns).length = ns.length + 1 := by rw [hj, List.length_append]; rfl
 obtain ⟨b1, o1, cs1, ha1, A1, D1, _, l1⟩ := ho.d.at (by decide) hx
 obtain ⟨a2, c2, a4, c4, rfl, h2, h3⟩ := D.node.1 D1
 subst ha1
 have p0 := A1 0 _ rfl
 have p1 := A1 1 _ rfl
 simp only [Bd, Nat.add_zero] at p0 p1
 refine Ae.post fun Q hQ => ?_
 refine Ae.enter plain mixed (LM _ _) (by kernel_rfl) (n := 1) (by kernel_rfl) rfl ?_
 simp (disch := first | exact xD | fail) [-Option.bind_some, qs, -Aa, -Ab, Cx, show (ns.length : Int) - 1 = ((ns.length - 1 : Nat) : Int) by omega, p0]
 refine Ae.bind (EM (h2.ext xE)) ?_
 rintro ⟨_, w2⟩ ⟨a2, c2, rfl, o2, E2⟩
 try dsimp only at a2 c2 o2 E2
 have zE2 := E2.size
 try simp only [qz] at zE2
 simp (disch := first | exact xD | fail) [-Option.bind_some, qs, -Aa, -Ab, E2.Ai]
 refine Ae.bind (O.app (L := Nm) (x := ⟨x.store, []⟩) (mx := 2932031007317) Ly O0 rfl (by decide) (ho.Aj (by intro b hS hb; (try dsimp only at hS); (try simp only [In, qz] at hS hb); first | rfl | (simp (disch := first | exact xF | fail) only [E2.Ai, qk]; done))) (O.FC (v := ⟨x.store, []⟩) (S2 := fun _ => False) (o2.Aj (by intro b hS hb; (try dsimp only at hS); (try simp only [In, qz] at hS hb); first | rfl | (simp (disch := first | exact xF | fail) only [qk]; done))) O.nil (fun _ _ _ h => h)) ?_ At.new (by omega) (by decide) (by decide)) ?_
 ·intro b hb h1 h2
  simp only [In, World.size_alloc, Ad, or_false] at *
  omega
 rintro ⟨_, w3⟩ ⟨a3, c3, rfl, o3, M3⟩
 have zM3 := M3.size
 try simp only [qz] at zM3
 try dsimp only at o3 M3
 have zM3 := M3.size
 simp only [World.size_alloc] at zM3
 have M4 : Mod S w w3 := Mod.AW (Mod.of xE _) M3 (fun x _ h => h.1)
 have zM4 := M4.size
 try simp only [qz] at zM4
 have Y1 : hp w3 w.heap.size = some (.cells #[.slice (some ⟨b1, o1, none⟩) ns.length c] 81 (0, 0)) := (M3.Ai w.heap.size xN (fun h => by omega)).trans (by first | assumption | rfl | (simp (disch := first | exact xD | fail) [-Option.bind_some, qs, -Aa, -Ab, E2.Ai]; done))
 have Y2 : hp w3 (w.heap.size + 1) = some (.cells #[.slice none 0 0] 81 (0, 0)) := (M3.Ai (w.heap.size + 1) xN (fun h => by omega)).trans (by first | assumption | rfl | (simp (disch := first | exact xD | fail) [-Option.bind_some, qs, -Aa, -Ab, E2.Ai]; done))
 rw [hjl, hj] at hQ
 simp (disch := first | exact xD | fail) [-Option.bind_some, qs, -Aa, -Ab, qm, Y1, Y2]
 refine hQ _ ⟨a3, c3, rfl, (o3.Aj ?_).wide ?_, (M4.AL (.inl (by omega)) _).AL (.inl (by omega)) _⟩
 ·intro b hS hb
  simp only [In, World.size_alloc, Ad, or_false] at *
  rw [Ac (by omega), Ac (by omega)]
 ·intro b h1 h2
  simp only [In, World.size_alloc, size_setRow, Ad, or_false] at *
  rcases h1 with h | h | h
  ·exact .inl h.1
  ·exact .inr (by omega)
  ·exact .inr (by omega)
theorem DT {a b : Option Addr} {n m c c' : Nat} {S S' : Nat → Prop} {xs : List Tag} {w : World} (ha : D AJ S w [.slice a n c] xs) (hb : D AJ S' w [.slice b m c'] xs) :
  Ae (EV P 15 #[.agg #[.slice a n c], .agg #[.slice b m c']] w) fun r => r.1 = .bool true ∧ Ext w r.2 := MH ha.A0 hb.A0
theorem GR (a b : Nat) : (a : Int).tmod (b : Int) = ((a % b : Nat) : Int) := by
 rw [Int.tmod_eq_emod_of_nonneg (by omega)]; rfl
theorem KZ (a b : Nat) : (a : Int).tdiv (b : Int) = ((a / b : Nat) : Int) := by
 rw [Int.tdiv_eq_ediv_of_nonneg (by omega)]; rfl
theorem H9 {w : World} {s : Value} {ns : List Int} (h : DI w s ns) {i : Nat} (hi : i < ns.length) : ∃ (b o c m : Nat), s = .slice (some ⟨b, o, none⟩) ns.length c ∧ Bn (hp w b) (o + i) = some (.int .u8 (m : Int)) ∧ m ≤ 255 ∧ b < w.heap.size := by
 obtain ⟨a, c, h1, h2, h3, h4, h5⟩ := h
 rcases h5 with h5 | ⟨b, o, h5, h6⟩
 ·subst h5; simp at hi
 ·subst h5
  have hm := h4 ns[i] (List.getElem_mem hi)
  obtain ⟨m, hmm⟩ := Int.eq_ofNat_of_zero_le hm.1
  have hc := h6 i (.int .u8 (m : Int)) (by rw [List.getElem?_map, List.getElem?_eq_getElem hi, hmm]; rfl)
  refine ⟨b, o, c, m, h1, hc, by omega, ?_⟩
  rcases Nat.lt_or_ge b w.heap.size with h' | h'
  ·exact h'
  ·rw [hp, Array.getElem?_eq_none h'] at hc; simp [Bn] at hc
theorem Qj {s : Value} {ns : List Int} (h : ns.length ≠ 0) : DA s ns = (Av s).toList := by
 cases ns with
 | nil => exact absurd rfl h
 | cons n ns => rfl
theorem IQ {b p t : Nat} {k : Nat} (hk : 1 ≤ k) (hk2 : k ≤ 1000000) (hp0 : p ≤ 1000000000000) {s : Value} {ns : List Int} {w : World} (hr : VM t w b s p) (hs : DI w s ns) (hn : ns.length ≤ 1000000000000) (hb : ∀ x ∈ DA s ns, x ≠ b) :
  Ae (EV P 42 #[pt b 0, i64 k] w) fun r => ∃ m : Nat, r.1 = i64 m ∧ m < k ∧ VM t r.2 b s ((p + 1 : Nat) : Int) ∧ But w r.2 (some b) := by
 have hs' := hs
 obtain ⟨a, c, rfl, hc, hcm, _, _⟩ := hs
 unfold VM at *
 have hwr : ∀ x : Int, 0 ≤ x → x ≤ 9000000000000000000 → IntKind.i64.wrap x = x := fun x h0 h1 => Kv (by omega) (by omega)
 have b1 : But w (w.setRow b #[.slice a ns.length c, i64 ((p : Int) + 1)]) (some b) := But.set w b _
 have hx1 : hp (w.setRow b #[.slice a ns.length c, i64 ((p : Int) + 1)]) b = some (.cells #[.slice a ns.length c, i64 (((p + 1 : Nat)) : Int)] t (0, 0)) := by rw [B8, hr]; rfl
 refine Ae.enter plain mixed (HR _ _ _) (by kernel_rfl) (n := 2) (by kernel_rfl) rfl ?_
 have kk : ¬ (k : Int) < 1 := by omega
 have kn : (k : Int) ≠ 0 := by omega
 by_cases h0 : ns.length = 0
 ·have hz : ((ns.length : Int) == 0) = true := by simp only [beq_iff_eq]; omega
  simp (disch := first | omega | (simp only [World.size_alloc, size_setRow, Ad]; done) | (simp only [World.size_alloc, size_setRow, Ad]; omega) | (simp only [List.length_set, Array.length_toList]; omega)) [-Option.bind_some, LB, hr, hwr, hz, kk]
  exact ⟨0, rfl, by omega, b1⟩
 have hz : ((ns.length : Int) == 0) = false := by simp only [beq_eq_false_iff_ne, ne_eq]; omega
 by_cases h1 : p < ns.length
 ·obtain ⟨d, o, c', m, hs, hcell, hm, hd⟩ := H9 hs' h1
  have hdb : d ≠ b := hb d (by rw [Qj h0]; simp [hs, Av])
  simp only [Value.slice.injEq, true_and] at hs
  obtain ⟨rfl, rfl⟩ := hs
  have hm1 : (m : Int).tmod (k : Int) = ((m % k : Nat) : Int) := GR m k
  simp (disch := first | omega | (simp only [World.size_alloc, size_setRow, Ad]; done) | (simp only [World.size_alloc, size_setRow, Ad]; omega) | (simp only [List.length_set, Array.length_toList]; omega)) [-Option.bind_some, Ac, LB, hr, hwr, hz, h1, kk, TH, hcell, Ac, Ov, hm1]
  exact ⟨m % k, rfl, Nat.mod_lt _ (by omega), b1⟩
 have g1 : p % ns.length < ns.length := Nat.mod_lt _ (by omega)
 have g2 : (p * 7 + 3) % ns.length < ns.length := Nat.mod_lt _ (by omega)
 obtain ⟨d, o, c', m1, hs, hcell1, hm1, hd⟩ := H9 hs' g1
 obtain ⟨d2, o2, c2, m2, hs2, hcell2, hm2, hd2⟩ := H9 hs' g2
 have hdb : d ≠ b := hb d (by rw [Qj h0]; simp [hs, Av])
 have he := hs.symm.trans hs2
 simp only [Value.slice.injEq, Option.some.injEq, Addr.mk.injEq, true_and, and_true] at he hs
 obtain ⟨⟨rfl, rfl⟩, rfl⟩ := he
 obtain ⟨rfl, rfl⟩ := hs
 have t1 : (p : Int).tmod (ns.length : Int) = ((p % ns.length : Nat) : Int) := GR _ _
 have t2 : ((p : Int) * 7 + 3).tmod (ns.length : Int) = (((p * 7 + 3) % ns.length : Nat) : Int) := GR (p * 7 + 3) _
 have t3 : (p : Int).tdiv (ns.length : Int) = ((p / ns.length : Nat) : Int) := KZ _ _
 have t4 : p / ns.length ≤ p := Nat.div_le_self _ _
 generalize p % ns.length = q1 at *
 generalize (p * 7 + 3) % ns.length = q2 at *
 generalize p / ns.length = q3 at *
 have hn0 : (ns.length : Int) ≠ 0 := by omega
 simp (disch := first | omega | (simp only [World.size_alloc, size_setRow, Ad]; done) | (simp only [World.size_alloc, size_setRow, Ad]; omega) | (simp only [List.length_set, Array.length_toList]; omega)) [-Option.bind_some, Ac, LB, hr, hwr, hz, h1, kk, TH, hcell1, hcell2, Ac, Ov, UB, t1, t2, t3]
 obtain ⟨X, hX⟩ : ∃ X : Nat, X = m1 * 131 + m2 * 1117 + p * 29 + q3 * 53 := ⟨_, rfl⟩
 have hXi : (m1 : Int) * 131 + m2 * 1117 + p * 29 + q3 * 53 = (X : Int) := by omega
 have hXd : (X : Int).tdiv 64 = ((X / 64 : Nat) : Int) := KZ X 64
 rw [hXi, hXd, hwr _ (by omega) (by omega)]
 have hxo := fun x y w => (UC (P := P) 3 x y (a := X) (b := X / 64) (by omega) (by omega) w).1
 rw [hxo]
 generalize (X ^^^ X / 64 : Nat) = Y
 have hY : (Y : Int).tmod (k : Int) = ((Y % k : Nat) : Int) := GR Y k
 simp (disch := first | omega | (simp only [World.size_alloc, size_setRow, Ad]; done) | (simp only [World.size_alloc, size_setRow, Ad]; omega) | (simp only [List.length_set, Array.length_toList]; omega)) [-Option.bind_some, Ov, hY]
 exact ⟨Y % k, rfl, Nat.mod_lt _ (by omega), by simp (disch := first | omega | (simp only [World.size_alloc, size_setRow, Ad]; done) | (simp only [World.size_alloc, size_setRow, Ad]; omega) | (simp only [List.length_set, Array.length_toList]; omega)) [-Option.bind_some, hr], b1.tr (But.of (BJ _) _)⟩
def R (w : World) (B g p : Nat) : Prop := ∃ s ns, VM 93 w g s p ∧ DI w s ns ∧ ns.length ≤ 1000000000000 ∧ (∀ x ∈ DA s ns, x < B) ∧ B ≤ g
theorem R.lt {w : World} {B g p : Nat} (h : R w B g p) : B ≤ g ∧ g < w.heap.size := by
 obtain ⟨s, ns, h1, h2, h3, h4, h5⟩ := h
 exact ⟨h5, Aq h1⟩
theorem R.Aj {w w' : World} {B g p : Nat} (h : R w B g p) (k : ∀ b, b < B ∨ b = g → b < w.heap.size → hp w' b = hp w b) : R w' B g p := by
 obtain ⟨s, ns, h1, h2, h3, h4, h5⟩ := h
 refine ⟨s, ns, (k g (.inr rfl) (Aq h1)).trans h1, ?_, h3, h4, h5⟩
 obtain ⟨a, c, q1, q2, q3, q4, q5⟩ := h2
 refine ⟨a, c, q1, q2, q3, q4, ?_⟩
 cases ns with
 | nil => exact .inl rfl
 | cons n ns =>
  rcases q5 with q5 | ⟨d, o, q6, q7⟩
  ·cases q5
  ·subst q1; subst q6
   have hd := h4 d (by simp [DA, Av])
   exact .inr ⟨d, o, rfl, q7.same (k d (.inl hd) (At.lt (l := ns.map (Value.int .u8)) q7))⟩
theorem R.ext {w w' : World} {B g p : Nat} (h : R w B g p) (k : Ext w w') : R w' B g p := h.Aj fun b _ hb => k.Ai hb
theorem Am {B g p k : Nat} (hk : 1 ≤ k) (hk2 : k ≤ 1000000) (hp0 : p ≤ 1000000000000) {w : World} (hr : R w B g p) :
  Ae (EV P 42 #[pt g 0, i64 k] w) fun r => ∃ m : Nat, r.1 = i64 m ∧ m < k ∧ R r.2 B g (p + 1) ∧ Mod (fun b => b = g) w r.2 := by
 obtain ⟨s, ns, h1, h2, h3, h4, h5⟩ := hr
 have hb : ∀ x ∈ DA s ns, x ≠ g := fun x hx => by have := h4 x hx; omega
 refine Ae.mono (IQ hk hk2 hp0 h1 h2 h3 hb) ?_
 rintro r ⟨m, e1, e2, e3, M⟩
 have M' : Mod (fun b => b = g) w r.2 := ⟨M.os, M.tape, M.output, M.size, fun b hb hne => M.Ai b hb (by simpa using fun h => hne h.symm)⟩
 have R0 : R w B g p := ⟨s, ns, h1, h2, h3, h4, h5⟩
 refine ⟨m, e1, e2, ⟨s, ns, e3, ?_, h3, h4, h5⟩, M'⟩
 obtain ⟨a, c, q1, q2, q3, q4, q5⟩ := h2
 refine ⟨a, c, q1, q2, q3, q4, ?_⟩
 cases ns with
 | nil => exact .inl rfl
 | cons n ns =>
  rcases q5 with q5 | ⟨d, o, q6, q7⟩
  ·cases q5
  ·subst q1; subst q6
   have hd := h4 d (by simp [DA, Av])
   exact .inr ⟨d, o, rfl, q7.same (M'.Ai d (At.lt (l := ns.map (Value.int .u8)) q7) (by omega))⟩
theorem Lx {s : Value} {ns : List Int} {w : World} (hs : DI w s ns) (hn : ns.length ≤ 1000000000000) :
  Ae (EV P 27 #[s] w) fun r => ∃ g, r.1 = pt g 0 ∧ R r.2 w.heap.size g 0 ∧ Ext w r.2 := by
 have hlt : ∀ x ∈ DA s ns, x < w.heap.size := by
  intro x hx
  obtain ⟨a, c, q1, q2, q3, q4, q5⟩ := hs
  cases ns with
  | nil => simp [DA] at hx
  | cons n ns =>
   rcases q5 with q5 | ⟨d, o, q6, q7⟩
   ·cases q5
   ·subst q1; subst q6
    simp only [DA, Av, Option.toList_some, List.mem_singleton] at hx
    rw [hx]
    exact At.lt (l := ns.map (Value.int .u8)) q7
 have fin : ∀ (e : Env) (s : Value) (ns : List Int), e 0 = s → DI w s ns → ns.length ≤ 1000000000000 → (∀ x ∈ DA s ns, x < w.heap.size) → Ae (CJ e w) fun r => ∃ g, r.1 = pt g 0 ∧ R r.2 w.heap.size g 0 ∧ Ext w r.2 := by
  intro e s ns e0 hs hn hlt
  have hs' := hs
  obtain ⟨a, c, rfl, q2, q3, q4, q5⟩ := hs
  refine Ae.post fun Q hQ => ?_
  rw [Ii]
  simp (disch := first | exact xD | fail) [-Option.bind_some, -Aa, -Ab, e0]
  refine hQ _ ⟨w.heap.size, rfl, ⟨_, ns, ?_, hs'.mono (Ext.Aj xE), hn, hlt, by omega⟩, xE⟩
  show hp _ _ = _
  exact (by first | assumption | rfl | (simp (disch := first | exact xD | fail) [-Option.bind_some, qs, -Aa, -Ab]; done))
 have hs' := hs
 obtain ⟨a, c, rfl, q2, q3, q4, q5⟩ := hs
 refine Ae.post fun Q hQ => ?_
 refine Ae.enter plain mixed (Kr _ _) (by kernel_rfl) (n := 1) (by kernel_rfl) rfl ?_
 by_cases hl : 2000 < ns.length
 ·have hts : DI w (.slice a 2000 c) (ns.take 2000) := by
   refine ⟨a, c, by rw [List.length_take]; congr 1; omega, by rw [List.length_take]; omega, q3, fun n hn => q4 n (List.mem_of_mem_take hn), ?_⟩
   rcases q5 with q5 | ⟨d, o, q6, q7⟩
   ·subst q5; simp at hl
   ·refine .inr ⟨d, o, q6, fun j v hv => q7 j v ?_⟩
    rw [List.map_take, List.getElem?_take] at hv
    split at hv
    ·exact hv
    ·cases hv
  simp (disch := first | exact xD | fail) [-Option.bind_some, -Aa, -Ab, show (2000 : Int) < ns.length by omega, PO (P := P) TG]
  refine Ae.mono (fin _ (.slice a 2000 c) (ns.take 2000) rfl hts (by rw [List.length_take]; omega) ?_) hQ
  intro x hx
  refine hlt x ?_
  cases ns with
  | nil => simp at hl
  | cons n ns =>
   cases a with
   | none => simp [DA, Av] at hx
   | some _ => simpa [DA, Av] using hx
 ·simp (disch := first | exact xD | fail) [-Option.bind_some, -Aa, -Ab, show ¬ (2000 : Int) < ns.length by omega]
  exact Ae.mono (fin _ _ ns rfl hs' hn hlt) hQ
theorem Bg {B g p b k c : Nat} {ints : List Int} (hk : 1 ≤ k) (hk2 : k ≤ 1000000) (hp0 : p ≤ 1000000000000) {w : World} (hl : ints.length = k) (hA : At w b 0 (ints.map fun n => i64 n)) (hbg : b ≠ g) (hr : R w B g p) :
  Ae (EV P 34 #[pt g 0, .slice (some ⟨b, 0, none⟩) k c] w) fun r => ∃ n ∈ ints, r.1 = i64 n ∧ R r.2 B g (p + 1) ∧ Mod (fun b => b = g) w r.2 := by
 refine Ae.post fun Q hQ => ?_
 refine Ae.enter plain mixed (Ir _ _ _) (by kernel_rfl) (n := 2) (by kernel_rfl) rfl ?_
 simp (disch := first | exact xD | fail) [-Option.bind_some, -Aa, -Ab]
 refine Ae.bind (Am hk hk2 hp0 hr) ?_
 rintro ⟨_, w1⟩ ⟨m, rfl, hm, R1, M1⟩
 have zM1 := M1.size
 try simp only [] at zM1
 try dsimp only at R1 M1
 obtain ⟨n, hn, _⟩ := Ak (l := ints) (k := m) (by omega)
 have hA1 := hA m (i64 n) (by rw [List.getElem?_map, hn]; rfl)
 have hbl : b < w.heap.size := by
  rcases Nat.lt_or_ge b w.heap.size with h | h
  ·exact h
  ·rw [hp, Array.getElem?_eq_none h] at hA1; simp [Bn] at hA1
 rw [Nat.zero_add] at hA1
 simp (disch := first | exact xD | fail) [-Option.bind_some, -Aa, -Ab, RL, hA1, M1.Ai]
 exact hQ _ ⟨n, List.mem_of_getElem? hn, rfl, R1, M1⟩
theorem Kj {w : World} : Ae (EV P 17 #[] w) fun r => ∃ a c, r.1 = .agg #[.slice a 4 c] ∧ O AJ (In w.heap.size r.2.heap.size) r.2 [.slice a 4 c] (List.replicate 4 ⟨0, 0⟩) ∧ Ext w r.2 := by
 refine Ae.post fun Q hQ => ?_
 refine Ae.enter plain mixed (JT _) (by kernel_rfl) (n := 0) (by kernel_rfl) rfl ?_
 simp (disch := first | exact xD | fail) [-Option.bind_some, -Aa, -Ab]
 refine Ae.bind (O.make (L := Ey) (mx := 8796093021952) (n := 4) (x0 := (⟨0, 0⟩ : Tag)) CD F9 rfl (by decide) (fun w => O.tag.2 rfl) (by decide) (by decide) (by decide)) ?_
 rintro ⟨_, w1⟩ ⟨rfl, o1, z1, E1⟩
 have zE1 := E1.size
 try simp only [qz] at zE1
 try dsimp only at o1 z1 E1
 have X1 := E1.Ai (b := w.heap.size) (by simp)
 simp only [World.size_alloc] at z1 o1
 simp (disch := first | exact xD | fail) [-Option.bind_some, qs, -Aa, -Ab, qm, E1.Ai]
 exact hQ _ ⟨_, _, rfl, (o1.Aj (by intro b hS hb; (try dsimp only at hS); (try simp only [In, qz] at hS hb); first | rfl | (simp (disch := first | exact xF | fail) only [qk]; done))).wide xV, xE⟩
def addNode (n : CNode) (v : Ver) (last : Bool) : CNode := ⟨n.store.set v.key.toNat v, if last then n.wait else n.wait ++ [v]⟩
def F8 (ns : List CNode) (i : Nat) (v : Ver) : List CNode := match ns[i]? with
 | some n => (match n.store[v.key.toNat]? with
  | some u => if AG u.tag v.tag then ns.set i (addNode n v (decide (ns.length ≤ i + 1))) else ns
  | none => ns)
 | none => ns
theorem IU {a : Option Addr} {n c i : Nat} {S S1 : Nat → Prop} {ns : List CNode} {cs : List Value} {v : Ver} {x : CNode} {w : World} (ho : O AV S w [.slice a n c] ns) (hv : D BW S1 w cs v) (hd : ∀ b, b < w.heap.size → S1 b → ¬ S b)
  (hx : ns[i]? = some x) (h0 : 0 ≤ v.key) (h1 : v.key.toNat < x.store.length) (h6 : x.wait.length ≤ 1000000) (h4 : ns.length ≤ 1000000) :
  Ae (EV P 138 #[.agg #[.slice a n c], i64 i, .agg cs.toArray] w) fun r => r.1 = .agg #[.slice a ns.length c] ∧ O AV (fun b => S b ∨ In w.heap.size r.2.heap.size b) r.2 [.slice a ns.length c] (F8 ns i v) ∧ Mod S w r.2 := by
 obtain ⟨rfl, hm, _⟩ := ho.n
 have ho' := ho
 obtain ⟨av, cv, rfl, hv1, hv2⟩ := D.BV.1 hv
 obtain ⟨u, hu, _⟩ := Ak h1
 have hlt : i < ns.length := (List.getElem?_eq_some_iff.1 hx).1
 obtain ⟨g, cur, ds, S2, rfl, hSg, hgl, hg, hle, hx1, hS2, put⟩ := ho.row (by decide) hx
 obtain ⟨a2, c2, a3, c3, Ss, Sw, rfl, o2, o3, hSs, hSw⟩ := O.Kz hx1
 simp only [Bd] at hg hle put
 have o2' := o2
 obtain ⟨g2, cur2, ds2, S3, rfl, hSg2, hgl2, hg2, hle2, hx2, hS3, put2⟩ := o2.row (by decide) hu
 obtain ⟨au, cu, rfl, hu1, hu2⟩ := O.BV.1 hx2
 simp only [Bw] at hg2 hle2 put2
 have hk : v.key < x.store.length := by omega
 have hne : g2 ≠ g := (hS2 g2 (hSs g2 hSg2).1).2.1
 refine Ae.post fun Q hQ => ?_
 refine Ae.enter plain mixed (Mo _ _ _ _) (by kernel_rfl) (n := 3) (by kernel_rfl) rfl ?_
 simp (disch := first | exact xD | fail) [-Option.bind_some, qs, -Aa, -Ab, qm, Cx, BP, hg, hg2]
 refine Ae.bind (AM u.tag v.tag _) ?_
 rintro ⟨_, w1⟩ ⟨rfl, E1⟩
 try dsimp only at E1
 have zE1 := E1.size
 try simp only [qz] at zE1
 cases hl : AG u.tag v.tag
 ·have e : F8 ns i v = ns := by rw [F8, hx]; simp [hu, hl]
  rw [e] at hQ
  simp (disch := first | exact xD | fail) [-Option.bind_some, qs, -Aa, -Ab, qm, E1.Ai]
  exact hQ _ ⟨rfl, (ho'.Aj (by intro b hS hb; (try dsimp only at hS); (try simp only [In, qz] at hS hb); first | rfl | (simp (disch := first | exact xF | fail) only [E1.Ai, qk]; done))).wide (fun b h _ => .inl h), xM⟩
 ·have e : F8 ns i v = ns.set i (addNode x v (decide (ns.length ≤ i + 1))) := by rw [F8, hx]; simp [hu, hl]
  rw [e] at hQ
  have hst : Gf x.store v = x.store.set v.key.toNat v := LH hu hl
  simp (disch := first | exact xD | fail) [-Option.bind_some, qs, -Aa, -Ab, qm, Cx, hg, E1.Ai]
  refine Ae.bind (NZ (o2'.Aj (by intro b hS hb; (try dsimp only at hS); (try simp only [In, qz] at hS hb); first | rfl | (simp (disch := first | exact xF | fail) only [E1.Ai, qk]; done))) (hv.ext xE) h0 h1) ?_
  rintro ⟨_, w2⟩ ⟨rfl, o4, M2⟩
  have zM2 := M2.size
  try simp only [qz] at zM2
  try dsimp only at o4 M2
  have zM2 := M2.size
  simp only [Ad] at zM2
  have nS : ∀ b, w.heap.size ≤ b → ¬ Ss b := fun b hb h => by have := (hSs b h).2.2; omega
  have G2 : hp w2 g = hp w g := (M2.Ai g xN (fun h => (hS2 g (hSs g h).1).2.1 rfl)).trans (by first | assumption | rfl | (simp (disch := first | exact xD | fail) [-Option.bind_some, qs, hg, E1.Ai]; done))
  have Y1 : hp w2 w.heap.size = some (.cells #[.slice (some ⟨g, 0, none⟩) ns.length c] 81 (0, 0)) := (M2.Ai w.heap.size xN (nS _ (by omega))).trans (by first | assumption | rfl | (simp (disch := first | exact xD | fail) [-Option.bind_some, qs, -Aa, -Ab, E1.Ai]; done))
  have Y2 : hp w2 (w.heap.size + 1) = some (.cells #[i64 v.key, i64 v.tag.t, i64 v.tag.p, .slice av v.past.length cv, .string v.text, .bool v.gone] 49 (0, 0)) := (M2.Ai (w.heap.size + 1) xN (nS _ (by omega))).trans (by first | assumption | rfl | (simp (disch := first | exact xD | fail) [-Option.bind_some, qs, -Aa, -Ab, E1.Ai]; done))
  have Y3 : hp w2 (w.heap.size + 1 + 1) = some (.cells #[.slice none 0 0] 81 (0, 0)) := (M2.Ai (w.heap.size + 1 + 1) xN (nS _ (by omega))).trans (by first | assumption | rfl | (simp (disch := first | exact xD | fail) [-Option.bind_some, qs, -Aa, -Ab, E1.Ai]; done))
  have hw : IntKind.i64.wrap ((ns.length : Int) - 1) = (ns.length : Int) - 1 := Kv (by omega) (by omega)
  have MA : Mod S w w2 := Mod.AW (Mod.of xE S) M2 (fun x _ h => (hS2 x (hSs x h).1).1)
  rw [hst] at o4
  by_cases hlast : i + 1 < ns.length
  ·simp (disch := first | exact xD | fail) [-Option.bind_some, qs, -Aa, -Ab, qm, Cx, Y1, Y2, G2, hg, hw, show (i : Int) < (ns.length : Int) - 1 by omega]
   have hg2' : hp (w2.setRow g (Bh cur (i * 2) [.slice (some ⟨g2, 0, none⟩) x.store.length c2, .slice a3 x.wait.length c3]).toArray) g = some (.cells (Bh cur (i * 2) [.slice (some ⟨g2, 0, none⟩) x.store.length c2, .slice a3 x.wait.length c3]).toArray 86 (0, 0)) := (by first | assumption | rfl | (simp (disch := first | exact xD | fail) [-Option.bind_some, -Aa, -Ab, G2, hg]; done))
   have hvk : D BW S1 (dw (w2.setRow g (Bh cur (i * 2) [.slice (some ⟨g2, 0, none⟩) x.store.length c2, .slice a3 x.wait.length c3]).toArray)) [i64 v.key, i64 v.tag.t, i64 v.tag.p, .slice av v.past.length cv, .string v.text, .bool v.gone] v := by
    refine hv.Aj fun b hb hbl => ?_
    have q1 : b ≠ g := fun h => hd b hbl hb (h ▸ hSg)
    have q2 : ¬ Ss b := fun h => hd b hbl hb (hS2 b (hSs b h).1).1
    rw [BB, Ac q1]
    exact (M2.Ai b xN q2).trans (by first | assumption | rfl | (simp (disch := first | exact xD | fail) [-Option.bind_some, qs, E1.Ai]; done))
   refine Ae.bind (AX hvk) ?_
   rintro ⟨_, w3⟩ ⟨es, rfl, o5, E3⟩
   try dsimp only at es o5 E3
   have zE3 := E3.size
   try simp only [qz] at zE3
   have zds := O.BV.1 o5
   obtain ⟨ae, ce, rfl, _, _⟩ := zds
   have zE3 := E3.size
   simp only [size_setRow, Ad] at zE3
   have hkw : ∀ b, b < w.heap.size → b ≠ g → ¬ Ss b → hp w3 b = hp w b := by
    intro b q1 q2 q3
    refine (E3.Ai (by simp only [size_setRow, Ad]; omega)).trans ?_
    rw [BB, Ac q2]
    exact (M2.Ai b xN q3).trans (by first | assumption | rfl | (simp (disch := first | exact xD | fail) [-Option.bind_some, qs, E1.Ai]; done))
   have hkn : ∀ b, b ≠ g → b < w2.heap.size → hp w3 b = hp w2 b := by
    intro b q1 q2
    refine (E3.Ai (by simp only [size_setRow, Ad]; omega)).trans ?_
    rw [BB, Ac q1]
   have hg3 : hp w3 g = some (.cells (Bh cur (i * 2) [.slice (some ⟨g2, 0, none⟩) x.store.length c2, .slice a3 x.wait.length c3]).toArray 86 (0, 0)) := (E3.Ai (by simp only [size_setRow, Ad]; omega)).trans ((BB _ _).trans hg2')
   simp (disch := first | exact xD | fail) [-Option.bind_some, qs, -Aa, -Ab, qm, Y1, hg2', E3.Ai]
   refine Ae.bind (O.app (L := BW) (S := fun b => Sw b) (mx := 1954687338211) (xs := x.wait) (x := v) CP Fw rfl (by decide) (o3.Aj ?_) (o5.Aj (by intro b hS hb; (try dsimp only at hS); (try simp only [In, qz] at hS hb); first | rfl | (simp (disch := first | exact xF | fail) only [qk]; done))) ?_ At.new (by omega) (by decide) (by decide)) ?_
   ·intro b hS hb
    rw [Ag (by omega)]
    exact hkw b hb (hS2 b (hSw b hS).1).2.1 (hSw b hS).2.1
   ·intro b hb q1 q2
    have := (hSw b q1).2.2
    simp only [In, size_setRow, Ad] at q2
    omega
   rintro ⟨_, w4⟩ ⟨a7, c7, rfl, o7, M7⟩
   have zM7 := M7.size
   try simp only [qz] at zM7
   try dsimp only at o7 M7
   have zM7 := M7.size
   simp only [World.size_alloc] at zM7
   have nW : ∀ b, w.heap.size ≤ b → ¬ Sw b := fun b hb h => by have := (hSw b h).2.2; omega
   have hg4 : hp w4 g = some (.cells (Bh cur (i * 2) [.slice (some ⟨g2, 0, none⟩) x.store.length c2, .slice a3 x.wait.length c3]).toArray 86 (0, 0)) := (M7.Ai g xN (fun h => (hS2 g (hSw g h).1).2.1 rfl)).trans ((Ag (by omega)).trans hg3)
   have hk7 : ∀ b, b < w3.heap.size → ¬ Sw b → hp w4 b = hp w3 b := fun b q1 q2 => (M7.Ai b xN q2).trans (Ag q1)
   have Z1 : hp w4 w.heap.size = some (.cells #[.slice (some ⟨g, 0, none⟩) ns.length c] 81 (0, 0)) := (hk7 _ (by omega) (nW _ (by omega))).trans ((hkn _ (by omega) (by omega)).trans Y1)
   have Z3 : hp w4 (w.heap.size + 1 + 1) = some (.cells #[.slice none 0 0] 81 (0, 0)) := (hk7 _ (by omega) (nW _ (by omega))).trans ((hkn _ (by omega) (by omega)).trans Y3)
   simp (disch := first | exact xD | fail) [-Option.bind_some, qs, -Aa, -Ab, qm, Z1, Z3, hg4, FQ]
   have hns : decide (ns.length ≤ i + 1) = false := by simp only [decide_eq_false_iff_not]; omega
   rw [hns] at hQ
   have MB : Mod S w w3 := ((MA.AL (.inr hSg) _).SN).ex E3
   have MC : Mod S w w4 := Mod.AW (MB.al _) M7 (fun x _ h => (hS2 x (hSw x h).1).1)
   refine hQ _ ⟨rfl, (put _ _ (addNode x v false) _ (O.FC (v := addNode x v false) (o4.Aj ?_) (o7.Aj ?_) ?_) (by first | assumption | rfl | (simp (disch := first | exact xD | fail) [-Option.bind_some, qs, -Aa, -Ab, hg4]; done)) ?_ ?_).wide ?_, (MC.AL (.inr hSg) _).AL (.inl (by omega)) _⟩
   ·intro b hS hb
    have q1 : b ≠ g ∧ b ≠ w.heap.size + 1 + 1 ∧ ¬ Sw b := by
     rcases hS with h | h
     ·have := hS2 b (hSs b h).1
      exact ⟨this.2.1, by omega, (hSs b h).2.1⟩
     ·simp only [In, Ad] at h
      exact ⟨by omega, by omega, nW b (by omega)⟩
    rw [Ac q1.2.1, Ac q1.1]
    exact (hk7 b (by omega) q1.2.2).trans (hkn b q1.1 hb)
   ·intro b hS hb
    have q1 : b ≠ g ∧ b ≠ w.heap.size + 1 + 1 := by
     rcases hS with h | h
     ·have := hS2 b (hSw b h).1
      exact ⟨this.2.1, by omega⟩
     ·simp only [In, World.size_alloc, size_setRow, Ad] at h
      omega
    rw [Ac q1.2, Ac q1.1]
   ·intro b hb h1 h2
    simp only [In, World.size_alloc, size_setRow, Ad] at h1 h2
    rcases h1 with h | h
    ·have := hSs b h
     rcases h2 with k | k
     ·exact this.2.1 k
     ·omega
    ·rcases h2 with k | k
     ·exact nW b (by omega) k
     ·omega
   ·intro b hb hS hne hn
    have q2 : ¬ Ss b := fun h => hn (hSs b h).1
    have q3 : ¬ Sw b := fun h => hn (hSw b h).1
    rw [Ac (by omega), Ac hne]
    exact (hk7 b (by omega) q3).trans (hkw b hb hne q2)
   ·intro b hb h
    simp only [In, World.size_alloc, size_setRow, Ad] at h
    rcases h with (h | h) | (h | h)
    ·exact .inl (hSs b h).1
    ·exact .inr (by omega)
    ·exact .inl (hSw b h).1
    ·exact .inr (by omega)
   ·intro b h hb
    simp only [In, World.size_alloc, size_setRow, Ad] at h hb ⊢
    rcases h with h | (h | h) | (h | h)
    ·exact .inl h
    ·exact .inl (hS2 b (hSs b h).1).1
    ·exact .inr (by omega)
    ·exact .inl (hS2 b (hSw b h).1).1
    ·exact .inr (by omega)
  ·simp (disch := first | exact xD | fail) [-Option.bind_some, qs, -Aa, -Ab, qm, Y1, Y3, G2, hg, hw, FQ, show ¬ (i : Int) < (ns.length : Int) - 1 by omega]
   have hns : decide (ns.length ≤ i + 1) = true := by simp only [decide_eq_true_eq]; omega
   rw [hns] at hQ
   refine hQ _ ⟨rfl, (put _ _ (addNode x v true) _ (O.FC (v := addNode x v true) (o4.Aj ?_) (o3.Aj ?_) ?_) (by first | assumption | rfl | (simp (disch := first | exact xD | fail) [-Option.bind_some, qs, -Aa, -Ab, G2, hg]; done)) ?_ ?_).wide ?_, (MA.AL (.inr hSg) _).AL (.inl (by omega)) _⟩
   ·intro b hS hb
    have q1 : b ≠ g ∧ b ≠ w.heap.size + 1 + 1 := by
     rcases hS with h | h
     ·have := hS2 b (hSs b h).1
      exact ⟨this.2.1, by omega⟩
     ·simp only [In, Ad] at h
      omega
    rw [Ac q1.2, Ac q1.1]
   ·intro b hS hb
    have q1 := hSw b hS
    rw [Ac (by omega), Ac (hS2 b q1.1).2.1]
    exact (M2.Ai b xN q1.2.1).trans (by first | assumption | rfl | (simp (disch := first | exact xD | fail) [-Option.bind_some, qs, E1.Ai]; done))
   ·intro b hb h1 h2
    have := hSw b h2
    simp only [In, Ad] at h1
    rcases h1 with h | h
    ·exact this.2.1 h
    ·omega
   ·intro b hb hS hne hn
    have q2 : ¬ Ss b := fun h => hn (hSs b h).1
    rw [Ac (by omega), Ac hne]
    exact (M2.Ai b xN q2).trans (by first | assumption | rfl | (simp (disch := first | exact xD | fail) [-Option.bind_some, qs, E1.Ai]; done))
   ·intro b hb h
    simp only [In, Ad] at h
    rcases h with (h | h) | h
    ·exact .inl (hSs b h).1
    ·exact .inr (by omega)
    ·exact .inl (hSw b h).1
   ·intro b h hb
    simp only [In, size_setRow, Ad] at h hb ⊢
    rcases h with h | (h | h) | h
    ·exact .inl h
    ·exact .inl (hS2 b (hSs b h).1).1
    ·exact .inr (by omega)
    ·exact .inl (hS2 b (hSw b h).1).1
theorem IV (ns : List CNode) (i : Nat) (v : Ver) : (F8 ns i v).length = ns.length := by
 unfold F8
 split
 ·split
  ·split
   ·rw [List.length_set]
   ·rfl
  ·rfl
 ·rfl
def Fv (ns : List CNode) (i : Int) : Bool := (decide (0 ≤ i) && decide (i ≤ (ns.length : Int) - 2)) && (match ns[i.toNat]?, ns[i.toNat + 1]? with
 | some n, some m => decide (0 < n.wait.length) && decide (m.wait.length < 6)
 | _, _ => false)
theorem MY {ns : List CNode} {i : Int} (h : Fv ns i = true) : ∃ (k : Nat) (n m : CNode) (v : Ver) (l : List Ver), i = k ∧ k + 1 < ns.length ∧ ns[k]? = some n ∧ ns[k + 1]? = some m ∧ n.wait = v :: l ∧ m.wait.length < 6 := by
 simp only [Fv, Bool.and_eq_true, decide_eq_true_eq] at h
 obtain ⟨⟨h1, h2⟩, h3⟩ := h
 obtain ⟨k, rfl⟩ := Int.eq_ofNat_of_zero_le h1
 simp only [Int.toNat_natCast] at h3
 obtain ⟨n, hn, _⟩ := Ak (l := ns) (k := k) (by omega)
 obtain ⟨m, hm, _⟩ := Ak (l := ns) (k := k + 1) (by omega)
 rw [hn, hm] at h3
 simp only [Bool.and_eq_true, decide_eq_true_eq] at h3
 cases hw : n.wait with
 | nil => rw [hw] at h3; simp at h3
 | cons v l => exact ⟨k, n, m, v, l, rfl, by omega, hn, hm, hw, h3.2⟩
theorem Om {a : Option Addr} {n c : Nat} {i : Int} {S : Nat → Prop} {ns : List CNode} (h4 : ns.length ≤ 1000000) {w : World} (ha : D AV S w [.slice a n c] ns) :
  Ae (EV P 125 #[.agg #[.slice a n c], i64 i] w) fun r => r.1 = .bool (Fv ns i) ∧ Ext w r.2 := by
 obtain ⟨rfl, hm, _⟩ := ha.n
 have hw : IntKind.i64.wrap ((ns.length : Int) - 2) = (ns.length : Int) - 2 := Kv (by omega) (by omega)
 refine Ae.post fun Q hQ => ?_
 refine Ae.enter plain mixed (Ni _ _ _) (by kernel_rfl) (n := 2) (by kernel_rfl) rfl ?_
 simp (disch := first | exact xD | fail) [-Option.bind_some, qs, -Aa, -Ab, hw]
 refine Ae.bind (AD _ _ _ _) ?_
 rintro _ rfl
 cases hi : (decide (0 ≤ i) && decide (i ≤ (ns.length : Int) - 2))
 ·have h1 : Fv ns i = false := by simp only [Fv, hi, Bool.false_and]
  rw [h1] at hQ
  simp (disch := first | exact xD | fail) [-Option.bind_some, -Aa, -Ab]
  exact hQ _ ⟨rfl, xE⟩
 have hi' := hi
 simp only [Bool.and_eq_true, decide_eq_true_eq] at hi'
 obtain ⟨k, rfl⟩ := Int.eq_ofNat_of_zero_le hi'.1
 obtain ⟨x, hx, _⟩ := Ak (l := ns) (k := k) (by omega)
 obtain ⟨y, hy, _⟩ := Ak (l := ns) (k := k + 1) (by omega)
 have h1 : Fv ns k = (decide (0 < x.wait.length) && decide (y.wait.length < 6)) := by simp only [Fv, hi, Int.toNat_natCast, hx, hy, Bool.true_and]
 rw [h1] at hQ
 obtain ⟨b1, o1, cs1, ha1, A1, D1, _, l1⟩ := ha.at (by decide) hx
 obtain ⟨b2, o2, cs2, ha2, A2, D2, _, l2⟩ := ha.at (by decide) hy
 subst ha1
 cases ha2
 obtain ⟨a2, c2, a3, c3, rfl, h2, h3⟩ := D.node.1 D1
 obtain ⟨a4, c4, a5, c5, rfl, h4, h5⟩ := D.node.1 D2
 have p0 := A1 0 _ rfl
 have p1 := A1 1 _ rfl
 simp only [Bd, Nat.add_zero] at p0 p1
 have q0 := A2 0 _ rfl
 have q1 := A2 1 _ rfl
 simp only [Bd, Nat.add_zero] at q0 q1
 cases hz : decide (0 < x.wait.length)
 ·rw [hz] at hQ
  simp only [decide_eq_false_iff_not] at hz
  simp (disch := first | exact xD | fail) [-Option.bind_some, qs, -Aa, -Ab, Cx, hz, p1]
  exact hQ _ ⟨rfl, xE⟩
 ·rw [hz] at hQ
  simp only [decide_eq_true_eq] at hz
  simp (disch := first | exact xD | fail) [-Option.bind_some, qs, -Aa, -Ab, Cx, hz, show ((k : Int) + 1).toNat = k + 1 by omega, p1, q1]
  refine hQ _ ⟨?_, xE⟩
  show Value.bool _ = Value.bool _
  congr 1
  rw [Bool.eq_iff_iff]
  simp
  omega
end Go.Proofs.YtjhhommnkaemlaaGreat.X
