/- A part of the proof, without conditions. -/
import Derived.Test.YtjhhommnkaemlaaGreatEvWp
import Derived.Test.YtjhhommnkaemlaaGreatH6
import Derived.Test.YtjhhommnkaemlaaGreatH11
import Derived.Test.YtjhhommnkaemlaaGreatS0
set_option linter.unusedVariables false
set_option linter.unusedSimpArgs false
set_option linter.deprecated false
set_option maxRecDepth 100000
set_option maxHeartbeats 1000000
namespace Go.Proofs.YtjhhommnkaemlaaGreat.X
open Go Go.Ev Go.RowKit
abbrev tW : Lay WorldD := Cy 36 49 86 42 84 129 131 38
abbrev VI : Lay SessD := HH 36
def UF (s : SessD) : Prop := 0 ≤ s.place ∧ s.place ≤ 2 ∧ s.past.length = 4 ∧ 0 ≤ s.key ∧ s.key ≤ 3
def UG (f : FrameD) : Prop := 0 ≤ f.src ∧ f.src ≤ 2 ∧ 0 ≤ f.dst ∧ f.dst ≤ 2 ∧ Oi f.BV
def BF (M : Nat) (x : WorldD) : Prop := x.places.length = 3 ∧ (∀ p ∈ x.places, CK M p) ∧ x.Ar.length ≤ 4 ∧ (∀ s ∈ x.Ar, UF s) ∧ x.net.length ≤ 12 ∧ (∀ f ∈ x.net, UG f) ∧ x.AE.length ≤ 80
theorem BF.up {M M' : Nat} {x : WorldD} (h : BF M x) (k : M ≤ M') : BF M' x := ⟨h.1, fun p hp' => (h.2.1 p hp').up k, h.2.2⟩
theorem BF.place {M M' : Nat} {x : WorldD} {i : Nat} {p : PlaceD} (h : BF M x) (k : M ≤ M') (hp' : CK M' p) : BF M' { x with places := x.places.set i p } := by
 refine ⟨by simpa using h.1, fun q hq => ?_, h.2.2⟩
 rcases List.mem_or_eq_of_mem_set hq with hq | rfl
 ·exact (h.2.1 q hq).up k
 ·exact hp'
theorem BF.Ar {M : Nat} {x : WorldD} {i : Nat} {s : SessD} (h : BF M x) (hs : UF s) : BF M { x with Ar := x.Ar.set i s } := by
 refine ⟨h.1, h.2.1, by simpa using h.2.2.1, fun q hq => ?_, h.2.2.2.2⟩
 rcases List.mem_or_eq_of_mem_set hq with hq | rfl
 ·exact h.2.2.2.1 q hq
 ·exact hs
theorem BF.AE {M : Nat} {x : WorldD} {d : Done} (h : BF M x) (hh : x.AE.length < 80) : BF M { x with AE := x.AE ++ [d] } :=
 ⟨h.1, h.2.1, h.2.2.1, h.2.2.2.1, h.2.2.2.2.1, h.2.2.2.2.2.1, by simp; omega⟩
def Step (M : Nat) (S : Nat → Prop) (w : World) (cs : List Value) (r : Value × World) : Prop := ∃ (cs' : List Value) (st' : WorldD) (ok : Bool), r.1 = .tuple #[.agg cs'.toArray, .bool ok] ∧ (ok = false → cs' = cs) ∧ BF (M + 16) st' ∧ O tW (fun b => S b ∨ In w.heap.size r.2.heap.size b) r.2 cs' st' ∧ Mod S w r.2
theorem Step.fail {M : Nat} {S : Nat → Prop} {w w' : World} {cs : List Value} {st : WorldD} (hf : BF M st) (ho : O tW S w cs st) (hE : Ext w w') : Step M S w cs (.tuple #[.agg cs.toArray, .bool false], w') :=
 ⟨cs, st, false, rfl, fun _ => rfl, hf.up (by omega), (ho.ext hE).wide fun b h _ => .inl h, Mod.of hE S⟩
theorem Mf {S : Nat → Prop} {cs : List Value} {st : WorldD} {d : Done} {w : World} (hh : st.AE.length ≤ 1000) (ho : O tW S w cs st) :
  Ae (EV P 136 #[.agg cs.toArray, i64 d.Ar, i64 d.kind, i64 d.key, .agg #[i64 d.tag.t, i64 d.tag.p]] w) fun r => ∃ cs', r.1 = .agg cs'.toArray ∧ O tW (fun b => S b ∨ In w.heap.size r.2.heap.size b) r.2 cs' { st with AE := st.AE ++ [d] } ∧ Mod S w r.2 := by
 obtain ⟨a, c, a1, c1, a2, c2, a3, c3, S3, rfl, oh, hS3, put⟩ := O.S6 (ho.lt)
 refine Ae.post fun Q hQ => ?_
 refine Ae.enter plain mixed (G8 _ _ _ _ _ _) (by kernel_rfl) (n := 5) (by kernel_rfl) rfl ?_
 simp (disch := first | exact xD | fail) [-Option.bind_some, qs, -Aa, -Ab]
 refine Ae.bind (O.app (L := Gi) (mx := 3518437208883) (S1 := fun _ => False) (x := d) (cs := Bp d) GZ Nw rfl (by decide) (oh.ext xE) (O.done.2 rfl) (fun _ _ _ h => h) (At.nw (by simp)) (by omega) (by decide) (by decide)) ?_
 rintro ⟨_, w1⟩ ⟨a7, c7, rfl, o7, M7⟩
 have zM7 := M7.size
 try simp only [qz] at zM7
 try dsimp only at o7 M7
 have zM7 := M7.size
 simp only [World.size_alloc] at zM7 o7
 have n3 : ∀ b, w.heap.size ≤ b → ¬ S3 b := fun b h h' => by have := (hS3 b h').2; omega
 have Y1 : hp w1 w.heap.size = some (.cells #[.slice a st.places.length c, .slice a1 st.Ar.length c1, .slice a2 st.net.length c2, .slice a3 st.AE.length c3] 77 (0, 0)) := (M7.Ai _ (by simp; omega) (n3 _ (by omega))).trans (by first | assumption | rfl | (simp (disch := first | exact xD | fail) [-Option.bind_some, qs, -Aa, -Ab]; done))
 have Y3 : hp w1 (w.heap.size + 1 + 1) = some (.cells #[.slice none 0 0, .slice none 0 0, .slice none 0 0, .slice none 0 0] 77 (0, 0)) := (M7.Ai _ (by simp) (n3 _ (by omega))).trans (by first | assumption | rfl | (simp (disch := first | exact xD | fail) [-Option.bind_some, qs, -Aa, -Ab]; done))
 simp (disch := first | exact xD | fail) [-Option.bind_some, qs, -Aa, -Ab, qm, Y1, Y3]
 have hle : (st.AE ++ [d]).length = st.AE.length + 1 := by simp
 refine hQ _ ⟨_, rfl, ?_, ?_⟩
 ·refine (put _ (.slice a7 (st.AE.length + 1) c7) (st.AE ++ [d]) (fun b => (S3 b ∨ In (w.heap.size + 1 + 1 + 1) w1.heap.size b)) ?_ ?_ ?_).wide ?_
  ·refine (o7.Aj fun b hb hbl => ?_).wide fun b hb _ => ?_
   ·have : b ≠ w.heap.size ∧ b ≠ w.heap.size + 1 + 1 := by
     rcases hb with h | h | h
     ·have := (hS3 b h).2; omega
     ·exact h.elim
     ·omega
    rw [Ac this.2, Ac this.1]
   ·rcases hb with h | h | h
    ·exact .inl h
    ·exact h.elim
    ·exact .inr ⟨by omega, h.2⟩
  ·intro b hb _ hn
   rw [Ac (by omega), Ac (by omega), M7.Ai b (by simp; omega) hn, Ag (by simp; omega), Ag (by simp; omega), Ag (by simp; omega), Ag (by omega)]
  ·intro b hb h
   rcases h with h | h
   ·exact .inl h
   ·exact .inr fun hh => by simp only [In] at h; omega
  ·intro b hb hbl
   simp only [size_setRow] at hbl
   simp only [In, size_setRow]
   rcases hb with h | h | h
   ·exact .inl h.1
   ·exact .inl (hS3 b h).1.1
   ·simp only [In] at h; exact .inr (by omega)
 ·have Mb : Mod S w w1 := Mod.AW (Mod.of xE S) M7 fun b _ h => (hS3 b h).1.1
  exact (Mb.AL (.inl (Nat.le_refl _)) _).AL (.inl (by omega)) _
 -- STEPS
attribute [local irreducible] World.alloc World.setRow Go.Ev.dw
theorem Q3 {M i : Nat} {kind num key : Int} {text : ByteArray} {gone : Bool} {S : Nat → Prop} {cs : List Value} {st : WorldD} {w : World} (hf : BF M st) (hM : M ≤ 900000) (hi : i < st.Ar.length) (htx : text.size ≤ 1000) (ho : O tW S w cs st) :
  Ae (EV P 121 #[.agg cs.toArray, .agg #[i64 kind, i64 i, i64 num, i64 key, .string text, .bool gone]] w) (Step M S w cs) := by
 have ho := ho.lt
 have hf' := hf
 obtain ⟨pl3, hfp, sl4, hfs, nl, hfn, hl80⟩ := hf'
 obtain ⟨s, hs, _⟩ := Ak hi
 obtain ⟨hs0, hs2, hsp, hsk0, hsk3⟩ := hfs s (List.mem_of_getElem? hs)
 obtain ⟨k, hk⟩ := Int.eq_ofNat_of_zero_le hs0
 have hk3 : k < st.places.length := by omega
 obtain ⟨p, hp', _⟩ := Ak hk3
 have hpf := hfp p (List.mem_of_getElem? hp')
 obtain ⟨x, hx, _⟩ := Ak (l := p.chain) (k := 0) (by have := hpf.1.1; omega)
 obtain ⟨c, a1, c1, a2, c2, a3, c3, gp, curp, dp, Sp, rfl, hSgp, hgpl, hgp, hlep, op, hSp, putp⟩ := O.F6 ho hp'
 obtain ⟨a', c', c1', a2', c2', a3', c3', gs, curs, ap, cp, Ss, hcs, hSgs, hgsl, hgs, hles, os, hSs, _⟩ := O.Eu ho hs
 simp only [List.cons.injEq, Value.slice.injEq, and_true, true_and] at hcs
 obtain ⟨⟨rfl, rfl⟩, ⟨rfl, rfl⟩, ⟨rfl, rfl⟩, rfl, rfl⟩ := hcs
 have op' := op.d
 obtain ⟨ac, cc, al, cl, ag, cg, rfl, _, _, _⟩ := D.place.1 op'
 rw [hsp, hk] at hgs
 have As := Dk hgs (by simpa using hles)
 have Ap := Dk hgp (by simpa using hlep)
 have t0 := As 0 _ rfl
 have t1 := As 1 _ rfl
 have t2 := As 2 _ rfl
 have t3 := As 3 _ rfl
 have t4 := As 4 _ rfl
 simp only [Nat.add_zero] at t0 t1 t2 t3 t4
 have m0 := Ap 0 _ rfl
 have m1 := Ap 1 _ rfl
 have m2 := Ap 2 _ rfl
 have m3 := Ap 3 _ rfl
 have m4 := Ap 4 _ rfl
 have m5 := Ap 5 _ rfl
 simp only [Nat.add_zero] at m0 m1 m2 m3 m4 m5
 have ok : ∀ (w' : World), Ext w w' → Step M S w [.slice (some ⟨gp, 0, none⟩) st.places.length c, .slice (some ⟨gs, 0, none⟩) st.Ar.length c1, .slice a2 st.net.length c2, .slice a3 st.AE.length c3] (.tuple #[.agg #[.slice (some ⟨gp, 0, none⟩) st.places.length c, .slice (some ⟨gs, 0, none⟩) st.Ar.length c1, .slice a2 st.net.length c2, .slice a3 st.AE.length c3], .bool false], w') :=
  fun w' hE => Step.fail hf (ho.wide fun b h _ => h.1) hE
 refine Ae.post fun Q hQ => ?_
 refine Ae.enter plain mixed (J8 _ _ _) (by kernel_rfl) (n := 2) (by kernel_rfl) rfl ?_
 by_cases hwt : 0 < s.wait.t
 ·simp (maxSteps := 1000000) (disch := first | exact xD | fail) [-Option.bind_some, qs, -Aa, -Ab, qm, DD, CQ, hwt, t0, t1, t2, t3, t4, m0, m1, m2, m3, m4, m5]
  exact hQ _ (ok _ xE)
 simp (maxSteps := 1000000) (disch := first | exact xD | fail) [-Option.bind_some, qs, -Aa, -Ab, qm, DD, CQ, hwt, t0, t1, t2, t3, t4, m0, m1, m2, m3, m4, m5]
 refine Ae.bind (AD _ _ _ _) ?_
 rintro _ rfl
 cases hky : (decide (0 ≤ key) && decide (key ≤ 3))
 ·simp (maxSteps := 1000000) (disch := first | exact xD | fail) [-Option.bind_some, qs, -Aa, -Ab, qm]
  exact hQ _ (ok _ xE)
 simp (maxSteps := 1000000) (disch := first | exact xD | fail) [-Option.bind_some, qs, -Aa, -Ab]
 refine Ae.bind (Kd (by omega) _) ?_
 rintro _ rfl
 cases hto : Rz text
 ·simp (maxSteps := 1000000) (disch := first | exact xD | fail) [-Option.bind_some, qs, -Aa, -Ab, qm]
  exact hQ _ (ok _ xE)
 simp (maxSteps := 1000000) (disch := first | exact xD | fail) [-Option.bind_some, qs, -Aa, -Ab]
 have osd : D AJ Ss w [.slice ap 4 cp] s.past := by rw [← hsp]; exact os.d
 simp only [Bool.and_eq_true, decide_eq_true_eq] at hky
 have hgc : (gone = false ∧ True) ∨ (gone = true ∧ text.toList.isEmpty = true) ∨ (gone = true ∧ text.toList.isEmpty = false) := by
  cases gone <;> cases text.toList.isEmpty <;> simp
 rcases hgc with ⟨hgn, ht⟩ | ⟨hgn, ht⟩ | ⟨hgn, ht⟩
 rotate_left 2
 ·simp (maxSteps := 1000000) (disch := first | exact xD | fail) [-Option.bind_some, qs, -Aa, -Ab, qm, hgn, ht]
  exact hQ _ (ok _ xE)
 all_goals
  simp (maxSteps := 1000000) (disch := first | exact xD | fail) [-Option.bind_some, qs, -Aa, -Ab, hgn, ht]
  refine Ae.bind (Tc hpf hx (op.d.ext xE) hsp (osd.ext xE)) ?_
  rintro ⟨_, w1⟩ ⟨q, rfl, hq, E1⟩
  try dsimp only at q hq E1
  have zE1 := E1.size
  try simp only [qz] at zE1
  cases q
  ·simp (maxSteps := 1000000) (disch := first | exact xD | fail) [-Option.bind_some, qs, -Aa, -Ab, qm, E1.Ai]
   exact hQ _ (ok _ xE)
  by_cases h80 : st.AE.length < 80
  ·have F1 : Ext w w1 := xE
   have zF1 := F1.size
   have B0 : hp w1 w.heap.size = some (.cells #[.slice (some ⟨gp, 0, none⟩) st.places.length c, .slice (some ⟨gs, 0, none⟩) st.Ar.length c1, .slice a2 st.net.length c2, .slice a3 st.AE.length c3] 77 (0, 0)) := (E1.Ai xB).trans (by first | assumption | rfl | (simp (maxSteps := 1000000) (disch := first | exact xD | fail) [-Option.bind_some, qs, -Aa, -Ab]; done))
   have B1 : hp w1 (w.heap.size + 1) = some (.cells #[i64 kind, i64 i, i64 num, i64 key, .string text, .bool gone] 137 (0, 0)) := (E1.Ai xB).trans (by first | assumption | rfl | (simp (maxSteps := 1000000) (disch := first | exact xD | fail) [-Option.bind_some, qs, -Aa, -Ab, hgn]; done))
   have B2 : hp w1 (w.heap.size + 1 + 1) = some (.cells #[.slice none 0 0, .slice none 0 0, .slice none 0 0, .slice none 0 0] 77 (0, 0)) := (E1.Ai xB).trans (by first | assumption | rfl | (simp (maxSteps := 1000000) (disch := first | exact xD | fail) [-Option.bind_some, qs, -Aa, -Ab]; done))
   have B3 : hp w1 (w.heap.size + 1 + 1 + 1) = some (.cells #[i64 k, .slice ap 4 cp, i64 s.wait.t, i64 s.wait.p, i64 s.key] 129 (0, 0)) := (E1.Ai xB).trans (by first | assumption | rfl | (simp (maxSteps := 1000000) (disch := first | exact xD | fail) [-Option.bind_some, qs, -Aa, -Ab]; done))
   have B4 : hp w1 (w.heap.size + 1 + 1 + 1 + 1) = some (.cells #[i64 p.me, i64 p.clock, .slice ac p.chain.length cc, .slice al p.log.length cl, .slice ag p.Bu.length cg, .bool p.fell] 84 (0, 0)) := (E1.Ai xB).trans (by first | assumption | rfl | (simp (maxSteps := 1000000) (disch := first | exact xD | fail) [-Option.bind_some, qs, -Aa, -Ab]; done))
   have nSp : ∀ b, w.heap.size ≤ b → ¬ Sp b := fun b h h' => by have := (hSp b h').2.2; omega
   simp (maxSteps := 1000000) (disch := first | exact xD | fail) [-Option.bind_some, -Aa, -Ab, show ¬ (80 : Int) ≤ st.AE.length by omega, B0, B1, B3, B4]
   refine Ae.bind (QM (M := M) hpf (by omega) hx (hq rfl) hky.1 hky.2 (by omega) hsp (op.ext F1) (osd.ext F1)) ?_
   rintro ⟨_, w2⟩ ⟨csx, p2, t, rfl, f2, o2, M2⟩
   try dsimp only at csx p2 t f2 o2 M2
   have zM2 := M2.size
   try simp only [qz] at zM2
   have K2 : ∀ b, b < w1.heap.size → ¬ Sp b → hp w2 b = hp w1 b := fun b hb h => M2.Ai b hb h
   have C0 := (K2 w.heap.size (by omega) (nSp _ (by omega))).trans B0
   have C1 := (K2 (w.heap.size + 1) (by omega) (nSp _ (by omega))).trans B1
   have C2 := (K2 (w.heap.size + 1 + 1) (by omega) (nSp _ (by omega))).trans B2
   have C3 := (K2 (w.heap.size + 1 + 1 + 1) (by omega) (nSp _ (by omega))).trans B3
   have G2 := (K2 gp (by omega) (fun h => (hSp gp h).2.1 rfl)).trans ((F1.Ai hgpl).trans hgp)
   have o2' := o2.d
   obtain ⟨ad, cd, ae, ce, af, cf, rfl, _, _, _⟩ := D.place.1 o2'
   simp (maxSteps := 1000000) (disch := first | exact xD | fail) [-Option.bind_some, qs, -Aa, -Ab, qm, C0, C1, C3, G2, CQ, DD]
   generalize hW1 : World.setRow _ gp _ = W1
   have sW1 : W1.heap.size = w2.heap.size + 1 + 1 := by rw [← hW1]; simp
   have kW1 : ∀ b, b ≠ gp → b < w2.heap.size → hp W1 b = hp w2 b := fun b h1 h2 => by
    rw [← hW1]
    simp (disch := (first | omega | (simp only [World.size_alloc, size_setRow]; omega))) only [Ac, Ag]
   have G3 : hp W1 gp = some (.cells (Bh curp (k * 6) [i64 p2.me, i64 p2.clock, .slice ad p2.chain.length cd, .slice ae p2.log.length ce, .slice af p2.Bu.length cf, .bool p2.fell]).toArray 84 (0, 0)) := by
    rw [← hW1]
    exact (by first | assumption | rfl | (simp (maxSteps := 1000000) (disch := first | exact xD | fail) [-Option.bind_some, qs, -Aa, -Ab, G2]; done))
   have T5 : hp W1 (w2.heap.size + 1) = some (.cells #[i64 t.t, i64 t.p] 36 (0, 0)) := by
    rw [← hW1]
    exact (by first | assumption | rfl | (simp (maxSteps := 1000000) (disch := first | exact xD | fail) [-Option.bind_some, qs, -Aa, -Ab]; done))
   have MW1 : Mod S w W1 := by
    rw [← hW1]
    exact (((((Mod.AW (Mod.of F1 S) M2 (fun b hb h => (hSp b h).1.1)).al _).al _).AL (.inl (by omega)) _).AL (.inl (by omega)) _).AL (.inr hSgp.1) _
   have oW1 := (putp W1 _ p2 (fun b => Sp b ∨ In w1.heap.size w2.heap.size b) (o2.Aj fun b hb hbl => kW1 b (by rcases hb with h | h; exact (hSp b h).2.1; simp only [In] at h; omega) hbl) G3 (fun b hb _ hne hn => (kW1 b hne (by omega)).trans ((K2 b (by omega) hn).trans (F1.Ai hb))) (fun b _ h => by rcases h with h | h; exact .inl h; exact .inr (fun hh => by simp only [In] at h; omega))).wide (S' := fun b => (S b ∧ b < w.heap.size) ∨ In w1.heap.size w2.heap.size b) (fun b h _ => by rcases h with h | h | h; exact .inl h; exact .inl (hSp b h).1; exact .inr h)
   obtain ⟨a'', c'', c1'', a2'', c2'', a3'', c3'', gs', curs', ap', cp', Ss', hcs', hSgs', hgsl', hgs', hles', os', hSs', puts⟩ := O.Eu oW1 (i := i) (s := s) hs
   simp only [List.cons.injEq, Value.slice.injEq, Option.some.injEq, Addr.mk.injEq, List.length_set, and_true, true_and] at hcs'
   obtain ⟨⟨rfl, rfl⟩, ⟨rfl, rfl⟩, ⟨rfl, rfl⟩, rfl, rfl⟩ := hcs'
   rw [hsp, hk] at hgs'
   have hne : gs ≠ gp := by
    rintro rfl
    rw [G3] at hgs'
    simp at hgs'
   have D0 := (kW1 w.heap.size (by omega) (by omega)).trans C0
   have D1 := (kW1 (w.heap.size + 1) (by omega) (by omega)).trans C1
   have D2 := (kW1 (w.heap.size + 1 + 1) (by omega) (by omega)).trans C2
   simp (maxSteps := 1000000) (disch := first | exact xD | fail) [-Option.bind_some, qs, -Aa, -Ab, qm, hgs', D0, D1, T5, DD]
   generalize hW2 : World.setRow _ gs _ = W2
   have sW2 : W2.heap.size = W1.heap.size := by rw [← hW2]; simp
   have kW2 : ∀ b, b ≠ gs → hp W2 b = hp W1 b := fun b h1 => by
    rw [← hW2]
    simp (disch := omega) only [Ac]
   have MW2 : Mod S w W2 := by
    rw [← hW2]
    first | exact MW1.AL (.inr hSgs.1) _ | exact (MW1.AL (.inr hSgs.1) _).AL (.inr hSgs.1) _
   have H3 : hp W2 gs = some (.cells (Bh curs' (i * 5) [i64 k, .slice ap' 4 cp', i64 t.t, i64 t.p, i64 key]).toArray 129 (0, 0)) := by
    rw [← hW2]
    exact (by first | assumption | rfl | (simp (maxSteps := 1000000) (disch := first | exact xD | fail) [-Option.bind_some, -Aa, -Ab, hgs']; done))
   have oW2 := (puts W2 _ ⟨s.place, s.past, t, key⟩ Ss' (O.Ar.2 ⟨ap', cp', (by rw [hk, hsp]), os'.Aj fun b hb hbl => kW2 b (hSs' b hb).2.1⟩) H3 (fun b hb _ hne' _ => kW2 b hne') (fun b _ h => .inl h)).wide (S' := fun b => (S b ∧ b < w.heap.size) ∨ In w1.heap.size w2.heap.size b) (fun b h _ => by rcases h with h | h; exact h; exact (hSs' b h).1)
   have L0 := (kW2 w.heap.size (by omega)).trans D0
   have L1 := (kW2 (w.heap.size + 1) (by omega)).trans D1
   have L2 := (kW2 (w.heap.size + 1 + 1) (by omega)).trans D2
   refine Ae.bind (Mf (d := ⟨i, 1, key, t⟩) (by show st.AE.length ≤ 1000; omega) oW2) ?_
   rintro ⟨_, w3⟩ ⟨cs3, rfl, o3, M3⟩
   have zM3 := M3.size
   try simp only [] at zM3
   try dsimp only at o3 M3
   have zM3 := M3.size
   obtain ⟨u1, l1, d1, u2, l2, d2, u3, l3, d3, u4, l4, d4, rfl⟩ := o3.BX
   have J2 := (M3.Ai (w.heap.size + 1 + 1) (by omega) (fun h => by simp only [In] at h; omega)).trans L2
   simp (maxSteps := 1000000) (disch := first | exact xD | fail) [-Option.bind_some, -Aa, -Ab, qm, J2]
   refine hQ _ ⟨_, _, true, rfl, by simp, ((((hf.place (i := k) (M' := M + 4) (by omega) f2).Ar (i := i) (s := ⟨s.place, s.past, t, key⟩) ⟨hs0, hs2, hsp, hky.1, hky.2⟩).AE (d := ⟨i, 1, key, t⟩) h80).up (by omega)), (o3.Aj fun b hb hbl => Ac ?_).wide ?_, ?_⟩
   ·rintro rfl
    simp only [In] at hb
    omega
   ·intro b hb hbl
    simp only [In, size_setRow] at hb hbl ⊢
    rcases hb with (h | h) | h
    ·exact .inl h.1
    ·exact .inr (by omega)
    ·exact .inr (by omega)
   ·exact (Mod.AW MW2 M3 fun b hb h => by rcases h with h | h; exact h.1; simp only [In] at h; omega).AL (.inl (by omega)) _
  ·simp (maxSteps := 1000000) (disch := first | exact xD | fail) [-Option.bind_some, qs, -Aa, -Ab, qm, show (80 : Int) ≤ st.AE.length by omega, E1.Ai]
   exact hQ _ (ok _ xE)
end Go.Proofs.YtjhhommnkaemlaaGreat.X
namespace Go.Proofs.YtjhhommnkaemlaaGreat.X
open Go Go.Ev Go.RowKit
 -- STEPS
attribute [local irreducible] World.alloc World.setRow Go.Ev.dw
theorem Mg {a : Option Addr} {c : Nat} {S : Nat → Prop} {xs : List Tag} {t : Tag} {k : Nat} {w : World} (h4 : xs.length = 4) (hk : k < 4) (ha : D AJ S w [.slice a 4 c] xs) :
  Ae (EV P 66 #[.agg #[.slice a 4 c], i64 k, .agg #[i64 t.t, i64 t.p]] w) fun r => ∃ a2 c2, r.1 = .agg #[.slice a2 4 c2] ∧ O AJ (In w.heap.size r.2.heap.size) r.2 [.slice a2 4 c2] (Bb xs k t) ∧ Ext w r.2 := by
 have := FK (k := k) (t := t) (xs := xs) (by omega) (by rw [h4]; exact ha)
 rwa [DN, h4] at this
theorem Qr {M M' i : Nat} {kind num key : Int} {text : ByteArray} {gone : Bool} {S T : Nat → Prop} {cs0 cs1 : List Value} {st1 : WorldD} {s : SessD} {e : Env} {w W : World} (hf : BF M' st1) (hM' : M' ≤ M + 16) (hs : st1.Ar[i]? = some s)
  (ho : O tW T W cs1 st1) (hT : ∀ b, T b → (S b ∧ b < w.heap.size) ∨ w.heap.size + 3 ≤ b) (hMod : Mod S w W)
  (e2 : e 2 = pt w.heap.size 0) (e3 : e 3 = pt (w.heap.size + 1) 0) (e4 : e 4 = pt (w.heap.size + 1 + 1) 0)
  (X2 : hp W w.heap.size = some (.cells cs1.toArray 77 (0, 0))) (X3 : hp W (w.heap.size + 1) = some (.cells #[i64 kind, i64 i, i64 num, i64 key, .string text, .bool gone] 137 (0, 0)))
  (X4 : hp W (w.heap.size + 1 + 1) = some (.cells #[.slice none 0 0, .slice none 0 0, .slice none 0 0, .slice none 0 0] 77 (0, 0))) :
  Ae (DU e W) (Step M S w cs0) := by
 have y4 := Aq X4
 obtain ⟨a, c, c1, a2, c2, a3, c3, gs, cur, ap, cp, Ss, rfl, hTg, hgl, hgs, hle, os, hSs, puts⟩ := O.Eu ho hs
 have hi : i < st1.Ar.length := (List.getElem?_eq_some_iff.1 hs).1
 have hg9 := hT gs hTg
 obtain ⟨hs0, hs2, hsp, hsk0, hsk3⟩ := hf.2.2.2.1 s (List.mem_of_getElem? hs)
 rw [JQ]
 refine Ae.post fun Q hQ => ?_
 simp (maxSteps := 1000000) (disch := first | exact xD | fail) [-Option.bind_some, qs, -Aa, -Ab, qm, e2, e3, e4, X2, X3, X4, hgs, DD]
 generalize hW1 : World.setRow _ gs _ = W1
 have sW1 : W1.heap.size = W.heap.size := by rw [← hW1]; simp
 have kW1 : ∀ b, b ≠ gs → hp W1 b = hp W b := fun b h1 => by
  rw [← hW1]
  simp (disch := omega) only [Ac]
 have G1 : hp W1 gs = some (.cells (Bh cur (i * 5) [i64 s.place, .slice ap s.past.length cp, i64 0, i64 0, i64 0]).toArray 129 (0, 0)) := by
  rw [← hW1]
  exact (by first | assumption | rfl | (simp (maxSteps := 1000000) (disch := first | exact xD | fail) [-Option.bind_some, -Aa, -Ab, hgs]; done))
 have hgS : w.heap.size ≤ gs ∨ S gs := by rcases hg9 with h | h; exact .inr h.1; exact .inl (by omega)
 have MW1 : Mod S w W1 := by
  rw [← hW1]
  first | exact hMod.AL hgS _ | exact (hMod.AL hgS _).AL hgS _
 have oW1 := (puts W1 _ ⟨s.place, s.past, ⟨0, 0⟩, 0⟩ Ss (O.Ar.2 ⟨ap, cp, rfl, os.Aj fun b hb hbl => kW1 b (hSs b hb).2.1⟩) G1 (fun b hb _ hne' _ => kW1 b hne') (fun b _ h => .inl h)).wide (S' := T) (fun b h _ => by rcases h with h | h; exact h; exact (hSs b h).1)
 refine hQ _ ⟨_, _, true, rfl, by simp, ((hf.Ar (i := i) (s := ⟨s.place, s.past, ⟨0, 0⟩, 0⟩) ⟨hs0, hs2, hsp, Int.le_refl 0, by show (0 : Int) ≤ 3; decide⟩).up hM'), (oW1.Aj fun b hb hbl => Ac ?_).wide ?_, MW1.AL (.inl (by omega)) _⟩
 ·rintro rfl
  have := hT _ hb
  omega
 ·intro b hb hbl
  simp only [In, size_setRow] at hbl ⊢
  rcases hT b hb with h | h
  ·exact .inl h.1
  ·exact .inr (by omega)
theorem Ts {M i : Nat} {kind num key : Int} {text : ByteArray} {gone : Bool} {S : Nat → Prop} {cs : List Value} {st : WorldD} {w : World} (hf : BF M st) (hM : M ≤ 900000) (hi : i < st.Ar.length) (ho : O tW S w cs st) :
  Ae (EV P 122 #[.agg cs.toArray, .agg #[i64 kind, i64 i, i64 num, i64 key, .string text, .bool gone]] w) (Step M S w cs) := by
 have ho := ho.lt
 have hf' := hf
 obtain ⟨pl3, hfp, sl4, hfs, nl, hfn, hl80⟩ := hf'
 obtain ⟨s, hs, _⟩ := Ak hi
 obtain ⟨hs0, hs2, hsp, hsk0, hsk3⟩ := hfs s (List.mem_of_getElem? hs)
 obtain ⟨k, hk⟩ := Int.eq_ofNat_of_zero_le hs0
 obtain ⟨ky, hky⟩ := Int.eq_ofNat_of_zero_le hsk0
 have hk3 : k < st.places.length := by omega
 have hky4 : ky < 4 := by omega
 obtain ⟨p, hp', _⟩ := Ak hk3
 have hpf := hfp p (List.mem_of_getElem? hp')
 obtain ⟨x, hx, _⟩ := Ak (l := p.chain) (k := 0) (by have := hpf.1.1; omega)
 have hxn := hpf.1.2.2 x (List.mem_of_getElem? hx)
 obtain ⟨v, hv, _⟩ := Ak (l := x.store) (k := ky) (by have := hxn.1; omega)
 obtain ⟨c, a1, c1, a2, c2, a3, c3, gp, curp, dp, Sp, rfl, hSgp, hgpl, hgp, hlep, op, hSp, _⟩ := O.F6 ho hp'
 obtain ⟨a', c', c1', a2', c2', a3', c3', gs, curs, ap, cp, Ss, hcs, hSgs, hgsl, hgs, hles, os, hSs, puts⟩ := O.Eu ho hs
 simp only [List.cons.injEq, Value.slice.injEq, and_true, true_and] at hcs
 obtain ⟨⟨rfl, rfl⟩, ⟨rfl, rfl⟩, ⟨rfl, rfl⟩, rfl, rfl⟩ := hcs
 have op' := op.d
 obtain ⟨ac, cc, al, cl, ag, cg, rfl, q1, _, _⟩ := D.place.1 op'
 rw [hsp, hk, hky] at hgs
 have As := Dk hgs (by simpa using hles)
 have Ap := Dk hgp (by simpa using hlep)
 have t0 := As 0 _ rfl
 have t1 := As 1 _ rfl
 have t2 := As 2 _ rfl
 have t3 := As 3 _ rfl
 have t4 := As 4 _ rfl
 simp only [Nat.add_zero] at t0 t1 t2 t3 t4
 have m0 := Ap 0 _ rfl
 have m1 := Ap 1 _ rfl
 have m2 := Ap 2 _ rfl
 have m3 := Ap 3 _ rfl
 have m4 := Ap 4 _ rfl
 have m5 := Ap 5 _ rfl
 simp only [Nat.add_zero] at m0 m1 m2 m3 m4 m5
 obtain ⟨b1, o1, cs1, rfl, A1, D1, _, l1⟩ := q1.at (by decide) hx
 obtain ⟨a4, c4, a5, c5, rfl, h2, h3⟩ := D.node.1 D1
 have n0 := A1 0 _ rfl
 have n1 := A1 1 _ rfl
 simp only [Bd, Nat.add_zero] at n0 n1
 obtain ⟨b2, o2, cs2, rfl, A2, D2, _, l2⟩ := h2.at (by decide) hv
 obtain ⟨av, cv, rfl, _, _⟩ := D.BV.1 D2
 have j0 := A2 0 _ rfl
 have j1 := A2 1 _ rfl
 have j2 := A2 2 _ rfl
 have j3 := A2 3 _ rfl
 have j4 := A2 4 _ rfl
 have j5 := A2 5 _ rfl
 simp only [Bw, Nat.add_zero] at j0 j1 j2 j3 j4 j5
 have osd : D AJ Ss w [.slice ap 4 cp] s.past := by rw [← hsp]; exact os.d
 have ok : ∀ (w' : World), Ext w w' → Step M S w [.slice (some ⟨gp, 0, none⟩) st.places.length c, .slice (some ⟨gs, 0, none⟩) st.Ar.length c1, .slice a2 st.net.length c2, .slice a3 st.AE.length c3] (.tuple #[.agg #[.slice (some ⟨gp, 0, none⟩) st.places.length c, .slice (some ⟨gs, 0, none⟩) st.Ar.length c1, .slice a2 st.net.length c2, .slice a3 st.AE.length c3], .bool false], w') :=
  fun w' hE => Step.fail hf (ho.wide fun b h _ => h.1) hE
 have x0 : 0 < p.chain.length := hpf.1.1
 have sl4' : ky < x.store.length := by have := hxn.1; omega
 refine Ae.post fun Q hQ => ?_
 refine Ae.enter plain mixed (Nf _ _ _) (by kernel_rfl) (n := 2) (by kernel_rfl) rfl ?_
 cases hwt : (s.wait.t == 0)
 ·simp (maxSteps := 1000000) (disch := first | exact xD | fail) [-Option.bind_some, qs, -Aa, -Ab, qm, DD, CQ, hwt, t0, t1, t2, t3, t4, m2]
  refine Ae.bind (Ns (k := 0) (key := ky) hpf.1 x0 hky4 (q1.ext xE)) ?_
  rintro ⟨_, w1⟩ ⟨ds, u, huK, rfl, o3, E1⟩
  try dsimp only at ds u huK o3 E1
  have zE1 := E1.size
  try simp only [qz] at zE1
  have F1 : Ext w w1 := xE
  have zF1 := F1.size
  have zo3 := O.BV.1 o3
  obtain ⟨au, cu, rfl, _, _⟩ := zo3
  have fvt : ∀ w', fv P 49 (.agg #[i64 u.key, i64 u.tag.t, i64 u.tag.p, .slice au u.past.length cu, .string u.text, .bool u.gone]) 1 w' = some (.agg #[i64 u.tag.t, i64 u.tag.p], w') := fun w' => Uh (P := P) (s := 49) (f := 1) (off := 1) (n := 2) (by kernel_rfl) [i64 u.key, i64 u.tag.t, i64 u.tag.p, .slice au u.past.length cu, .string u.text, .bool u.gone] w'
  have B0 : hp w1 w.heap.size = some (.cells #[.slice (some ⟨gp, 0, none⟩) st.places.length c, .slice (some ⟨gs, 0, none⟩) st.Ar.length c1, .slice a2 st.net.length c2, .slice a3 st.AE.length c3] 77 (0, 0)) := (E1.Ai xB).trans (by first | assumption | rfl | (simp (maxSteps := 1000000) (disch := first | exact xD | fail) [-Option.bind_some, qs, -Aa, -Ab]; done))
  have B1 : hp w1 (w.heap.size + 1) = some (.cells #[i64 kind, i64 i, i64 num, i64 key, .string text, .bool gone] 137 (0, 0)) := (E1.Ai xB).trans (by first | assumption | rfl | (simp (maxSteps := 1000000) (disch := first | exact xD | fail) [-Option.bind_some, qs, -Aa, -Ab]; done))
  have B2 : hp w1 (w.heap.size + 1 + 1) = some (.cells #[.slice none 0 0, .slice none 0 0, .slice none 0 0, .slice none 0 0] 77 (0, 0)) := (E1.Ai xB).trans (by first | assumption | rfl | (simp (maxSteps := 1000000) (disch := first | exact xD | fail) [-Option.bind_some, qs, -Aa, -Ab]; done))
  have B3 : hp w1 (w.heap.size + 1 + 1 + 1) = some (.cells #[i64 k, .slice ap 4 cp, i64 s.wait.t, i64 s.wait.p, i64 ky] 129 (0, 0)) := (E1.Ai xB).trans (by first | assumption | rfl | (simp (maxSteps := 1000000) (disch := first | exact xD | fail) [-Option.bind_some, qs, -Aa, -Ab]; done))
  have B4 : hp w1 (w.heap.size + 1 + 1 + 1 + 1) = some (.cells #[.slice (some ⟨b1, o1, none⟩) p.chain.length cc] 81 (0, 0)) := (E1.Ai xB).trans (by first | assumption | rfl | (simp (maxSteps := 1000000) (disch := first | exact xD | fail) [-Option.bind_some, qs, -Aa, -Ab]; done))
  simp (maxSteps := 1000000) (disch := first | exact xD | fail) [-Option.bind_some, qs, -Aa, -Ab, qm, B3, B4, fvt, Cx, BP, n0, j1, j2, E1.Ai]
  refine Ae.bind (AM u.tag s.wait _) ?_
  rintro ⟨_, w2⟩ ⟨rfl, E2⟩
  try dsimp only at E2
  have zE2 := E2.size
  try simp only [qz] at zE2
  cases hb1 : AG u.tag s.wait
  ·simp (maxSteps := 1000000) (disch := first | exact xD | fail) [-Option.bind_some, qs, -Aa, -Ab, E1.Ai, E2.Ai]
   refine Ae.bind (AM u.tag s.wait _) ?_
   rintro ⟨_, w3⟩ ⟨rfl, E3⟩
   try dsimp only at E3
   have zE3 := E3.size
   try simp only [qz] at zE3
   by_cases h80 : st.AE.length < 80
   ·simp (maxSteps := 1000000) (disch := first | exact xD | fail) [-Option.bind_some, qs, -Aa, -Ab, hb1, show ¬ (80 : Int) ≤ st.AE.length by omega, E1.Ai, E2.Ai, E3.Ai]
    refine Ae.bind (AM u.tag s.wait _) ?_
    rintro ⟨_, w4⟩ ⟨rfl, E4⟩
    try dsimp only at E4
    have zE4 := E4.size
    try simp only [qz] at zE4
    simp (maxSteps := 1000000) (disch := first | exact xD | fail) [-Option.bind_some, qs, -Aa, -Ab, hb1, E1.Ai, E2.Ai, E3.Ai, E4.Ai]
    refine Ae.bind (Mg (xs := s.past) (t := s.wait) (k := ky) hsp hky4 (osd.ext xE)) ?_
    rintro ⟨_, w5⟩ ⟨a7, c7, rfl, o7, E5⟩
    try dsimp only at a7 c7 o7 E5
    have zE5 := E5.size
    try simp only [qz] at zE5
    have F5 : Ext w w5 := xE
    have zF5 := F5.size
    have C0 : hp w5 w.heap.size = hp w1 w.heap.size := (by first | assumption | rfl | (simp (maxSteps := 1000000) (disch := first | exact xD | fail) [-Option.bind_some, qs, -Aa, -Ab, E1.Ai, E2.Ai, E3.Ai, E4.Ai, E5.Ai]; done))
    have C1 : hp w5 (w.heap.size + 1) = hp w1 (w.heap.size + 1) := (by first | assumption | rfl | (simp (maxSteps := 1000000) (disch := first | exact xD | fail) [-Option.bind_some, qs, -Aa, -Ab, E1.Ai, E2.Ai, E3.Ai, E4.Ai, E5.Ai]; done))
    have C2 : hp w5 (w.heap.size + 1 + 1) = hp w1 (w.heap.size + 1 + 1) := (by first | assumption | rfl | (simp (maxSteps := 1000000) (disch := first | exact xD | fail) [-Option.bind_some, qs, -Aa, -Ab, E1.Ai, E2.Ai, E3.Ai, E4.Ai, E5.Ai]; done))
    have G5 := (F5.Ai hgsl).trans hgs
    simp (maxSteps := 1000000) (disch := first | exact xD | fail) [-Option.bind_some, qs, -Aa, -Ab, qm, G5, DD, E1.Ai, E2.Ai, E3.Ai, E4.Ai, E5.Ai]
    generalize hW1 : World.setRow _ gs _ = W1
    have sW1 : W1.heap.size = w5.heap.size := by rw [← hW1]; simp
    have kW1 : ∀ b, b ≠ gs → hp W1 b = hp w5 b := fun b h1 => by
     rw [← hW1]
     simp (disch := omega) only [Ac]
    have G6 : hp W1 gs = some (.cells (Bh curs (i * 5) [i64 k, .slice a7 4 c7, i64 s.wait.t, i64 s.wait.p, i64 ky]).toArray 129 (0, 0)) := by
     rw [← hW1]
     exact (by first | assumption | rfl | (simp (maxSteps := 1000000) (disch := first | exact xD | fail) [-Option.bind_some, -Aa, -Ab, G5]; done))
    have MW1 : Mod S w W1 := by
     rw [← hW1]
     exact (Mod.of F5 S).AL (.inr hSgs.1) _
    have wl4 : (Bb s.past ky s.wait).length = 4 := by rw [DN]; exact hsp
    have oW1 := (puts W1 _ ⟨s.place, Bb s.past ky s.wait, s.wait, s.key⟩ (In w4.heap.size w5.heap.size) (O.Ar.2 ⟨a7, c7, (by rw [hk, hky, wl4]), (by rw [wl4]; exact (o7.Aj fun b hb hbl => kW1 b (by simp only [In, Ad] at hb; omega)).wide fun b hb _ => by simp only [In, Ad] at hb ⊢; omega)⟩) G6 (fun b hb _ hne' _ => (kW1 b hne').trans (F5.Ai hb)) (fun b _ h => .inr fun hh => by simp only [In] at h; omega)).wide (S' := fun b => (S b ∧ b < w.heap.size) ∨ w.heap.size + 5 ≤ b) (fun b h _ => by rcases h with h | h; exact .inl h; exact .inr (by simp only [In] at h; omega))
    have D0 := (kW1 w.heap.size (by omega)).trans (C0.trans B0)
    have D1 := (kW1 (w.heap.size + 1) (by omega)).trans (C1.trans B1)
    have D2 := (kW1 (w.heap.size + 1 + 1) (by omega)).trans (C2.trans B2)
    refine Ae.bind (Mf (d := ⟨i, 3, ky, s.wait⟩) (by show st.AE.length ≤ 1000; omega) oW1) ?_
    rintro ⟨_, w6⟩ ⟨cs3, rfl, o8, M6⟩
    have zM6 := M6.size
    try simp only [] at zM6
    try dsimp only at o8 M6
    have zM6 := M6.size
    obtain ⟨u1, l1, d1, u2, l2, d2, u3, l3, d3, u4, l4, d4, rfl⟩ := o8.BX
    have nT : ∀ b, w.heap.size ≤ b → b < w.heap.size + 5 → ¬ ((S b ∧ b < w.heap.size) ∨ w.heap.size + 5 ≤ b) := fun b h1 h2 h => by omega
    have L0 := (M6.Ai w.heap.size (by omega) (nT _ (by omega) (by omega))).trans D0
    have L1 := (M6.Ai (w.heap.size + 1) (by omega) (nT _ (by omega) (by omega))).trans D1
    have L2 := (M6.Ai (w.heap.size + 1 + 1) (by omega) (nT _ (by omega) (by omega))).trans D2
    simp (maxSteps := 1000000) (disch := first | exact xD | fail) [-Option.bind_some, -Aa, -Ab, qm, L0]
    have fA := ((hf.Ar (i := i) (s := ⟨s.place, Bb s.past ky s.wait, s.wait, s.key⟩) ⟨hs0, hs2, wl4, hsk0, hsk3⟩).AE (d := ⟨i, 3, ky, s.wait⟩) h80)
    refine Ae.mono (Qr (M := M) (M' := M) (w := w) (i := i) (T := fun b => (S b ∧ b < w.heap.size) ∨ w.heap.size + 5 ≤ b) (kind := kind) (num := num) (key := key) (text := text) (gone := gone) fA (by omega) (s := ⟨s.place, Bb s.past ky s.wait, s.wait, s.key⟩) (by rw [List.getElem?_set_self hi]) ((o8.Aj fun b hb hbl => Ac ?_).wide ?_) (fun b h => by rcases h with h | h; exact .inl h; exact .inr (by omega)) ?_ xA xA xA (by first | assumption | rfl | (simp (maxSteps := 1000000) (disch := first | exact xD | fail) [-Option.bind_some, -Aa, -Ab, L0]; done)) ((Ac (by omega)).trans L1) ((Ac (by omega)).trans L2)) hQ
    ·rintro rfl
     simp only [In] at hb
     omega
    ·intro b hb hbl
     simp only [In, size_setRow] at hb hbl ⊢
     rcases hb with (h | h) | h
     ·exact .inl h
     ·exact .inr h
     ·exact .inr (by omega)
    ·exact (Mod.AW MW1 M6 fun b hb h => by rcases h with h | h; exact h.1; omega).AL (.inl (by omega)) _
   ·simp (maxSteps := 1000000) (disch := first | exact xD | fail) [-Option.bind_some, qs, -Aa, -Ab, qm, hb1, show (80 : Int) ≤ st.AE.length by omega, E1.Ai, E2.Ai, E3.Ai]
    exact hQ _ (ok _ xE)
  ·simp (maxSteps := 1000000) (disch := first | exact xD | fail) [-Option.bind_some, qs, -Aa, -Ab, E1.Ai, E2.Ai]
   refine Ae.bind (AM v.tag s.wait _) ?_
   rintro ⟨_, w3⟩ ⟨rfl, E3⟩
   try dsimp only at E3
   have zE3 := E3.size
   try simp only [qz] at zE3
   cases hb2 : AG v.tag s.wait
   ·simp (maxSteps := 1000000) (disch := first | exact xD | fail) [-Option.bind_some, qs, -Aa, -Ab, qm, E1.Ai, E2.Ai, E3.Ai]
    exact hQ _ (ok _ xE)
   ·simp (maxSteps := 1000000) (disch := first | exact xD | fail) [-Option.bind_some, qs, -Aa, -Ab, E1.Ai, E2.Ai, E3.Ai]
    refine Ae.bind (AM u.tag s.wait _) ?_
    rintro ⟨_, w4⟩ ⟨rfl, E4⟩
    try dsimp only at E4
    have zE4 := E4.size
    try simp only [qz] at zE4
    simp (maxSteps := 1000000) (disch := first | exact xD | fail) [-Option.bind_some, qs, -Aa, -Ab, hb1, E1.Ai, E2.Ai, E3.Ai, E4.Ai]
    refine Ae.bind (AM u.tag s.wait _) ?_
    rintro ⟨_, w5⟩ ⟨rfl, E5⟩
    try dsimp only at E5
    have zE5 := E5.size
    try simp only [qz] at zE5
    simp (maxSteps := 1000000) (disch := first | exact xD | fail) [-Option.bind_some, -Aa, -Ab, hb1]
    have F5 : Ext w w5 := xE
    exact Ae.mono (Qr (M := M) (w := w) (kind := kind) (num := num) (key := key) (text := text) (gone := gone) hf (by omega) hs (ho.ext F5) (fun b h => .inl h) (Mod.of F5 S) xA xA xA (by first | assumption | rfl | (simp (maxSteps := 1000000) (disch := first | exact xD | fail) [-Option.bind_some, qs, -Aa, -Ab, E1.Ai, E2.Ai, E3.Ai, E4.Ai, E5.Ai]; done)) (by first | assumption | rfl | (simp (maxSteps := 1000000) (disch := first | exact xD | fail) [-Option.bind_some, qs, -Aa, -Ab, E1.Ai, E2.Ai, E3.Ai, E4.Ai, E5.Ai]; done)) (by first | assumption | rfl | (simp (maxSteps := 1000000) (disch := first | exact xD | fail) [-Option.bind_some, qs, -Aa, -Ab, E1.Ai, E2.Ai, E3.Ai, E4.Ai, E5.Ai]; done))) hQ
 ·simp (maxSteps := 1000000) (disch := first | exact xD | fail) [-Option.bind_some, qs, -Aa, -Ab, qm, DD, hwt, t0, t1, t2, t3, t4]
  exact hQ _ (ok _ xE)
end Go.Proofs.YtjhhommnkaemlaaGreat.X
namespace Go.Proofs.YtjhhommnkaemlaaGreat.X
open Go Go.Ev Go.RowKit
 -- STEPS
attribute [local irreducible] World.alloc World.setRow Go.Ev.dw
theorem SC {a b : Option Addr} {c c' : Nat} {S S' : Nat → Prop} {xs ys : List Tag} {w : World} (hx : xs.length = 4) (hy : ys.length = 4) (ha : D AJ S w [.slice a 4 c] xs) (hb : D AJ S' w [.slice b 4 c'] ys) :
  Ae (EV P 67 #[.agg #[.slice a 4 c], .agg #[.slice b 4 c']] w) fun r => ∃ a2 c2, (AF xs ys).length = 4 ∧ r.1 = .agg #[.slice a2 4 c2] ∧ O AJ (In w.heap.size r.2.heap.size) r.2 [.slice a2 4 c2] (AF xs ys) ∧ Ext w r.2 := by
 have := HF hx hy (by rw [hx]; exact ha) (by rw [hy]; exact hb)
 rw [hx, hy] at this
 refine Ae.mono this ?_
 rintro r ⟨a2, c2, h1, h2, h3⟩
 have hl : (AF xs ys).length = 4 := by first | (rw [Dj (by omega)]; omega) | (simp [AF]; omega)
 rw [hl] at h1 h2
 exact ⟨a2, c2, hl, h1, h2, h3⟩
theorem Pl {M M' i b8 : Nat} {kind num key : Int} {text : ByteArray} {gone : Bool} {S T : Nat → Prop} {cs0 cs1 : List Value} {st1 : WorldD} {u : Ver} {au : Option Addr} {cu : Nat} {e : Env} {w W : World} (hf : BF M' st1) (hM' : M' ≤ M + 16) (h80 : st1.AE.length < 80)
  (ho : O tW T W cs1 st1) (hT : ∀ b, T b → (S b ∧ b < w.heap.size) ∨ w.heap.size + 3 ≤ b) (hMod : Mod S w W)
  (e2 : e 2 = pt w.heap.size 0) (e3 : e 3 = pt (w.heap.size + 1) 0) (e4 : e 4 = pt (w.heap.size + 1 + 1) 0) (e8 : e 8 = pt b8 0)
  (X2 : hp W w.heap.size = some (.cells cs1.toArray 77 (0, 0))) (X3 : hp W (w.heap.size + 1) = some (.cells #[i64 kind, i64 i, i64 num, i64 key, .string text, .bool gone] 137 (0, 0)))
  (X4 : hp W (w.heap.size + 1 + 1) = some (.cells #[.slice none 0 0, .slice none 0 0, .slice none 0 0, .slice none 0 0] 77 (0, 0))) (X8 : hp W b8 = some (.cells #[i64 u.key, i64 u.tag.t, i64 u.tag.p, .slice au u.past.length cu, .string u.text, .bool u.gone] 49 (0, 0))) :
  Ae (Dm e W) (Step M S w cs0) := by
 have y4 := Aq X4
 obtain ⟨u1, l1, d1, u2, l2, d2, u3, l3, d3, u4, l4, d4, rfl⟩ := ho.BX
 rw [I1]
 refine Ae.post fun Q hQ => ?_
 simp (maxSteps := 1000000) (disch := first | exact xD | fail) [-Option.bind_some, -Aa, -Ab, e2, e3, e4, e8, X2, X3, X8]
 refine Ae.bind (Mf (d := ⟨i, 2, key, u.tag⟩) (by omega) ho) ?_
 rintro ⟨_, w3⟩ ⟨cs3, rfl, o3, M3⟩
 have zM3 := M3.size
 try simp only [] at zM3
 try dsimp only at o3 M3
 have zM3 := M3.size
 obtain ⟨u5, l5, d5, u6, l6, d6, u7, l7, d7, u8, l8, d8, rfl⟩ := o3.BX
 have L4 := (M3.Ai _ (by omega) (fun h => by have := hT _ h; omega)).trans X4
 simp (maxSteps := 1000000) (disch := first | exact xD | fail) [-Option.bind_some, -Aa, -Ab, qm, L4]
 refine hQ _ ⟨_, _, true, rfl, by simp, (hf.AE (d := ⟨i, 2, key, u.tag⟩) h80).up hM', (o3.Aj fun b hb hbl => Ac ?_).wide ?_, (Mod.AW hMod M3 fun b hb h => by rcases hT b h with h | h; exact h.1; omega).AL (.inl (by omega)) _⟩
 ·rintro rfl
  simp only [In] at hb
  rcases hb with h | h
  ·have := hT _ h
   omega
  ·omega
 ·intro b hb hbl
  simp only [In, size_setRow] at hb hbl ⊢
  rcases hb with h | h
  ·rcases hT b h with h | h
   ·exact .inl h.1
   ·exact .inr (by omega)
  ·exact .inr (by omega)
theorem SD {M i : Nat} {kind num key : Int} {text : ByteArray} {gone : Bool} {S : Nat → Prop} {cs : List Value} {st : WorldD} {w : World} (hf : BF M st) (hM : M ≤ 900000) (hi : i < st.Ar.length) (ho : O tW S w cs st) :
  Ae (EV P 123 #[.agg cs.toArray, .agg #[i64 kind, i64 i, i64 num, i64 key, .string text, .bool gone]] w) (Step M S w cs) := by
 have ho := ho.lt
 have hf' := hf
 obtain ⟨pl3, hfp, sl4, hfs, nl, hfn, hl80⟩ := hf'
 obtain ⟨s, hs, _⟩ := Ak hi
 obtain ⟨hs0, hs2, hsp, hsk0, hsk3⟩ := hfs s (List.mem_of_getElem? hs)
 obtain ⟨k, hk⟩ := Int.eq_ofNat_of_zero_le hs0
 have hk3 : k < st.places.length := by omega
 obtain ⟨p, hp', _⟩ := Ak hk3
 have hpf := hfp p (List.mem_of_getElem? hp')
 obtain ⟨c, a1, c1, a2, c2, a3, c3, gp, curp, dp, Sp, rfl, hSgp, hgpl, hgp, hlep, op, hSp, _⟩ := O.F6 ho hp'
 obtain ⟨a', c', c1', a2', c2', a3', c3', gs, curs, ap, cp, Ss, hcs, hSgs, hgsl, hgs, hles, os, hSs, puts⟩ := O.Eu ho hs
 simp only [List.cons.injEq, Value.slice.injEq, and_true, true_and] at hcs
 obtain ⟨⟨rfl, rfl⟩, ⟨rfl, rfl⟩, ⟨rfl, rfl⟩, rfl, rfl⟩ := hcs
 have op' := op.d
 obtain ⟨ac, cc, al, cl, ag, cg, rfl, q1, _, _⟩ := D.place.1 op'
 rw [hsp, hk] at hgs
 have As := Dk hgs (by simpa using hles)
 have Ap := Dk hgp (by simpa using hlep)
 have t0 := As 0 _ rfl
 have t1 := As 1 _ rfl
 have t2 := As 2 _ rfl
 have t3 := As 3 _ rfl
 have t4 := As 4 _ rfl
 simp only [Nat.add_zero] at t0 t1 t2 t3 t4
 have m0 := Ap 0 _ rfl
 have m1 := Ap 1 _ rfl
 have m2 := Ap 2 _ rfl
 have m3 := Ap 3 _ rfl
 have m4 := Ap 4 _ rfl
 have m5 := Ap 5 _ rfl
 simp only [Nat.add_zero] at m0 m1 m2 m3 m4 m5
 have osd : D AJ Ss w [.slice ap 4 cp] s.past := by rw [← hsp]; exact os.d
 have ok : ∀ (w' : World), Ext w w' → Step M S w [.slice (some ⟨gp, 0, none⟩) st.places.length c, .slice (some ⟨gs, 0, none⟩) st.Ar.length c1, .slice a2 st.net.length c2, .slice a3 st.AE.length c3] (.tuple #[.agg #[.slice (some ⟨gp, 0, none⟩) st.places.length c, .slice (some ⟨gs, 0, none⟩) st.Ar.length c1, .slice a2 st.net.length c2, .slice a3 st.AE.length c3], .bool false], w') :=
  fun w' hE => Step.fail hf (ho.wide fun b h _ => h.1) hE
 have x0 : 0 < p.chain.length := hpf.1.1
 have x4 := hpf.1.2.1
 have hw1 : IntKind.i64.wrap ((p.chain.length : Int) - 1) = ((p.chain.length - 1 : Nat) : Int) := by rw [Kv (by omega) (by omega)]; omega
 refine Ae.post fun Q hQ => ?_
 refine Ae.enter plain mixed (LI _ _ _) (by kernel_rfl) (n := 2) (by kernel_rfl) rfl ?_
 by_cases hwt : 0 < s.wait.t
 ·simp (maxSteps := 1000000) (disch := first | exact xD | fail) [-Option.bind_some, qs, -Aa, -Ab, qm, DD, CQ, hwt, t0, t1, t2, t3, t4, m2]
  exact hQ _ (ok _ xE)
 simp (maxSteps := 1000000) (disch := first | exact xD | fail) [-Option.bind_some, qs, -Aa, -Ab, qm, DD, CQ, hwt, t0, t1, t2, t3, t4, m2]
 refine Ae.bind (AD _ _ _ _) ?_
 rintro _ rfl
 cases hky : (decide (0 ≤ key) && decide (key ≤ 3))
 ·simp (maxSteps := 1000000) (disch := first | exact xD | fail) [-Option.bind_some, qs, -Aa, -Ab, qm]
  exact hQ _ (ok _ xE)
 simp only [Bool.and_eq_true, decide_eq_true_eq] at hky
 obtain ⟨ky, rfl⟩ := Int.eq_ofNat_of_zero_le hky.1
 have hky4 : ky < 4 := by omega
 simp (maxSteps := 1000000) (disch := first | exact xD | fail) [-Option.bind_some, qs, -Aa, -Ab, hw1]
 refine Ae.bind (AD _ _ _ _) ?_
 rintro _ rfl
 cases hnm : (decide (0 ≤ num) && decide (num ≤ ((p.chain.length - 1 : Nat) : Int)))
 ·simp (maxSteps := 1000000) (disch := first | exact xD | fail) [-Option.bind_some, qs, -Aa, -Ab, qm]
  exact hQ _ (ok _ xE)
 have hnm' := hnm
 simp only [Bool.and_eq_true, decide_eq_true_eq] at hnm'
 obtain ⟨nm, rfl⟩ := Int.eq_ofNat_of_zero_le hnm'.1
 have hnml : nm < p.chain.length := by omega
 by_cases h80 : st.AE.length < 80
 ·simp (maxSteps := 1000000) (disch := first | exact xD | fail) [-Option.bind_some, qs, -Aa, -Ab, show ¬ (80 : Int) ≤ st.AE.length by omega]
  refine Ae.bind (Ns (k := nm) (key := ky) hpf.1 hnml hky4 (q1.ext xE)) ?_
  rintro ⟨_, w1⟩ ⟨ds, u, huK, rfl, o3, E1⟩
  try dsimp only at ds u huK o3 E1
  have zE1 := E1.size
  try simp only [qz] at zE1
  have F1 : Ext w w1 := xE
  have zF1 := F1.size
  have zo3 := O.BV.1 o3
  obtain ⟨au, cu, rfl, ou, _⟩ := zo3
  obtain ⟨tg, htg, _⟩ := Ak (l := s.past) (k := ky) (by omega)
  obtain ⟨b2, o2, cs2, rfl, A2, D2, _, _⟩ := osd.at (by decide) htg
  obtain rfl := D.tag.1 D2
  have j0 := A2 0 _ rfl
  have j1 := A2 1 _ rfl
  simp only [DK, Nat.add_zero] at j0 j1
  have B0 : hp w1 w.heap.size = some (.cells #[.slice (some ⟨gp, 0, none⟩) st.places.length c, .slice (some ⟨gs, 0, none⟩) st.Ar.length c1, .slice a2 st.net.length c2, .slice a3 st.AE.length c3] 77 (0, 0)) := (E1.Ai xB).trans (by first | assumption | rfl | (simp (maxSteps := 1000000) (disch := first | exact xD | fail) [-Option.bind_some, qs, -Aa, -Ab]; done))
  have B1 : hp w1 (w.heap.size + 1) = some (.cells #[i64 kind, i64 i, i64 nm, i64 ky, .string text, .bool gone] 137 (0, 0)) := (E1.Ai xB).trans (by first | assumption | rfl | (simp (maxSteps := 1000000) (disch := first | exact xD | fail) [-Option.bind_some, qs, -Aa, -Ab]; done))
  have B2 : hp w1 (w.heap.size + 1 + 1) = some (.cells #[.slice none 0 0, .slice none 0 0, .slice none 0 0, .slice none 0 0] 77 (0, 0)) := (E1.Ai xB).trans (by first | assumption | rfl | (simp (maxSteps := 1000000) (disch := first | exact xD | fail) [-Option.bind_some, qs, -Aa, -Ab]; done))
  have B3 : hp w1 (w.heap.size + 1 + 1 + 1) = some (.cells #[i64 k, .slice (some ⟨b2, o2, none⟩) 4 cp, i64 s.wait.t, i64 s.wait.p, i64 s.key] 129 (0, 0)) := (E1.Ai xB).trans (by first | assumption | rfl | (simp (maxSteps := 1000000) (disch := first | exact xD | fail) [-Option.bind_some, qs, -Aa, -Ab]; done))
  simp (maxSteps := 1000000) (disch := first | exact xD | fail) [-Option.bind_some, qs, -Aa, -Ab, qm, B1, B3, Em, E1.Ai, j0, j1]
  refine Ae.bind (AM u.tag tg _) ?_
  rintro ⟨_, w2⟩ ⟨rfl, E2⟩
  try dsimp only at E2
  have zE2 := E2.size
  try simp only [qz] at zE2
  have V2 : hp w2 w1.heap.size = some (.cells #[i64 u.key, i64 u.tag.t, i64 u.tag.p, .slice au u.past.length cu, .string u.text, .bool u.gone] 49 (0, 0)) := (E2.Ai xB).trans (by first | assumption | rfl | (simp (maxSteps := 1000000) (disch := first | exact xD | fail) [-Option.bind_some, qs, -Aa, -Ab]; done))
  cases hb1 : AG u.tag tg
  ·by_cases hut : 0 < u.tag.t
   ·have hu4 := huK.2.2 hut
    have ou4 : D AJ (fun b => w.heap.size ≤ b) w1 [.slice au 4 cu] u.past := by rw [← hu4]; exact ou.d.wide fun b hb _ => by simp only [In, World.size_alloc, size_setRow] at hb; omega
    rw [hu4] at V2
    simp (maxSteps := 1000000) (disch := first | exact xD | fail) [-Option.bind_some, qs, -Aa, -Ab, hut, V2, E1.Ai, E2.Ai]
    refine Ae.bind (SC hsp hu4 (osd.ext xE) (ou4.ext xE)) ?_
    rintro ⟨_, w3⟩ ⟨a6, c6, hj4, rfl, o6, E3⟩
    try dsimp only at a6 c6 hj4 o6 E3
    have zE3 := E3.size
    try simp only [qz] at zE3
    simp (maxSteps := 1000000) (disch := first | exact xD | fail) [-Option.bind_some, qs, -Aa, -Ab, V2, E1.Ai, E2.Ai, E3.Ai]
    refine Ae.bind (Mg (t := u.tag) (k := ky) hj4 hky4 (o6.d.ext xE)) ?_
    rintro ⟨_, w5⟩ ⟨a7, c7, rfl, o7, E5⟩
    try dsimp only at a7 c7 o7 E5
    have zE5 := E5.size
    try simp only [qz] at zE5
    have F5 : Ext w w5 := xE
    have zF5 := F5.size
    have C0 : hp w5 w.heap.size = hp w1 w.heap.size := (by first | assumption | rfl | (simp (maxSteps := 1000000) (disch := first | exact xD | fail) [-Option.bind_some, qs, -Aa, -Ab, E1.Ai, E2.Ai, E3.Ai, E5.Ai]; done))
    have C1 : hp w5 (w.heap.size + 1) = hp w1 (w.heap.size + 1) := (by first | assumption | rfl | (simp (maxSteps := 1000000) (disch := first | exact xD | fail) [-Option.bind_some, qs, -Aa, -Ab, E1.Ai, E2.Ai, E3.Ai, E5.Ai]; done))
    have C2 : hp w5 (w.heap.size + 1 + 1) = hp w1 (w.heap.size + 1 + 1) := (by first | assumption | rfl | (simp (maxSteps := 1000000) (disch := first | exact xD | fail) [-Option.bind_some, qs, -Aa, -Ab, E1.Ai, E2.Ai, E3.Ai, E5.Ai]; done))
    have C8 : hp w5 w1.heap.size = hp w2 w1.heap.size := (by first | assumption | rfl | (simp (maxSteps := 1000000) (disch := first | exact xD | fail) [-Option.bind_some, qs, -Aa, -Ab, E2.Ai, E3.Ai, E5.Ai]; done))
    have G5 := (F5.Ai hgsl).trans hgs
    simp (maxSteps := 1000000) (disch := first | exact xD | fail) [-Option.bind_some, qs, -Aa, -Ab, qm, G5, DD, E1.Ai, E2.Ai, E3.Ai, E5.Ai]
    generalize hW1 : World.setRow _ gs _ = W1
    have sW1 : W1.heap.size = w5.heap.size := by rw [← hW1]; simp
    have kW1 : ∀ b, b ≠ gs → hp W1 b = hp w5 b := fun b h1 => by
     rw [← hW1]
     simp (disch := omega) only [Ac]
    have G6 : hp W1 gs = some (.cells (Bh curs (i * 5) [i64 k, .slice a7 4 c7, i64 s.wait.t, i64 s.wait.p, i64 s.key]).toArray 129 (0, 0)) := by
     rw [← hW1]
     exact (by first | assumption | rfl | (simp (maxSteps := 1000000) (disch := first | exact xD | fail) [-Option.bind_some, -Aa, -Ab, G5]; done))
    have MW1 : Mod S w W1 := by
     rw [← hW1]
     exact (Mod.of F5 S).AL (.inr hSgs.1) _
    have wl4 : (Bb (AF s.past u.past) ky u.tag).length = 4 := by rw [DN]; exact hj4
    have oW1 := (puts W1 _ ⟨s.place, Bb (AF s.past u.past) ky u.tag, s.wait, s.key⟩ (fun b => w.heap.size + 5 ≤ b) (O.Ar.2 ⟨a7, c7, (by rw [hk, wl4]), (by rw [wl4]; exact (o7.Aj fun b hb hbl => kW1 b (by simp only [In] at hb; omega)).wide fun b hb _ => by simp only [In] at hb ⊢; omega)⟩) G6 (fun b hb _ hne' _ => (kW1 b hne').trans (F5.Ai hb)) (fun b _ h => .inr fun hh => by omega)).wide (S' := fun b => (S b ∧ b < w.heap.size) ∨ w.heap.size + 5 ≤ b) (fun b h _ => h)
    exact Ae.mono (Pl (M := M) (M' := M) (i := i) (w := w) (b8 := w1.heap.size) (u := u) (au := au) (cu := cu) (kind := kind) (num := nm) (key := ky) (text := text) (gone := gone) (hf.Ar (i := i) (s := ⟨s.place, Bb (AF s.past u.past) ky u.tag, s.wait, s.key⟩) ⟨hs0, hs2, wl4, hsk0, hsk3⟩) (by omega) h80 oW1 (fun b h => by rcases h with h | h; exact .inl h; exact .inr (by omega)) MW1 xA xA xA xA ((kW1 _ (by omega)).trans (C0.trans B0)) ((kW1 _ (by omega)).trans (C1.trans B1)) ((kW1 _ (by omega)).trans (C2.trans B2)) (by rw [hu4]; exact (kW1 _ (by omega)).trans (C8.trans V2))) hQ
   ·simp (maxSteps := 1000000) (disch := first | exact xD | fail) [-Option.bind_some, -Aa, -Ab, hut, V2]
    have F5 : Ext w w2 := xE
    exact Ae.mono (Pl (M := M) (M' := M) (i := i) (w := w) (b8 := w1.heap.size) (u := u) (au := au) (cu := cu) (kind := kind) (num := nm) (key := ky) (text := text) (gone := gone) hf (by omega) h80 (ho.ext F5) (fun b h => .inl h) (Mod.of F5 S) xA xA xA xA (by first | assumption | rfl | (simp (maxSteps := 1000000) (disch := first | exact xD | fail) [-Option.bind_some, qs, -Aa, -Ab, B0, E2.Ai]; done)) (by first | assumption | rfl | (simp (maxSteps := 1000000) (disch := first | exact xD | fail) [-Option.bind_some, qs, -Aa, -Ab, B1, E2.Ai]; done)) (by first | assumption | rfl | (simp (maxSteps := 1000000) (disch := first | exact xD | fail) [-Option.bind_some, qs, -Aa, -Ab, B2, E2.Ai]; done)) V2) hQ
  ·simp (maxSteps := 1000000) (disch := first | exact xD | fail) [-Option.bind_some, qs, -Aa, -Ab, qm, E1.Ai, E2.Ai]
   exact hQ _ (ok _ xE)
 ·simp (maxSteps := 1000000) (disch := first | exact xD | fail) [-Option.bind_some, qs, -Aa, -Ab, qm, show (80 : Int) ≤ st.AE.length by omega]
  exact hQ _ (ok _ xE)
end Go.Proofs.YtjhhommnkaemlaaGreat.X
namespace Go.Proofs.YtjhhommnkaemlaaGreat.X
open Go Go.Ev Go.RowKit
attribute [local irreducible] World.alloc World.setRow Go.Ev.dw
abbrev Tt (w : World) (x : WorldD) (s t u v : Value) (S1 S2 S3 S4 : Nat → Prop) : Prop := Parts 36 49 86 42 84 129 131 38 w x s t u v S1 S2 S3 S4
theorem SE {a a1 a2 a3 : Option Addr} {n n1 n2 n3 c c1 c2 c3 : Nat} {S1 S2 S3 S4 : Nat → Prop} {st : WorldD} {d : Done} {w : World} (hh : st.AE.length ≤ 1000) (Pt : Tt w st (.slice a n c) (.slice a1 n1 c1) (.slice a2 n2 c2) (.slice a3 n3 c3) S1 S2 S3 S4) (hl : ∀ b, (S1 b ∨ S2 b ∨ S3 b ∨ S4 b) → b < w.heap.size) :
  Ae (EV P 136 #[.agg #[.slice a n c, .slice a1 n1 c1, .slice a2 n2 c2, .slice a3 n3 c3], i64 d.Ar, i64 d.kind, i64 d.key, .agg #[i64 d.tag.t, i64 d.tag.p]] w) fun r => ∃ a4 n4 c4, r.1 = .agg #[.slice a n c, .slice a1 n1 c1, .slice a2 n2 c2, .slice a4 n4 c4] ∧
   Tt r.2 { st with AE := st.AE ++ [d] } (.slice a n c) (.slice a1 n1 c1) (.slice a2 n2 c2) (.slice a4 n4 c4) S1 S2 S3 (fun b => (S4 b ∨ w.heap.size ≤ b) ∧ b < r.2.heap.size) ∧ Mod S4 w r.2 := by
 have hl4 := fun b h => hl b (.inr (.inr (.inr h)))
 refine Ae.post fun Q hQ => ?_
 refine Ae.enter plain mixed (G8 _ _ _ _ _ _) (by kernel_rfl) (n := 5) (by kernel_rfl) rfl ?_
 simp (disch := first | exact xD | fail) [-Option.bind_some, qs, -Aa, -Ab]
 refine Ae.bind (O.app (L := Gi) (mx := 3518437208883) (S1 := fun _ => False) (x := d) (cs := Bp d) GZ Nw rfl (by decide) (Pt.o4.ext xE) (O.done.2 rfl) (fun _ _ _ h => h) (At.nw (by simp)) (by omega) (by decide) (by decide)) ?_
 rintro ⟨_, w1⟩ ⟨a7, c7, rfl, o7, M7⟩
 have zM7 := M7.size
 try simp only [qz] at zM7
 try dsimp only at o7 M7
 have zM7 := M7.size
 simp only [World.size_alloc] at zM7 o7
 have nn3 : ∀ b, w.heap.size ≤ b → ¬ S4 b := fun b h h' => by have := hl4 b h'; omega
 have Y1 : hp w1 w.heap.size = some (.cells #[.slice a n c, .slice a1 n1 c1, .slice a2 n2 c2, .slice a3 n3 c3] 77 (0, 0)) := (M7.Ai _ (by simp; omega) (nn3 _ (by omega))).trans (by first | assumption | rfl | (simp (disch := first | exact xD | fail) [-Option.bind_some, qs, -Aa, -Ab]; done))
 have Y3 : hp w1 (w.heap.size + 1 + 1) = some (.cells #[.slice none 0 0, .slice none 0 0, .slice none 0 0, .slice none 0 0] 77 (0, 0)) := (M7.Ai _ (by simp) (nn3 _ (by omega))).trans (by first | assumption | rfl | (simp (disch := first | exact xD | fail) [-Option.bind_some, qs, -Aa, -Ab]; done))
 simp (disch := first | exact xD | fail) [-Option.bind_some, qs, -Aa, -Ab, qm, Y1, Y3]
 have kk : ∀ b, b < w.heap.size → ¬ S4 b → hp ((w1.setRow w.heap.size #[.slice a n c, .slice a1 n1 c1, .slice a2 n2 c2, .slice a7 (st.AE.length + 1) c7]).setRow (w.heap.size + 1 + 1) #[.slice a n c, .slice a1 n1 c1, .slice a2 n2 c2, .slice a7 (st.AE.length + 1) c7]) b = hp w b := fun b hb hn => by
  rw [Ac (by omega), Ac (by omega), M7.Ai b (by simp; omega) hn, Ag (by simp; omega), Ag (by simp; omega), Ag (by simp; omega), Ag (by omega)]
 refine hQ _ ⟨_, _, _, rfl, Pt.SZ hl ((o7.Aj fun b hb hbl => ?_).wide ?_) (fun b hb hn => kk b (hl b (by rcases hb with h | h | h; exact .inl h; exact .inr (.inl h); exact .inr (.inr (.inl h)))) hn) (fun b h => h.1), ?_⟩
 ·have : b ≠ w.heap.size ∧ b ≠ w.heap.size + 1 + 1 := by
   rcases hb with h | h | h
   ·have := hl4 b h; omega
   ·exact h.elim
   ·omega
  rw [Ac this.2, Ac this.1]
 ·intro b hb hbl
  refine ⟨?_, hbl⟩
  rcases hb with h | h | h
  ·exact .inl h
  ·exact h.elim
  ·exact .inr (by omega)
 ·have Mb : Mod S4 w w1 := Mod.AW (Mod.of xE S4) M7 fun b _ h => h
  exact (Mb.AL (.inl (Nat.le_refl _)) _).AL (.inl (by omega)) _
theorem Tu {M i gs n1 c1 n c n2 c2 c8 b8 : Nat} {a a2 a8 : Option Addr} {kind num key : Int} {text : ByteArray} {gone : Bool} {S S1 S2 S3 S4 : Nat → Prop} {cs0 : List Value} {x : CNode} {w : World}
  (hl : ∀ b, (S1 b ∨ S2 b ∨ S3 b ∨ S4 b) → S b ∧ b < w.heap.size) (hx4 : x.store.length = 4) (hst : D AQ S1 w [.slice a8 4 c8] x.store) (hin : i < n1) (hb8 : w.heap.size + 3 ≤ b8 ∧ b8 < w.heap.size + 6) :
  ∀ (d k : Nat) (e : Env) (W : World) (a4 : Option Addr) (n4 c4 : Nat) (st1 : WorldD) (s1 : SessD) (T2 T4 : Nat → Prop), k + d = 4 → e 2 = pt w.heap.size 0 → e 3 = pt (w.heap.size + 1) 0 → e 4 = pt (w.heap.size + 1 + 1) 0 → e 8 = pt b8 0 → e 9 = i64 k →
   hp W w.heap.size = some (.cells #[.slice a n c, .slice (some ⟨gs, 0, none⟩) n1 c1, .slice a2 n2 c2, .slice a4 n4 c4] 77 (0, 0)) → hp W (w.heap.size + 1) = some (.cells #[i64 kind, i64 i, i64 num, i64 key, .string text, .bool gone] 137 (0, 0)) →
   hp W (w.heap.size + 1 + 1) = some (.cells #[.slice none 0 0, .slice none 0 0, .slice none 0 0, .slice none 0 0] 77 (0, 0)) → hp W b8 = some (.cells #[.slice a8 4 c8] 44 (0, 0)) →
   Tt W st1 (.slice a n c) (.slice (some ⟨gs, 0, none⟩) n1 c1) (.slice a2 n2 c2) (.slice a4 n4 c4) S1 T2 S3 T4 → (∀ b, T2 b → (S2 b ∨ w.heap.size + 6 ≤ b) ∧ b < W.heap.size) → (∀ b, T4 b → (S4 b ∨ w.heap.size + 6 ≤ b) ∧ b < W.heap.size) → w.heap.size + 6 ≤ W.heap.size →
   (∀ b, S1 b → hp W b = hp w b) → st1.Ar[i]? = some s1 → BF M st1 → st1.AE.length + d ≤ 80 → Mod S w W → Ae (DV e W) (Step M S w cs0) := by
 have hl1 := fun b h => hl b (.inl h)
 have hl2 := fun b h => hl b (.inr (.inl h))
 have hl3 := fun b h => hl b (.inr (.inr (.inl h)))
 have hl4 := fun b h => hl b (.inr (.inr (.inr h)))
 intro d
 induction d with
 | zero =>
  intro k e W a4 n4 c4 st1 s1 T2 T4 hd e2 e3 e4 e8 e9 X2 X3 X4 X8 Pt hT2 hT4 hz hk1 hs hf h80 hM
  rw [Gg]
  obtain rfl : k = 4 := by omega
  have y4 := Aq X4
  refine Ae.post fun Q hQ => ?_
  simp (disch := first | exact xD | fail) [-Option.bind_some, -Aa, -Ab, qm, e2, e4, e9, X2, X4]
  refine hQ _ ⟨_, st1, true, rfl, by simp, hf.up (by omega), (Pt.mk'.Aj fun b hb hbl => Ac ?_).wide ?_, hM.AL (.inl (by omega)) _⟩
  ·rintro rfl
   rcases hb with h | h | h | h
   ·have := (hl1 _ h).2; omega
   ·have := (hT2 _ h).1; rcases this with h | h; have := (hl2 _ h).2; omega; omega
   ·have := (hl3 _ h).2; omega
   ·have := (hT4 _ h).1; rcases this with h | h; have := (hl4 _ h).2; omega; omega
  ·intro b hb hbl
   simp only [In, size_setRow] at hbl ⊢
   rcases hb with h | h | h | h
   ·exact .inl (hl1 _ h).1
   ·have := (hT2 _ h).1; rcases this with h | h; exact .inl (hl2 _ h).1; exact .inr (by omega)
   ·exact .inl (hl3 _ h).1
   ·have := (hT4 _ h).1; rcases this with h | h; exact .inl (hl4 _ h).1; exact .inr (by omega)
 | succ d ih =>
  intro k e W a4 n4 c4 st1 s1 T2 T4 hd e2 e3 e4 e8 e9 X2 X3 X4 X8 Pt hT2 hT4 hz hk1 hs hf h80 hM
  rw [Gg]
  have hk4 : k < 4 := by omega
  have hlW : ∀ b, (S1 b ∨ T2 b ∨ S3 b ∨ T4 b) → b < W.heap.size := by
   rintro b (h | h | h | h)
   ·have := (hl1 _ h).2; omega
   ·exact (hT2 b h).2
   ·have := (hl3 _ h).2; omega
   ·exact (hT4 b h).2
  have box : ∀ b, w.heap.size ≤ b → b < w.heap.size + 6 → ¬ (S1 b ∨ T2 b ∨ S3 b ∨ T4 b) := by
   rintro b h1 h2 (h | h | h | h)
   ·have := (hl1 _ h).2; omega
   ·have := (hT2 _ h).1; rcases this with h | h; have := (hl2 _ h).2; omega; omega
   ·have := (hl3 _ h).2; omega
   ·have := (hT4 _ h).1; rcases this with h | h; have := (hl4 _ h).2; omega; omega
  obtain ⟨cur, ap, cp, Sx, rfl, hTg, hgs, hle, os, hSx, puts⟩ := Pt.Eu hlW hs
  have hi : i < st1.Ar.length := hin
  obtain ⟨hs0, hs2, hsp, hsk0, hsk3⟩ := hf.2.2.2.1 s1 (List.mem_of_getElem? hs)
  rw [hsp] at hgs os
  have hgW := (hT2 gs hTg).2
  obtain ⟨v, hv, _⟩ := Ak (l := x.store) (k := k) (by omega)
  have hstW : D AQ S1 W [.slice a8 4 c8] x.store := hst.Aj fun b hb _ => hk1 b hb
  obtain ⟨b9, o9, cs9, rfl, A9, D9, hSb9, yb9⟩ := hstW.at (by decide) hv
  obtain ⟨av, cv, rfl, _, _⟩ := D.BV.1 D9
  have m0 := A9 0 _ rfl
  have m1 := A9 1 _ rfl
  have m2 := A9 2 _ rfl
  have m3 := A9 3 _ rfl
  have m4 := A9 4 _ rfl
  have m5 := A9 5 _ rfl
  simp only [Bw, Nat.add_zero] at m0 m1 m2 m3 m4 m5
  have As := Dk hgs (by simpa using hle)
  have t0 := As 0 _ rfl
  have t1 := As 1 _ rfl
  have t2 := As 2 _ rfl
  have t3 := As 3 _ rfl
  have t4 := As 4 _ rfl
  simp only [Nat.add_zero] at t0 t1 t2 t3 t4
  refine Ae.post fun Q hQ => ?_
  simp (disch := first | exact xD | fail) [-Option.bind_some, qs, -Aa, -Ab, e2, e3, e8, e9, X2, X3, X8, show (k : Int) < 4 by omega, DD, BP, m1, m2, t1]
  refine Ae.bind (Mg (xs := s1.past) (t := v.tag) (k := k) hsp hk4 (os.d.ext xE)) ?_
  rintro ⟨_, w1⟩ ⟨a7, c7, rfl, o7, E1⟩
  try dsimp only at a7 c7 o7 E1
  have zE1 := E1.size
  try simp only [qz] at zE1
  simp only [Ad] at zE1 o7
  have F1 : Ext W w1 := xE
  have G1 := (F1.Ai hgW).trans hgs
  have N0 := (F1.Ai (b := w.heap.size) (by omega)).trans X2
  have N1 := (F1.Ai (b := w.heap.size + 1) (by omega)).trans X3
  have N2 := (F1.Ai (b := w.heap.size + 1 + 1) (by omega)).trans X4
  have N8 := (F1.Ai (b := b8) (by omega)).trans X8
  have gbx : ∀ b, w.heap.size ≤ b → b < w.heap.size + 6 → b ≠ gs := fun b h1 h2 h => box b h1 h2 (.inr (.inl (h ▸ hTg)))
  have ng0 := gbx w.heap.size (Nat.le_refl _) (by omega)
  have ng1 := gbx (w.heap.size + 1) (by omega) (by omega)
  have ng2 := gbx (w.heap.size + 1 + 1) (by omega) (by omega)
  have ng8 := gbx b8 (by omega) (by omega)
  have hb9 : b9 ≠ gs := fun h => Pt.d12 b9 yb9 hSb9 (h ▸ hTg)
  simp (disch := first | exact xD | fail) [-Option.bind_some, qs, -Aa, -Ab, qm, G1, N0, N1, N8, BP, m1, m2, E1.Ai]
  generalize hW1 : Go.Ev.dw (World.setRow _ gs _) = W1
  have sW1 : W1.heap.size = w1.heap.size := by rw [← hW1]; simp
  have kW1 : ∀ b, b ≠ gs → hp W1 b = hp w1 b := fun b h1 => by
   rw [← hW1]
   simp (disch := omega) only [Ac, BB]
  have G6 : hp W1 gs = some (.cells (Bh cur (i * 5) [i64 s1.place, .slice a7 4 c7, i64 s1.wait.t, i64 s1.wait.p, i64 s1.key]).toArray 129 (0, 0)) := by
   rw [← hW1]
   exact (by first | assumption | rfl | (simp (disch := first | exact xD | fail) [-Option.bind_some, -Aa, -Ab, G1]; done))
  have hgS : w.heap.size ≤ gs ∨ S gs := by rcases (hT2 gs hTg).1 with h | h; exact .inr (hl2 _ h).1; exact .inl (by omega)
  have MW1 : Mod S w W1 := by
   rw [← hW1]
   exact ((hM.ex F1).AL hgS _).SN
  have wl4 : (Bb s1.past k v.tag).length = 4 := by rw [DN]; exact hsp
  have Pt1 := puts W1 _ ⟨s1.place, Bb s1.past k v.tag, s1.wait, s1.key⟩ (In W.heap.size w1.heap.size) (O.Ar.2 ⟨a7, c7, (by rw [wl4]), (by rw [wl4]; exact o7.Aj fun b hb hbl => kW1 b (by simp only [In] at hb; omega))⟩) G6 (fun b hb hne _ => (kW1 b hne).trans (F1.Ai (hlW b hb))) (fun b h => .inr h.1)
  have hlW1 : ∀ b, (S1 b ∨ (T2 b ∨ In W.heap.size w1.heap.size b) ∨ S3 b ∨ T4 b) → b < W1.heap.size := by
   rintro b (h | (h | h) | h | h)
   ·have := hlW b (.inl h); omega
   ·have := hlW b (.inr (.inl h)); omega
   ·simp only [In] at h; omega
   ·have := hlW b (.inr (.inr (.inl h))); omega
   ·have := hlW b (.inr (.inr (.inr h))); omega
  have box1 : ∀ b, w.heap.size ≤ b → b < w.heap.size + 6 → ¬ (S1 b ∨ (T2 b ∨ In W.heap.size w1.heap.size b) ∨ S3 b ∨ T4 b) := by
   rintro b h1 h2 (h | (h | h) | h | h)
   ·exact box b h1 h2 (.inl h)
   ·exact box b h1 h2 (.inr (.inl h))
   ·simp only [In] at h; omega
   ·exact box b h1 h2 (.inr (.inr (.inl h)))
   ·exact box b h1 h2 (.inr (.inr (.inr h)))
  refine Ae.bind (SE (d := ⟨i, 2, k, v.tag⟩) (by show st1.AE.length ≤ 1000; omega) Pt1 hlW1) ?_
  rintro ⟨_, w2⟩ ⟨a5, n5, c5, rfl, Pt2, M2⟩
  have zM2 := M2.size
  try simp only [] at zM2
  try dsimp only at Pt2 M2
  have zM2 := M2.size
  have keep2 : ∀ b, w.heap.size ≤ b → b < w.heap.size + 6 → hp w2 b = hp W b := fun b h1 h2 => (M2.Ai b (by omega) (fun h => box1 b h1 h2 (.inr (.inr (.inr h))))).trans ((kW1 b (gbx b h1 h2)).trans (F1.Ai (by omega)))
  have L0 := (keep2 w.heap.size (by omega) (by omega)).trans X2
  have L1 := (keep2 (w.heap.size + 1) (by omega) (by omega)).trans X3
  have L2 := (keep2 (w.heap.size + 1 + 1) (by omega) (by omega)).trans X4
  have L8 := (keep2 b8 (by omega) (by omega)).trans X8
  simp (disch := first | exact xD | fail) [-Option.bind_some, -Aa, -Ab, qm, L0]
  have hl2' : ∀ b, (S1 b ∨ (T2 b ∨ In W.heap.size w1.heap.size b) ∨ S3 b ∨ ((T4 b ∨ W1.heap.size ≤ b) ∧ b < w2.heap.size)) → b < w2.heap.size := by
   rintro b (h | h | h | h)
   ·have := hlW1 b (.inl h); omega
   ·have := hlW1 b (.inr (.inl h)); omega
   ·have := hlW1 b (.inr (.inr (.inl h))); omega
   ·exact h.2
  have hne0 : ∀ b, (S1 b ∨ (T2 b ∨ In W.heap.size w1.heap.size b) ∨ S3 b ∨ ((T4 b ∨ W1.heap.size ≤ b) ∧ b < w2.heap.size)) → b ≠ w.heap.size := by
   rintro b (h | h | h | h) rfl
   ·exact box1 _ (Nat.le_refl _) (by omega) (.inl h)
   ·exact box1 _ (Nat.le_refl _) (by omega) (.inr (.inl h))
   ·exact box1 _ (Nat.le_refl _) (by omega) (.inr (.inr (.inl h)))
   ·rcases h.1 with h | h
    ·exact box1 _ (Nat.le_refl _) (by omega) (.inr (.inr (.inr h)))
    ·omega
  refine Ae.mono (ih (k + 1) _ _ a5 n5 c5 _ ⟨s1.place, Bb s1.past k v.tag, s1.wait, s1.key⟩ (fun b => T2 b ∨ In W.heap.size w1.heap.size b) (fun b => (T4 b ∨ W1.heap.size ≤ b) ∧ b < w2.heap.size) (by omega) xA xA xA xA xA (by first | assumption | rfl | (simp (disch := first | exact xD | fail) [-Option.bind_some, -Aa, -Ab, L0]; done)) ((Ac (by omega)).trans L1) ((Ac (by omega)).trans L2) ((Ac (by omega)).trans L8) (Pt2.Aj hl2' fun b hb => Ac (hne0 b hb)) ?_ ?_ (by simp only [size_setRow]; omega) ?_ (by rw [List.getElem?_set_self hi]) ((hf.Ar (i := i) (s := ⟨s1.place, Bb s1.past k v.tag, s1.wait, s1.key⟩) ⟨hs0, hs2, wl4, hsk0, hsk3⟩).AE (d := ⟨i, 2, k, v.tag⟩) (by show st1.AE.length < 80; omega)) (by simp; omega) ?_) hQ
  ·intro b hb
   simp only [size_setRow]
   rcases hb with h | h
   ·have := hT2 b h
    exact ⟨this.1, by omega⟩
   ·simp only [In] at h
    exact ⟨.inr (by omega), by omega⟩
  ·intro b hb
   simp only [size_setRow]
   refine ⟨?_, hb.2⟩
   rcases hb.1 with h | h
   ·exact (hT4 b h).1
   ·exact .inr (by omega)
  ·intro b hb
   have hbl := (hl1 b hb).2
   exact (Ac (hne0 b (.inl hb))).trans ((M2.Ai b (by omega) (fun h => Pt.d14 b (by omega) hb h)).trans ((kW1 b (fun e => Pt.d12 b (by omega) hb (e ▸ hTg))).trans ((F1.Ai (by omega)).trans (hk1 b hb))))
  ·exact (Mod.AW MW1 M2 fun b hb h => by rcases (hT4 b h).1 with h | h; exact (hl4 b h).1; omega).AL (.inl (Nat.le_refl _)) _
theorem Tv {M i : Nat} {kind num key : Int} {text : ByteArray} {gone : Bool} {S : Nat → Prop} {cs : List Value} {st : WorldD} {w : World} (hf : BF M st) (hM : M ≤ 900000) (hi : i < st.Ar.length) (ho : O tW S w cs st) :
  Ae (EV P 124 #[.agg cs.toArray, .agg #[i64 kind, i64 i, i64 num, i64 key, .string text, .bool gone]] w) (Step M S w cs) := by
 have hf' := hf
 obtain ⟨pl3, hfp, sl4, hfs, nl, hfn, hl80⟩ := hf'
 obtain ⟨s, hs, _⟩ := Ak hi
 obtain ⟨hs0, hs2, hsp, hsk0, hsk3⟩ := hfs s (List.mem_of_getElem? hs)
 obtain ⟨k, hk⟩ := Int.eq_ofNat_of_zero_le hs0
 have hk3 : k < st.places.length := by omega
 obtain ⟨p, hp', _⟩ := Ak hk3
 have hpf := hfp p (List.mem_of_getElem? hp')
 have x0 : 0 < p.chain.length := hpf.1.1
 have x4 := hpf.1.2.1
 obtain ⟨x, hx, _⟩ := Ak (l := p.chain) (k := p.chain.length - 1) (by omega)
 have hxn := hpf.1.2.2 x (List.mem_of_getElem? hx)
 obtain ⟨a, c, a1, c1, a2, c2, a3, c3, S1, S2, S3, S4, rfl, Pt, hl⟩ := O.GQ ho
 have hl' := fun b h => (hl b h).2
 obtain ⟨g0, _, _, _, _, rfl, _⟩ : ∃ (g : Nat) (_ _ _ _ : Unit), a1 = some ⟨g, 0, none⟩ ∧ True := by
  obtain ⟨g, cur, ds, Sx, h1, _⟩ := Pt.o2.OA (by show 0 < 5; decide) hs
  exact ⟨g, (), (), (), (), h1, trivial⟩
 obtain ⟨curs, ap, cp, Ss, _, hTg, hgs, hles, os, hSs, puts⟩ := Pt.Eu hl' hs
 have hgl := hl' g0 (.inr (.inl hTg))
 obtain ⟨b0, o0, cs2, rfl, Ap, Dp, hSp, _⟩ := Pt.o1.d.at (by show 0 < 6; decide) hp'
 obtain ⟨ac, cc, al, cl, ag, cg, rfl, q1, _, _⟩ := D.place.1 Dp
 obtain ⟨b1, o1, cs1, rfl, A1, D1, _, l1⟩ := q1.at (by decide) hx
 obtain ⟨a4, c4, a5, c5, rfl, h2, h3⟩ := D.node.1 D1
 rw [hxn.1] at h2 A1
 rw [hsp, hk] at hgs
 have As := Dk hgs (by simpa using hles)
 have t0 := As 0 _ rfl
 have t1 := As 1 _ rfl
 have t2 := As 2 _ rfl
 have t3 := As 3 _ rfl
 have t4 := As 4 _ rfl
 simp only [Nat.add_zero] at t0 t1 t2 t3 t4
 have m0 := Ap 0 _ rfl
 have m1 := Ap 1 _ rfl
 have m2 := Ap 2 _ rfl
 simp only [Nat.add_zero] at m0 m1 m2
 simp only [Me] at m0 m1 m2
 have n0 := A1 0 _ rfl
 have n1 := A1 1 _ rfl
 simp only [Bd, Nat.add_zero] at n0 n1
 have osd : D AJ Ss w [.slice ap 4 cp] s.past := by rw [← hsp]; exact os.d
 have ok : ∀ (w' : World), Ext w w' → Step M S w [.slice (some ⟨b0, o0, none⟩) st.places.length c, .slice (some ⟨g0, 0, none⟩) st.Ar.length c1, .slice a2 st.net.length c2, .slice a3 st.AE.length c3] (.tuple #[.agg #[.slice (some ⟨b0, o0, none⟩) st.places.length c, .slice (some ⟨g0, 0, none⟩) st.Ar.length c1, .slice a2 st.net.length c2, .slice a3 st.AE.length c3], .bool false], w') :=
  fun w' hE => Step.fail hf ho hE
 have hw1 : IntKind.i64.wrap ((p.chain.length : Int) - 1) = ((p.chain.length - 1 : Nat) : Int) := by rw [Kv (by omega) (by omega)]; omega
 have hw4 : IntKind.i64.wrap ((st.AE.length : Int) + 4) = (st.AE.length : Int) + 4 := Kv (by omega) (by omega)
 have hln : p.chain.length - 1 < p.chain.length := by omega
 refine Ae.post fun Q hQ => ?_
 refine Ae.enter plain mixed (Nh _ _ _) (by kernel_rfl) (n := 2) (by kernel_rfl) rfl ?_
 by_cases hwt : 0 < s.wait.t
 ·simp (disch := first | exact xD | fail) [-Option.bind_some, qs, -Aa, -Ab, qm, hw1, DD, CQ, Cx, hwt, t0, t1, t2, t3, t4, m2, n0]
  exact hQ _ (ok _ xE)
 simp (disch := first | exact xD | fail) [-Option.bind_some, qs, -Aa, -Ab, qm, hw1, DD, CQ, Cx, hwt, t0, t1, t2, t3, t4, m2, n0]
 refine Ae.bind (HN hxn.1 (h2.ext xE)) ?_
 rintro ⟨_, w1⟩ ⟨a6, c6, rfl, o6, E1⟩
 try dsimp only at a6 c6 o6 E1
 have zE1 := E1.size
 try simp only [qz] at zE1
 have ht4 : (B9 x.store).length = 4 := by rw [B9, List.length_map]; exact hxn.1
 rw [ht4] at o6
 have F1 : Ext w w1 := xE
 have zF1 := F1.size
 have B0 : hp w1 w.heap.size = some (.cells #[.slice (some ⟨b0, o0, none⟩) st.places.length c, .slice (some ⟨g0, 0, none⟩) st.Ar.length c1, .slice a2 st.net.length c2, .slice a3 st.AE.length c3] 77 (0, 0)) := (E1.Ai xB).trans (by first | assumption | rfl | (simp (disch := first | exact xD | fail) [-Option.bind_some, qs, -Aa, -Ab]; done))
 have B1 : hp w1 (w.heap.size + 1) = some (.cells #[i64 kind, i64 i, i64 num, i64 key, .string text, .bool gone] 137 (0, 0)) := (E1.Ai xB).trans (by first | assumption | rfl | (simp (disch := first | exact xD | fail) [-Option.bind_some, qs, -Aa, -Ab]; done))
 have B2 : hp w1 (w.heap.size + 1 + 1) = some (.cells #[.slice none 0 0, .slice none 0 0, .slice none 0 0, .slice none 0 0] 77 (0, 0)) := (E1.Ai xB).trans (by first | assumption | rfl | (simp (disch := first | exact xD | fail) [-Option.bind_some, qs, -Aa, -Ab]; done))
 have B3 : hp w1 (w.heap.size + 1 + 1 + 1) = some (.cells #[i64 k, .slice ap 4 cp, i64 s.wait.t, i64 s.wait.p, i64 s.key] 129 (0, 0)) := (E1.Ai xB).trans (by first | assumption | rfl | (simp (disch := first | exact xD | fail) [-Option.bind_some, qs, -Aa, -Ab]; done))
 have B5 : hp w1 (w.heap.size + 1 + 1 + 1 + 1 + 1) = some (.cells #[.slice a4 4 c4] 44 (0, 0)) := (E1.Ai xB).trans (by first | assumption | rfl | (simp (disch := first | exact xD | fail) [-Option.bind_some, qs, -Aa, -Ab]; done))
 simp (disch := first | exact xD | fail) [-Option.bind_some, -Aa, -Ab, ht4, B3]
 refine Ae.bind (Ec hsp ht4 (D.A0 (osd.ext xE)) (D.A0 o6.d)) ?_
 rintro ⟨_, w2⟩ ⟨rfl, E2⟩
 try dsimp only at E2
 have zE2 := E2.size
 try simp only [qz] at zE2
 cases hu : under s.past (B9 x.store)
 ·simp (disch := first | exact xD | fail) [-Option.bind_some, qs, -Aa, -Ab, qm, E1.Ai, E2.Ai]
  exact hQ _ (ok _ xE)
 by_cases h80 : st.AE.length + 4 ≤ 80
 ·have F2 : Ext w w2 := xE
  have zF2 := F2.size
  simp (disch := first | exact xD | fail) [-Option.bind_some, -Aa, -Ab, hw4, B0, show ¬ (80 : Int) < (st.AE.length : Int) + 4 by omega, E2.Ai]
  exact Ae.mono (Tu (M := M) (i := i) (gs := g0) (b8 := w.heap.size + 1 + 1 + 1 + 1 + 1) (kind := kind) (num := num) (key := key) (text := text) (gone := gone) (S := S) (S1 := S1) (S2 := S2) (S3 := S3) (S4 := S4) (x := x) hl hxn.1 h2 hi (by omega) 4 0 _ w2 a3 _ c3 st s S2 S4 (by omega) xA xA xA xA xA ((E2.Ai (by omega)).trans B0) ((E2.Ai (by omega)).trans B1) ((E2.Ai (by omega)).trans B2) ((E2.Ai (by omega)).trans B5) (Pt.Aj hl' fun b hb => F2.Ai (hl' b hb)) (fun b h => ⟨.inl h, by have := hl' b (.inr (.inl h)); omega⟩) (fun b h => ⟨.inl h, by have := hl' b (.inr (.inr (.inr h))); omega⟩) (by omega) (fun b h => F2.Ai (hl' b (.inl h))) hs hf h80 (Mod.of F2 S)) hQ
 ·simp (disch := first | exact xD | fail) [-Option.bind_some, qs, -Aa, -Ab, qm, hw4, B0, show (80 : Int) < (st.AE.length : Int) + 4 by omega, E1.Ai, E2.Ai]
  exact hQ _ (ok _ xE)
end Go.Proofs.YtjhhommnkaemlaaGreat.X
namespace Go.Proofs.YtjhhommnkaemlaaGreat.X
open Go Go.Ev Go.RowKit
attribute [local irreducible] World.alloc World.setRow Go.Ev.dw
theorem Step.out {M g : Nat} {S : Nat → Prop} {w wB : World} {cs : List Value} {r : Value × World} (h : Step M (fun b => S b ∧ b < w.heap.size) wB cs r) (hE : Ext w wB) (hg : w.heap.size ≤ g) (hg2 : g < wB.heap.size) :
  ∃ u1 n1 c1 u2 n2 c2 u3 n3 c3 u4 n4 c4 ok, r.1 = .tuple #[.agg #[.slice u1 n1 c1, .slice u2 n2 c2, .slice u3 n3 c3, .slice u4 n4 c4], .bool ok] ∧ hp r.2 g = hp wB g ∧ Step M S w cs (.tuple #[.agg #[.slice u1 n1 c1, .slice u2 n2 c2, .slice u3 n3 c3, .slice u4 n4 c4], .bool ok], r.2.setRow g #[.slice u1 n1 c1, .slice u2 n2 c2, .slice u3 n3 c3, .slice u4 n4 c4]) := by
 obtain ⟨v, w3⟩ := r
 obtain ⟨cs', st', ok, h1, h2, h3, h4, h5⟩ := h
 dsimp only at h1 h4 h5 ⊢
 obtain ⟨u1, n1, c1, u2, n2, c2, u3, n3, c3, u4, n4, c4, rfl⟩ := h4.BX
 have zE := hE.size
 have zM := h5.size
 refine ⟨u1, n1, c1, u2, n2, c2, u3, n3, c3, u4, n4, c4, ok, h1, h5.Ai g hg2 (by omega), ⟨_, st', ok, rfl, h2, h3, (h4.Aj fun b hb hbl => Ac ?_).wide ?_, ?_⟩⟩
 ·rintro rfl
  simp only [In] at hb
  omega
 ·intro b hb hbl
  simp only [In, size_setRow] at hb hbl ⊢
  rcases hb with h | h
  ·exact .inl h.1
  ·exact .inr (by omega)
 ·exact (Mod.AW (Mod.of hE S) h5 fun b hb h => h.1).AL (.inl hg) _
theorem PZ {M : Nat} {kind at' num key : Int} {text : ByteArray} {gone : Bool} {S : Nat → Prop} {cs : List Value} {st : WorldD} {w : World} (hf : BF M st) (hM : M ≤ 900000) (htx : text.size ≤ 1000) (ho : O tW S w cs st) :
  Ae (EV P 114 #[.agg cs.toArray, .agg #[i64 kind, i64 at', i64 num, i64 key, .string text, .bool gone]] w) (Step M S w cs) := by
 have ho0 := ho
 have ho := ho.lt
 obtain ⟨pa, pn, pc, sa, sn, sc, na, nn, nc, ha, hn, hc, rfl⟩ := ho.BX
 have hsn : sn = st.Ar.length := by
  obtain ⟨_, _, _, _, _, _, _, _, e, _⟩ := D.world.1 ho.d
  simp only [List.cons.injEq, Value.slice.injEq] at e
  exact e.2.1.2.1
 subst hsn
 have ok : ∀ (w' : World), Ext w w' → Step M S w [.slice pa pn pc, .slice sa st.Ar.length sc, .slice na nn nc, .slice ha hn hc] (.tuple #[.agg #[.slice pa pn pc, .slice sa st.Ar.length sc, .slice na nn nc, .slice ha hn hc], .bool false], w') :=
  fun w' hE => Step.fail hf ho0 hE
 have sl4 := hf.2.2.1
 have hw1 : IntKind.i64.wrap ((st.Ar.length : Int) - 1) = (st.Ar.length : Int) - 1 := Kv (by omega) (by omega)
 refine Ae.post fun Q hQ => ?_
 refine Ae.enter plain mixed (Jq _ _ _) (by kernel_rfl) (n := 2) (by kernel_rfl) rfl ?_
 simp (disch := first | exact xD | fail) [-Option.bind_some, qs, -Aa, -Ab, hw1]
 refine Ae.bind (AD _ _ _ _) ?_
 rintro _ rfl
 cases hat : (decide (0 ≤ at') && decide (at' ≤ (st.Ar.length : Int) - 1))
 ·simp (disch := first | exact xD | fail) [-Option.bind_some, qs, -Aa, -Ab, qm]
  exact hQ _ (ok _ xE)
 have hat' := hat
 simp only [Bool.and_eq_true, decide_eq_true_eq] at hat'
 obtain ⟨i, rfl⟩ := Int.eq_ofNat_of_zero_le hat'.1
 have hi : i < st.Ar.length := by omega
 obtain ⟨s, hs, _⟩ := Ak hi
 obtain ⟨hs0, hs2, hsp, hsk0, hsk3⟩ := hf.2.2.2.1 s (List.mem_of_getElem? hs)
 cases hk1 : (kind == 1)
 case true =>
  simp (disch := first | exact xD | fail) [-Option.bind_some, qs, -Aa, -Ab, hk1]
  refine Ae.bind (Q3 hf hM hi htx (ho.ext xE)) ?_
  rintro ⟨_, w3⟩ h3
  obtain ⟨u1, n1, c1, u2, n2, c2, u3, n3, c3, u4, n4, c4, q, rfl, hg, hS⟩ := h3.out (g := w.heap.size + 1 + 1) xE (by omega) xB
  have hg' := hg.trans (by first | assumption | rfl | (simp (disch := first | exact xD | fail) [-Option.bind_some, qs, -Aa, -Ab, qm, hg]; done))
  simp (disch := first | exact xD | fail) [-Option.bind_some, qs, -Aa, -Ab, qm, hg']
  exact hQ _ hS
 cases hk2 : (kind == 2)
 case true =>
  simp (disch := first | exact xD | fail) [-Option.bind_some, qs, -Aa, -Ab, hk1, hk2]
  refine Ae.bind (Ts hf hM hi (ho.ext xE)) ?_
  rintro ⟨_, w3⟩ h3
  obtain ⟨u1, n1, c1, u2, n2, c2, u3, n3, c3, u4, n4, c4, q, rfl, hg, hS⟩ := h3.out (g := w.heap.size + 1 + 1) xE (by omega) xB
  have hg' := hg.trans (by first | assumption | rfl | (simp (disch := first | exact xD | fail) [-Option.bind_some, qs, -Aa, -Ab, qm, hg]; done))
  simp (disch := first | exact xD | fail) [-Option.bind_some, qs, -Aa, -Ab, qm, hg']
  exact hQ _ hS
 cases hk3 : (kind == 3)
 case true =>
  simp (disch := first | exact xD | fail) [-Option.bind_some, qs, -Aa, -Ab, hk1, hk2, hk3]
  refine Ae.bind (SD hf hM hi (ho.ext xE)) ?_
  rintro ⟨_, w3⟩ h3
  obtain ⟨u1, n1, c1, u2, n2, c2, u3, n3, c3, u4, n4, c4, q, rfl, hg, hS⟩ := h3.out (g := w.heap.size + 1 + 1) xE (by omega) xB
  have hg' := hg.trans (by first | assumption | rfl | (simp (disch := first | exact xD | fail) [-Option.bind_some, qs, -Aa, -Ab, qm, hg]; done))
  simp (disch := first | exact xD | fail) [-Option.bind_some, qs, -Aa, -Ab, qm, hg']
  exact hQ _ hS
 cases hk4 : (kind == 4)
 case true =>
  simp (disch := first | exact xD | fail) [-Option.bind_some, qs, -Aa, -Ab, hk1, hk2, hk3, hk4]
  refine Ae.bind (Tv hf hM hi (ho.ext xE)) ?_
  rintro ⟨_, w3⟩ h3
  obtain ⟨u1, n1, c1, u2, n2, c2, u3, n3, c3, u4, n4, c4, q, rfl, hg, hS⟩ := h3.out (g := w.heap.size + 1 + 1) xE (by omega) xB
  have hg' := hg.trans (by first | assumption | rfl | (simp (disch := first | exact xD | fail) [-Option.bind_some, qs, -Aa, -Ab, qm, hg]; done))
  simp (disch := first | exact xD | fail) [-Option.bind_some, qs, -Aa, -Ab, qm, hg']
  exact hQ _ hS
 obtain ⟨a', c', c1', a2', c2', a3', c3', gs, curs, ap, cp, Ss, hcs, hSgs, hgsl, hgs, hles, os, hSs, puts⟩ := O.Eu ho hs
 simp only [List.cons.injEq, Value.slice.injEq, and_true, true_and] at hcs
 obtain ⟨⟨rfl, rfl, rfl⟩, ⟨rfl, rfl⟩, ⟨rfl, rfl, rfl⟩, rfl, rfl, rfl⟩ := hcs
 by_cases hwt : 0 < s.wait.t
 ·simp (disch := first | exact xD | fail) [-Option.bind_some, qs, -Aa, -Ab, qm, hk1, hk2, hk3, hk4, hgs, DD, hwt]
  exact hQ _ (ok _ xE)
 ·simp (disch := first | exact xD | fail) [-Option.bind_some, qs, -Aa, -Ab, qm, hk1, hk2, hk3, hk4, hgs, DD, hwt]
  refine Ae.bind (AD _ _ _ _) ?_
  rintro _ rfl
  cases hnm : (decide (0 ≤ num) && decide (num ≤ 2))
  ·simp (disch := first | exact xD | fail) [-Option.bind_some, qs, -Aa, -Ab, qm]
   exact hQ _ (ok _ xE)
  ·have hnm' := hnm
   simp only [Bool.and_eq_true, decide_eq_true_eq] at hnm'
   simp (disch := first | exact xD | fail) [-Option.bind_some, qs, -Aa, -Ab, qm, hgs, DD]
   generalize hW1 : World.setRow _ gs _ = W1
   have sW1 : W1.heap.size = w.heap.size + 1 + 1 + 1 := by rw [← hW1]; simp
   have kW1 : ∀ b, b ≠ gs → b < w.heap.size → hp W1 b = hp w b := fun b h1 h2 => by
    rw [← hW1]
    simp (disch := (first | omega | (simp only [World.size_alloc, size_setRow]; omega))) only [Ac, Ag]
   have G1 : hp W1 gs = some (.cells (Bh curs (i * 5) [i64 num, .slice ap s.past.length cp, i64 s.wait.t, i64 s.wait.p, i64 s.key]).toArray 129 (0, 0)) := by
    rw [← hW1]
    exact (by first | assumption | rfl | (simp (disch := first | exact xD | fail) [-Option.bind_some, qs, -Aa, -Ab, hgs]; done))
   have MW1 : Mod S w W1 := by
    rw [← hW1]
    exact Mod.AL xM (.inr hSgs.1) _
   have oW1 := (puts W1 _ ⟨num, s.past, s.wait, s.key⟩ Ss (O.Ar.2 ⟨ap, cp, rfl, os.Aj fun b hb hbl => kW1 b (hSs b hb).2.1 hbl⟩) G1 (fun b hb _ hne' _ => kW1 b hne' hb) (fun b _ h => .inl h)).wide (S' := fun b => S b ∧ b < w.heap.size) (fun b h _ => by rcases h with h | h; exact h; exact (hSs b h).1)
   refine hQ _ ⟨_, _, true, rfl, by simp, ((hf.Ar (i := i) (s := ⟨num, s.past, s.wait, s.key⟩) ⟨hnm'.1, hnm'.2, hsp, hsk0, hsk3⟩).up (by omega)), (oW1.Aj fun b hb hbl => Ac (by omega)).wide fun b h _ => .inl h.1, MW1.AL (.inl (by omega)) _⟩
end Go.Proofs.YtjhhommnkaemlaaGreat.X
