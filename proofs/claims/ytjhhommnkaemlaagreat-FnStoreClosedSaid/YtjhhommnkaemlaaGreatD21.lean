/- A part of the proof, without conditions. -/
import Derived.Test.YtjhhommnkaemlaaGreatEvL
import Derived.Test.YtjhhommnkaemlaaGreatEvR
import Derived.Test.YtjhhommnkaemlaaGreatEvT
import Derived.Test.YtjhhommnkaemlaaGreatS16
import Derived.Test.YtjhhommnkaemlaaGreatEvWp
import Derived.Test.YtjhhommnkaemlaaGreatH5
import Derived.Test.YtjhhommnkaemlaaGreatEvWo
set_option linter.unusedVariables false
set_option linter.unusedSimpArgs false
set_option linter.deprecated false
set_option maxRecDepth 100000
set_option maxHeartbeats 1000000
namespace Go.Proofs.YtjhhommnkaemlaaGreat.X
open Go Go.Ev Go.RowKit
theorem PC : Rd P 22 fun W cs ns => ∃ s, cs = [s] ∧ CZ W s ns := RJ Tryz.underlying22 (by kernel_rfl) (by kernel_rfl) Tryz.underlying5
abbrev tW : Lay WorldD := CJ 36 49 86 42 84 129 131 38
abbrev TU : Lay SessD := HN 36
def SQ (s : SessD) : Prop := 0 ≤ s.place ∧ s.place ≤ 2 ∧ s.past.length = 4 ∧ 0 ≤ s.key ∧ s.key ≤ 3
def SR (f : FrameD) : Prop := 0 ≤ f.src ∧ f.src ≤ 2 ∧ 0 ≤ f.dst ∧ f.dst ≤ 2 ∧ Nz f.Bv
def BG (M : Nat) (x : WorldD) : Prop := x.places.length = 3 ∧ (∀ p ∈ x.places, CV M p) ∧ x.Az.length ≤ 4 ∧ (∀ s ∈ x.Az, SQ s) ∧ x.net.length ≤ 12 ∧ (∀ f ∈ x.net, SR f) ∧ x.AF.length ≤ 80
theorem BG.up {M M' : Nat} {x : WorldD} (h : BG M x) (k : M ≤ M') : BG M' x := ⟨h.1, fun p hp' => (h.2.1 p hp').up k, h.2.2⟩
theorem BG.place {M M' : Nat} {x : WorldD} {i : Nat} {p : PlaceD} (h : BG M x) (k : M ≤ M') (hp' : CV M' p) : BG M' { x with places := x.places.set i p } := by
 refine ⟨by simpa using h.1, fun q hq => ?_, h.2.2⟩
 rcases List.mem_or_eq_of_mem_set hq with hq | rfl
 ·exact (h.2.1 q hq).up k
 ·exact hp'
theorem BG.Az {M : Nat} {x : WorldD} {i : Nat} {s : SessD} (h : BG M x) (hs : SQ s) : BG M { x with Az := x.Az.set i s } := by
 refine ⟨h.1, h.2.1, by simpa using h.2.2.1, fun q hq => ?_, h.2.2.2.2⟩
 rcases List.mem_or_eq_of_mem_set hq with hq | rfl
 ·exact h.2.2.2.1 q hq
 ·exact hs
theorem BG.AF {M : Nat} {x : WorldD} {d : Done} (h : BG M x) (hh : x.AF.length < 80) : BG M { x with AF := x.AF ++ [d] } :=
 ⟨h.1, h.2.1, h.2.2.1, h.2.2.2.1, h.2.2.2.2.1, h.2.2.2.2.2.1, by simp; omega⟩
def Step (M : Nat) (S : Nat → Prop) (w : World) (cs : List Value) (r : Value × World) : Prop := ∃ (cs' : List Value) (st' : WorldD) (ok : Bool), r.1 = .tuple #[.agg cs'.toArray, .bool ok] ∧ (ok = false → cs' = cs) ∧ BG (M + 16) st' ∧ O tW (fun b => S b ∨ In w.heap.size r.2.heap.size b) r.2 cs' st' ∧ Mod S w r.2
theorem Step.fail {M : Nat} {S : Nat → Prop} {w w' : World} {cs : List Value} {st : WorldD} (hf : BG M st) (ho : O tW S w cs st) (hE : Ext w w') : Step M S w cs (.tuple #[.agg cs.toArray, .bool false], w') :=
 ⟨cs, st, false, rfl, fun _ => rfl, hf.up (by omega), (ho.ext hE).wide fun b h _ => .inl h, Mod.of hE S⟩
theorem Lf {S : Nat → Prop} {cs : List Value} {st : WorldD} {d : Done} {w : World} (hh : st.AF.length ≤ 1000) (ho : O tW S w cs st) :
  Ag (EV P 136 #[.agg cs.toArray, i64 d.Az, i64 d.kind, i64 d.key, .agg #[i64 d.tag.t, i64 d.tag.p]] w) fun r => ∃ cs', r.1 = .agg cs'.toArray ∧ O tW (fun b => S b ∨ In w.heap.size r.2.heap.size b) r.2 cs' { st with AF := st.AF ++ [d] } ∧ Mod S w r.2 := by
 obtain ⟨a, c, a1, c1, a2, c2, a3, c3, S3, rfl, oh, hS3, put⟩ := O.RZ (ho.lt)
 refine Ag.post fun Q hQ => ?_
 refine Ag.enter plain mixed (GG _ _ _ _ _ _) (by kernel_rfl) (n := 5) (by kernel_rfl) rfl ?_
 simp (disch := first | exact xD | fail) [-Option.bind_some, qs, -Aa, -Ab]
 refine Ag.bind (O.app (L := I2) (mx := 3518437208883) (S1 := fun _ => False) (x := d) (cs := PB d) Q7 Rc rfl (by decide) (oh.ext xE) (O.done.2 rfl) (fun _ _ _ h => h) (At.nw (by simp)) (by omega) (by decide) (by decide)) ?_
 rintro ⟨_, w1⟩ ⟨a7, c7, rfl, o7, M7⟩
 have zM7 := M7.size
 try simp only [qz] at zM7
 try dsimp only at o7 M7
 have zM7 := M7.size
 simp only [World.size_alloc] at zM7 o7
 have n3 : ∀ b, w.heap.size ≤ b → ¬ S3 b := fun b h h' => by have := (hS3 b h').2; omega
 have Y1 : hp w1 w.heap.size = some (.cells #[.slice a st.places.length c, .slice a1 st.Az.length c1, .slice a2 st.net.length c2, .slice a3 st.AF.length c3] 77 (0, 0)) := (M7.Ah _ (by simp; omega) (n3 _ (by omega))).trans (by first | assumption | rfl | (simp (disch := first | exact xD | fail) [-Option.bind_some, qs, -Aa, -Ab]; done))
 have Y3 : hp w1 (w.heap.size + 1 + 1) = some (.cells #[.slice none 0 0, .slice none 0 0, .slice none 0 0, .slice none 0 0] 77 (0, 0)) := (M7.Ah _ (by simp) (n3 _ (by omega))).trans (by first | assumption | rfl | (simp (disch := first | exact xD | fail) [-Option.bind_some, qs, -Aa, -Ab]; done))
 simp (disch := first | exact xD | fail) [-Option.bind_some, qs, -Aa, -Ab, qm, Y1, Y3]
 have hle : (st.AF ++ [d]).length = st.AF.length + 1 := by simp
 refine hQ _ ⟨_, rfl, ?_, ?_⟩
 ·refine (put _ (.slice a7 (st.AF.length + 1) c7) (st.AF ++ [d]) (fun b => (S3 b ∨ In (w.heap.size + 1 + 1 + 1) w1.heap.size b)) ?_ ?_ ?_).wide ?_
  ·refine (o7.Ak fun b hb hbl => ?_).wide fun b hb _ => ?_
   ·have : b ≠ w.heap.size ∧ b ≠ w.heap.size + 1 + 1 := by
     rcases hb with h | h | h
     ·have := (hS3 b h).2; omega
     ·exact h.elim
     ·omega
    rw [Ad this.2, Ad this.1]
   ·rcases hb with h | h | h
    ·exact .inl h
    ·exact h.elim
    ·exact .inr ⟨by omega, h.2⟩
  ·intro b hb _ hn
   rw [Ad (by omega), Ad (by omega), M7.Ah b (by simp; omega) hn, Ae (by simp; omega), Ae (by simp; omega), Ae (by simp; omega), Ae (by omega)]
  ·intro b hb h
   rcases h with h | h
   ·exact .inl h
   ·exact .inr fun hh => by simp only [In] at h; omega
  ·intro b hb hbl
   simp only [size_setRow] at hbl
   simp only [In, size_setRow]
   rcases hb with h | h | h
   ·exact .inl h.1
   ·exact .inl (hS3 b h).1.1
   ·simp only [In] at h; exact .inr (by omega)
 ·have Mb : Mod S w w1 := Mod.A8 (Mod.of xE S) M7 fun b _ h => (hS3 b h).1.1
  exact (Mb.AE (.inl (Nat.le_refl _)) _).AE (.inl (by omega)) _
 -- STEPS
attribute [local irreducible] World.alloc World.setRow Go.Ev.dw
theorem PZ {M i : Nat} {kind num key : Int} {text : ByteArray} {gone : Bool} {S : Nat → Prop} {cs : List Value} {st : WorldD} {w : World} (hf : BG M st) (hM : M ≤ 900000) (hi : i < st.Az.length) (htx : text.size ≤ 1000) (ho : O tW S w cs st) :
  Ag (EV P 121 #[.agg cs.toArray, .agg #[i64 kind, i64 i, i64 num, i64 key, .string text, .bool gone]] w) (Step M S w cs) := by
 have ho := ho.lt
 have hf' := hf
 obtain ⟨pl3, hfp, sl4, hfs, nl, hfn, hl80⟩ := hf'
 obtain ⟨s, hs, _⟩ := Am hi
 obtain ⟨hs0, hs2, hsp, hsk0, hsk3⟩ := hfs s (List.mem_of_getElem? hs)
 obtain ⟨k, hk⟩ := Int.eq_ofNat_of_zero_le hs0
 have hk3 : k < st.places.length := by omega
 obtain ⟨p, hp', _⟩ := Am hk3
 have hpf := hfp p (List.mem_of_getElem? hp')
 obtain ⟨x, hx, _⟩ := Am (l := p.chain) (k := 0) (by have := hpf.1.1; omega)
 obtain ⟨c, a1, c1, a2, c2, a3, c3, gp, curp, dp, Sp, rfl, hSgp, hgpl, hgp, hlep, op, hSp, putp⟩ := O.F7 ho hp'
 obtain ⟨a', c', c1', a2', c2', a3', c3', gs, curs, ap, cp, Ss, hcs, hSgs, hgsl, hgs, hles, os, hSs, _⟩ := O.EA ho hs
 simp only [List.cons.injEq, Value.slice.injEq, and_true, true_and] at hcs
 obtain ⟨⟨rfl, rfl⟩, ⟨rfl, rfl⟩, ⟨rfl, rfl⟩, rfl, rfl⟩ := hcs
 have op' := op.d
 obtain ⟨ac, cc, al, cl, ag, cg, rfl, _, _, _⟩ := D.place.1 op'
 rw [hsp, hk] at hgs
 have As := DF hgs (by simpa using hles)
 have Ap := DF hgp (by simpa using hlep)
 have t0 := As 0 _ rfl
 have t1 := As 1 _ rfl
 have t2 := As 2 _ rfl
 have t3 := As 3 _ rfl
 have t4 := As 4 _ rfl
 simp only [Nat.add_zero] at t0 t1 t2 t3 t4
 have m0 := Ap 0 _ rfl
 have m1 := Ap 1 _ rfl
 have m2 := Ap 2 _ rfl
 have m3 := Ap 3 _ rfl
 have m4 := Ap 4 _ rfl
 have m5 := Ap 5 _ rfl
 simp only [Nat.add_zero] at m0 m1 m2 m3 m4 m5
 have ok : ∀ (w' : World), Ext w w' → Step M S w [.slice (some ⟨gp, 0, none⟩) st.places.length c, .slice (some ⟨gs, 0, none⟩) st.Az.length c1, .slice a2 st.net.length c2, .slice a3 st.AF.length c3] (.tuple #[.agg #[.slice (some ⟨gp, 0, none⟩) st.places.length c, .slice (some ⟨gs, 0, none⟩) st.Az.length c1, .slice a2 st.net.length c2, .slice a3 st.AF.length c3], .bool false], w') :=
  fun w' hE => Step.fail hf (ho.wide fun b h _ => h.1) hE
 refine Ag.post fun Q hQ => ?_
 refine Ag.enter plain mixed (Ks _ _ _) (by kernel_rfl) (n := 2) (by kernel_rfl) rfl ?_
 by_cases hwt : 0 < s.wait.t
 ·simp (maxSteps := 1000000) (disch := first | exact xD | fail) [-Option.bind_some, qs, -Aa, -Ab, qm, DM, CF, hwt, t0, t1, t2, t3, t4, m0, m1, m2, m3, m4, m5]
  exact hQ _ (ok _ xE)
 simp (maxSteps := 1000000) (disch := first | exact xD | fail) [-Option.bind_some, qs, -Aa, -Ab, qm, DM, CF, hwt, t0, t1, t2, t3, t4, m0, m1, m2, m3, m4, m5]
 refine Ag.bind (AK _ _ _ _) ?_
 rintro _ rfl
 cases hky : (decide (0 ≤ key) && decide (key ≤ 3))
 ·simp (maxSteps := 1000000) (disch := first | exact xD | fail) [-Option.bind_some, qs, -Aa, -Ab, qm]
  exact hQ _ (ok _ xE)
 simp (maxSteps := 1000000) (disch := first | exact xD | fail) [-Option.bind_some, qs, -Aa, -Ab]
 refine Ag.bind (Gv (by omega) _) ?_
 rintro _ rfl
 cases hto : J9 text
 ·simp (maxSteps := 1000000) (disch := first | exact xD | fail) [-Option.bind_some, qs, -Aa, -Ab, qm]
  exact hQ _ (ok _ xE)
 simp (maxSteps := 1000000) (disch := first | exact xD | fail) [-Option.bind_some, qs, -Aa, -Ab]
 have osd : D Bj Ss w [.slice ap 4 cp] s.past := by rw [← hsp]; exact os.d
 simp only [Bool.and_eq_true, decide_eq_true_eq] at hky
 have hgc : (gone = false ∧ True) ∨ (gone = true ∧ text.toList.isEmpty = true) ∨ (gone = true ∧ text.toList.isEmpty = false) := by
  cases gone <;> cases text.toList.isEmpty <;> simp
 rcases hgc with ⟨hgn, ht⟩ | ⟨hgn, ht⟩ | ⟨hgn, ht⟩
 rotate_left 2
 ·simp (maxSteps := 1000000) (disch := first | exact xD | fail) [-Option.bind_some, qs, -Aa, -Ab, qm, hgn, ht]
  exact hQ _ (ok _ xE)
 all_goals
  simp (maxSteps := 1000000) (disch := first | exact xD | fail) [-Option.bind_some, qs, -Aa, -Ab, hgn, ht]
  refine Ag.bind (R7 hpf hx (op.d.ext xE) hsp (osd.ext xE)) ?_
  rintro ⟨_, w1⟩ ⟨q, rfl, hq, E1⟩
  try dsimp only at q hq E1
  have zE1 := E1.size
  try simp only [qz] at zE1
  cases q
  ·simp (maxSteps := 1000000) (disch := first | exact xD | fail) [-Option.bind_some, qs, -Aa, -Ab, qm, E1.Ah]
   exact hQ _ (ok _ xE)
  by_cases h80 : st.AF.length < 80
  ·have F1 : Ext w w1 := xE
   have zF1 := F1.size
   have B0 : hp w1 w.heap.size = some (.cells #[.slice (some ⟨gp, 0, none⟩) st.places.length c, .slice (some ⟨gs, 0, none⟩) st.Az.length c1, .slice a2 st.net.length c2, .slice a3 st.AF.length c3] 77 (0, 0)) := (E1.Ah xB).trans (by first | assumption | rfl | (simp (maxSteps := 1000000) (disch := first | exact xD | fail) [-Option.bind_some, qs, -Aa, -Ab]; done))
   have B1 : hp w1 (w.heap.size + 1) = some (.cells #[i64 kind, i64 i, i64 num, i64 key, .string text, .bool gone] 137 (0, 0)) := (E1.Ah xB).trans (by first | assumption | rfl | (simp (maxSteps := 1000000) (disch := first | exact xD | fail) [-Option.bind_some, qs, -Aa, -Ab, hgn]; done))
   have B2 : hp w1 (w.heap.size + 1 + 1) = some (.cells #[.slice none 0 0, .slice none 0 0, .slice none 0 0, .slice none 0 0] 77 (0, 0)) := (E1.Ah xB).trans (by first | assumption | rfl | (simp (maxSteps := 1000000) (disch := first | exact xD | fail) [-Option.bind_some, qs, -Aa, -Ab]; done))
   have B3 : hp w1 (w.heap.size + 1 + 1 + 1) = some (.cells #[i64 k, .slice ap 4 cp, i64 s.wait.t, i64 s.wait.p, i64 s.key] 129 (0, 0)) := (E1.Ah xB).trans (by first | assumption | rfl | (simp (maxSteps := 1000000) (disch := first | exact xD | fail) [-Option.bind_some, qs, -Aa, -Ab]; done))
   have B4 : hp w1 (w.heap.size + 1 + 1 + 1 + 1) = some (.cells #[i64 p.me, i64 p.clock, .slice ac p.chain.length cc, .slice al p.log.length cl, .slice ag p.Bs.length cg, .bool p.fell] 84 (0, 0)) := (E1.Ah xB).trans (by first | assumption | rfl | (simp (maxSteps := 1000000) (disch := first | exact xD | fail) [-Option.bind_some, qs, -Aa, -Ab]; done))
   have nSp : ∀ b, w.heap.size ≤ b → ¬ Sp b := fun b h h' => by have := (hSp b h').2.2; omega
   simp (maxSteps := 1000000) (disch := first | exact xD | fail) [-Option.bind_some, -Aa, -Ab, show ¬ (80 : Int) ≤ st.AF.length by omega, B0, B1, B3, B4]
   refine Ag.bind (Qd (M := M) hpf (by omega) hx (hq rfl) hky.1 hky.2 (by omega) hsp (op.ext F1) (osd.ext F1)) ?_
   rintro ⟨_, w2⟩ ⟨csx, p2, t, rfl, f2, o2, M2⟩
   try dsimp only at csx p2 t f2 o2 M2
   have zM2 := M2.size
   try simp only [qz] at zM2
   have K2 : ∀ b, b < w1.heap.size → ¬ Sp b → hp w2 b = hp w1 b := fun b hb h => M2.Ah b hb h
   have C0 := (K2 w.heap.size (by omega) (nSp _ (by omega))).trans B0
   have C1 := (K2 (w.heap.size + 1) (by omega) (nSp _ (by omega))).trans B1
   have C2 := (K2 (w.heap.size + 1 + 1) (by omega) (nSp _ (by omega))).trans B2
   have C3 := (K2 (w.heap.size + 1 + 1 + 1) (by omega) (nSp _ (by omega))).trans B3
   have G2 := (K2 gp (by omega) (fun h => (hSp gp h).2.1 rfl)).trans ((F1.Ah hgpl).trans hgp)
   have o2' := o2.d
   obtain ⟨ad, cd, ae, ce, af, cf, rfl, _, _, _⟩ := D.place.1 o2'
   simp (maxSteps := 1000000) (disch := first | exact xD | fail) [-Option.bind_some, qs, -Aa, -Ab, qm, C0, C1, C3, G2, CF, DM]
   generalize hW1 : World.setRow _ gp _ = W1
   have sW1 : W1.heap.size = w2.heap.size + 1 + 1 := by rw [← hW1]; simp
   have kW1 : ∀ b, b ≠ gp → b < w2.heap.size → hp W1 b = hp w2 b := fun b h1 h2 => by
    rw [← hW1]
    simp (disch := (first | omega | (simp only [World.size_alloc, size_setRow]; omega))) only [Ad, Ae]
   have G3 : hp W1 gp = some (.cells (Ba curp (k * 6) [i64 p2.me, i64 p2.clock, .slice ad p2.chain.length cd, .slice ae p2.log.length ce, .slice af p2.Bs.length cf, .bool p2.fell]).toArray 84 (0, 0)) := by
    rw [← hW1]
    exact (by first | assumption | rfl | (simp (maxSteps := 1000000) (disch := first | exact xD | fail) [-Option.bind_some, qs, -Aa, -Ab, G2]; done))
   have T5 : hp W1 (w2.heap.size + 1) = some (.cells #[i64 t.t, i64 t.p] 36 (0, 0)) := by
    rw [← hW1]
    exact (by first | assumption | rfl | (simp (maxSteps := 1000000) (disch := first | exact xD | fail) [-Option.bind_some, qs, -Aa, -Ab]; done))
   have MW1 : Mod S w W1 := by
    rw [← hW1]
    exact (((((Mod.A8 (Mod.of F1 S) M2 (fun b hb h => (hSp b h).1.1)).al _).al _).AE (.inl (by omega)) _).AE (.inl (by omega)) _).AE (.inr hSgp.1) _
   have oW1 := (putp W1 _ p2 (fun b => Sp b ∨ In w1.heap.size w2.heap.size b) (o2.Ak fun b hb hbl => kW1 b (by rcases hb with h | h; exact (hSp b h).2.1; simp only [In] at h; omega) hbl) G3 (fun b hb _ hne hn => (kW1 b hne (by omega)).trans ((K2 b (by omega) hn).trans (F1.Ah hb))) (fun b _ h => by rcases h with h | h; exact .inl h; exact .inr (fun hh => by simp only [In] at h; omega))).wide (S' := fun b => (S b ∧ b < w.heap.size) ∨ In w1.heap.size w2.heap.size b) (fun b h _ => by rcases h with h | h | h; exact .inl h; exact .inl (hSp b h).1; exact .inr h)
   obtain ⟨a'', c'', c1'', a2'', c2'', a3'', c3'', gs', curs', ap', cp', Ss', hcs', hSgs', hgsl', hgs', hles', os', hSs', puts⟩ := O.EA oW1 (i := i) (s := s) hs
   simp only [List.cons.injEq, Value.slice.injEq, Option.some.injEq, Addr.mk.injEq, List.length_set, and_true, true_and] at hcs'
   obtain ⟨⟨rfl, rfl⟩, ⟨rfl, rfl⟩, ⟨rfl, rfl⟩, rfl, rfl⟩ := hcs'
   rw [hsp, hk] at hgs'
   have hne : gs ≠ gp := by
    rintro rfl
    rw [G3] at hgs'
    simp at hgs'
   have D0 := (kW1 w.heap.size (by omega) (by omega)).trans C0
   have D1 := (kW1 (w.heap.size + 1) (by omega) (by omega)).trans C1
   have D2 := (kW1 (w.heap.size + 1 + 1) (by omega) (by omega)).trans C2
   simp (maxSteps := 1000000) (disch := first | exact xD | fail) [-Option.bind_some, qs, -Aa, -Ab, qm, hgs', D0, D1, T5, DM]
   generalize hW2 : World.setRow _ gs _ = W2
   have sW2 : W2.heap.size = W1.heap.size := by rw [← hW2]; simp
   have kW2 : ∀ b, b ≠ gs → hp W2 b = hp W1 b := fun b h1 => by
    rw [← hW2]
    simp (disch := omega) only [Ad]
   have MW2 : Mod S w W2 := by
    rw [← hW2]
    first | exact MW1.AE (.inr hSgs.1) _ | exact (MW1.AE (.inr hSgs.1) _).AE (.inr hSgs.1) _
   have H3 : hp W2 gs = some (.cells (Ba curs' (i * 5) [i64 k, .slice ap' 4 cp', i64 t.t, i64 t.p, i64 key]).toArray 129 (0, 0)) := by
    rw [← hW2]
    exact (by first | assumption | rfl | (simp (maxSteps := 1000000) (disch := first | exact xD | fail) [-Option.bind_some, -Aa, -Ab, hgs']; done))
   have oW2 := (puts W2 _ ⟨s.place, s.past, t, key⟩ Ss' (O.Az.2 ⟨ap', cp', (by rw [hk, hsp]), os'.Ak fun b hb hbl => kW2 b (hSs' b hb).2.1⟩) H3 (fun b hb _ hne' _ => kW2 b hne') (fun b _ h => .inl h)).wide (S' := fun b => (S b ∧ b < w.heap.size) ∨ In w1.heap.size w2.heap.size b) (fun b h _ => by rcases h with h | h; exact h; exact (hSs' b h).1)
   have L0 := (kW2 w.heap.size (by omega)).trans D0
   have L1 := (kW2 (w.heap.size + 1) (by omega)).trans D1
   have L2 := (kW2 (w.heap.size + 1 + 1) (by omega)).trans D2
   refine Ag.bind (Lf (d := ⟨i, 1, key, t⟩) (by show st.AF.length ≤ 1000; omega) oW2) ?_
   rintro ⟨_, w3⟩ ⟨cs3, rfl, o3, M3⟩
   have zM3 := M3.size
   try simp only [] at zM3
   try dsimp only at o3 M3
   have zM3 := M3.size
   obtain ⟨u1, l1, d1, u2, l2, d2, u3, l3, d3, u4, l4, d4, rfl⟩ := o3.B6
   have J2 := (M3.Ah (w.heap.size + 1 + 1) (by omega) (fun h => by simp only [In] at h; omega)).trans L2
   simp (maxSteps := 1000000) (disch := first | exact xD | fail) [-Option.bind_some, -Aa, -Ab, qm, J2]
   refine hQ _ ⟨_, _, true, rfl, by simp, ((((hf.place (i := k) (M' := M + 4) (by omega) f2).Az (i := i) (s := ⟨s.place, s.past, t, key⟩) ⟨hs0, hs2, hsp, hky.1, hky.2⟩).AF (d := ⟨i, 1, key, t⟩) h80).up (by omega)), (o3.Ak fun b hb hbl => Ad ?_).wide ?_, ?_⟩
   ·rintro rfl
    simp only [In] at hb
    omega
   ·intro b hb hbl
    simp only [In, size_setRow] at hb hbl ⊢
    rcases hb with (h | h) | h
    ·exact .inl h.1
    ·exact .inr (by omega)
    ·exact .inr (by omega)
   ·exact (Mod.A8 MW2 M3 fun b hb h => by rcases h with h | h; exact h.1; simp only [In] at h; omega).AE (.inl (by omega)) _
  ·simp (maxSteps := 1000000) (disch := first | exact xD | fail) [-Option.bind_some, qs, -Aa, -Ab, qm, show (80 : Int) ≤ st.AF.length by omega, E1.Ah]
   exact hQ _ (ok _ xE)
end Go.Proofs.YtjhhommnkaemlaaGreat.X
namespace Go.Proofs.YtjhhommnkaemlaaGreat.X
open Go Go.Ev Go.RowKit
 -- STEPS
attribute [local irreducible] World.alloc World.setRow Go.Ev.dw
theorem Lg {a : Option Addr} {c : Nat} {S : Nat → Prop} {xs : List Tag} {t : Tag} {k : Nat} {w : World} (h4 : xs.length = 4) (hk : k < 4) (ha : D Bj S w [.slice a 4 c] xs) :
  Ag (EV P 66 #[.agg #[.slice a 4 c], i64 k, .agg #[i64 t.t, i64 t.p]] w) fun r => ∃ a2 c2, r.1 = .agg #[.slice a2 4 c2] ∧ O Bj (In w.heap.size r.2.heap.size) r.2 [.slice a2 4 c2] (C6 xs k t) ∧ Ext w r.2 := by
 have := MD (k := k) (t := t) (xs := xs) (by omega) (by rw [h4]; exact ha)
 rwa [FZ, h4] at this
theorem PD {M M' i : Nat} {kind num key : Int} {text : ByteArray} {gone : Bool} {S T : Nat → Prop} {cs0 cs1 : List Value} {st1 : WorldD} {s : SessD} {e : Env} {w W : World} (hf : BG M' st1) (hM' : M' ≤ M + 16) (hs : st1.Az[i]? = some s)
  (ho : O tW T W cs1 st1) (hT : ∀ b, T b → (S b ∧ b < w.heap.size) ∨ w.heap.size + 3 ≤ b) (hMod : Mod S w W)
  (e2 : e 2 = pt w.heap.size 0) (e3 : e 3 = pt (w.heap.size + 1) 0) (e4 : e 4 = pt (w.heap.size + 1 + 1) 0)
  (X2 : hp W w.heap.size = some (.cells cs1.toArray 77 (0, 0))) (X3 : hp W (w.heap.size + 1) = some (.cells #[i64 kind, i64 i, i64 num, i64 key, .string text, .bool gone] 137 (0, 0)))
  (X4 : hp W (w.heap.size + 1 + 1) = some (.cells #[.slice none 0 0, .slice none 0 0, .slice none 0 0, .slice none 0 0] 77 (0, 0))) :
  Ag (DS e W) (Step M S w cs0) := by
 have y4 := Aq X4
 obtain ⟨a, c, c1, a2, c2, a3, c3, gs, cur, ap, cp, Ss, rfl, hTg, hgl, hgs, hle, os, hSs, puts⟩ := O.EA ho hs
 have hi : i < st1.Az.length := (List.getElem?_eq_some_iff.1 hs).1
 have hg9 := hT gs hTg
 obtain ⟨hs0, hs2, hsp, hsk0, hsk3⟩ := hf.2.2.2.1 s (List.mem_of_getElem? hs)
 rw [Ju]
 refine Ag.post fun Q hQ => ?_
 simp (maxSteps := 1000000) (disch := first | exact xD | fail) [-Option.bind_some, qs, -Aa, -Ab, qm, e2, e3, e4, X2, X3, X4, hgs, DM]
 generalize hW1 : World.setRow _ gs _ = W1
 have sW1 : W1.heap.size = W.heap.size := by rw [← hW1]; simp
 have kW1 : ∀ b, b ≠ gs → hp W1 b = hp W b := fun b h1 => by
  rw [← hW1]
  simp (disch := omega) only [Ad]
 have G1 : hp W1 gs = some (.cells (Ba cur (i * 5) [i64 s.place, .slice ap s.past.length cp, i64 0, i64 0, i64 0]).toArray 129 (0, 0)) := by
  rw [← hW1]
  exact (by first | assumption | rfl | (simp (maxSteps := 1000000) (disch := first | exact xD | fail) [-Option.bind_some, -Aa, -Ab, hgs]; done))
 have hgS : w.heap.size ≤ gs ∨ S gs := by rcases hg9 with h | h; exact .inr h.1; exact .inl (by omega)
 have MW1 : Mod S w W1 := by
  rw [← hW1]
  first | exact hMod.AE hgS _ | exact (hMod.AE hgS _).AE hgS _
 have oW1 := (puts W1 _ ⟨s.place, s.past, ⟨0, 0⟩, 0⟩ Ss (O.Az.2 ⟨ap, cp, rfl, os.Ak fun b hb hbl => kW1 b (hSs b hb).2.1⟩) G1 (fun b hb _ hne' _ => kW1 b hne') (fun b _ h => .inl h)).wide (S' := T) (fun b h _ => by rcases h with h | h; exact h; exact (hSs b h).1)
 refine hQ _ ⟨_, _, true, rfl, by simp, ((hf.Az (i := i) (s := ⟨s.place, s.past, ⟨0, 0⟩, 0⟩) ⟨hs0, hs2, hsp, Int.le_refl 0, by show (0 : Int) ≤ 3; decide⟩).up hM'), (oW1.Ak fun b hb hbl => Ad ?_).wide ?_, MW1.AE (.inl (by omega)) _⟩
 ·rintro rfl
  have := hT _ hb
  omega
 ·intro b hb hbl
  simp only [In, size_setRow] at hbl ⊢
  rcases hT b hb with h | h
  ·exact .inl h.1
  ·exact .inr (by omega)
theorem RN {M i : Nat} {kind num key : Int} {text : ByteArray} {gone : Bool} {S : Nat → Prop} {cs : List Value} {st : WorldD} {w : World} (hf : BG M st) (hM : M ≤ 900000) (hi : i < st.Az.length) (ho : O tW S w cs st) :
  Ag (EV P 122 #[.agg cs.toArray, .agg #[i64 kind, i64 i, i64 num, i64 key, .string text, .bool gone]] w) (Step M S w cs) := by
 have ho := ho.lt
 have hf' := hf
 obtain ⟨pl3, hfp, sl4, hfs, nl, hfn, hl80⟩ := hf'
 obtain ⟨s, hs, _⟩ := Am hi
 obtain ⟨hs0, hs2, hsp, hsk0, hsk3⟩ := hfs s (List.mem_of_getElem? hs)
 obtain ⟨k, hk⟩ := Int.eq_ofNat_of_zero_le hs0
 obtain ⟨ky, hky⟩ := Int.eq_ofNat_of_zero_le hsk0
 have hk3 : k < st.places.length := by omega
 have hky4 : ky < 4 := by omega
 obtain ⟨p, hp', _⟩ := Am hk3
 have hpf := hfp p (List.mem_of_getElem? hp')
 obtain ⟨x, hx, _⟩ := Am (l := p.chain) (k := 0) (by have := hpf.1.1; omega)
 have hxn := hpf.1.2.2 x (List.mem_of_getElem? hx)
 obtain ⟨v, hv, _⟩ := Am (l := x.store) (k := ky) (by have := hxn.1; omega)
 obtain ⟨c, a1, c1, a2, c2, a3, c3, gp, curp, dp, Sp, rfl, hSgp, hgpl, hgp, hlep, op, hSp, _⟩ := O.F7 ho hp'
 obtain ⟨a', c', c1', a2', c2', a3', c3', gs, curs, ap, cp, Ss, hcs, hSgs, hgsl, hgs, hles, os, hSs, puts⟩ := O.EA ho hs
 simp only [List.cons.injEq, Value.slice.injEq, and_true, true_and] at hcs
 obtain ⟨⟨rfl, rfl⟩, ⟨rfl, rfl⟩, ⟨rfl, rfl⟩, rfl, rfl⟩ := hcs
 have op' := op.d
 obtain ⟨ac, cc, al, cl, ag, cg, rfl, q1, _, _⟩ := D.place.1 op'
 rw [hsp, hk, hky] at hgs
 have As := DF hgs (by simpa using hles)
 have Ap := DF hgp (by simpa using hlep)
 have t0 := As 0 _ rfl
 have t1 := As 1 _ rfl
 have t2 := As 2 _ rfl
 have t3 := As 3 _ rfl
 have t4 := As 4 _ rfl
 simp only [Nat.add_zero] at t0 t1 t2 t3 t4
 have m0 := Ap 0 _ rfl
 have m1 := Ap 1 _ rfl
 have m2 := Ap 2 _ rfl
 have m3 := Ap 3 _ rfl
 have m4 := Ap 4 _ rfl
 have m5 := Ap 5 _ rfl
 simp only [Nat.add_zero] at m0 m1 m2 m3 m4 m5
 obtain ⟨b1, o1, cs1, rfl, A1, D1, _, l1⟩ := q1.at (by decide) hx
 obtain ⟨a4, c4, a5, c5, rfl, h2, h3⟩ := D.node.1 D1
 have n0 := A1 0 _ rfl
 have n1 := A1 1 _ rfl
 simp only [AO, Nat.add_zero] at n0 n1
 obtain ⟨b2, o2, cs2, rfl, A2, D2, _, l2⟩ := h2.at (by decide) hv
 obtain ⟨av, cv, rfl, _, _⟩ := D.Bv.1 D2
 have j0 := A2 0 _ rfl
 have j1 := A2 1 _ rfl
 have j2 := A2 2 _ rfl
 have j3 := A2 3 _ rfl
 have j4 := A2 4 _ rfl
 have j5 := A2 5 _ rfl
 simp only [AX, Nat.add_zero] at j0 j1 j2 j3 j4 j5
 have osd : D Bj Ss w [.slice ap 4 cp] s.past := by rw [← hsp]; exact os.d
 have ok : ∀ (w' : World), Ext w w' → Step M S w [.slice (some ⟨gp, 0, none⟩) st.places.length c, .slice (some ⟨gs, 0, none⟩) st.Az.length c1, .slice a2 st.net.length c2, .slice a3 st.AF.length c3] (.tuple #[.agg #[.slice (some ⟨gp, 0, none⟩) st.places.length c, .slice (some ⟨gs, 0, none⟩) st.Az.length c1, .slice a2 st.net.length c2, .slice a3 st.AF.length c3], .bool false], w') :=
  fun w' hE => Step.fail hf (ho.wide fun b h _ => h.1) hE
 have x0 : 0 < p.chain.length := hpf.1.1
 have sl4' : ky < x.store.length := by have := hxn.1; omega
 refine Ag.post fun Q hQ => ?_
 refine Ag.enter plain mixed (Md _ _ _) (by kernel_rfl) (n := 2) (by kernel_rfl) rfl ?_
 cases hwt : (s.wait.t == 0)
 ·simp (maxSteps := 1000000) (disch := first | exact xD | fail) [-Option.bind_some, qs, -Aa, -Ab, qm, DM, CF, hwt, t0, t1, t2, t3, t4, m2]
  refine Ag.bind (MT (k := 0) (key := ky) hpf.1 x0 hky4 (q1.ext xE)) ?_
  rintro ⟨_, w1⟩ ⟨ds, u, huK, rfl, o3, E1⟩
  try dsimp only at ds u huK o3 E1
  have zE1 := E1.size
  try simp only [qz] at zE1
  have F1 : Ext w w1 := xE
  have zF1 := F1.size
  have zo3 := O.Bv.1 o3
  obtain ⟨au, cu, rfl, _, _⟩ := zo3
  have fvt : ∀ w', fv P 49 (.agg #[i64 u.key, i64 u.tag.t, i64 u.tag.p, .slice au u.past.length cu, .string u.text, .bool u.gone]) 1 w' = some (.agg #[i64 u.tag.t, i64 u.tag.p], w') := fun w' => Tf (P := P) (s := 49) (f := 1) (off := 1) (n := 2) (by kernel_rfl) [i64 u.key, i64 u.tag.t, i64 u.tag.p, .slice au u.past.length cu, .string u.text, .bool u.gone] w'
  have B0 : hp w1 w.heap.size = some (.cells #[.slice (some ⟨gp, 0, none⟩) st.places.length c, .slice (some ⟨gs, 0, none⟩) st.Az.length c1, .slice a2 st.net.length c2, .slice a3 st.AF.length c3] 77 (0, 0)) := (E1.Ah xB).trans (by first | assumption | rfl | (simp (maxSteps := 1000000) (disch := first | exact xD | fail) [-Option.bind_some, qs, -Aa, -Ab]; done))
  have B1 : hp w1 (w.heap.size + 1) = some (.cells #[i64 kind, i64 i, i64 num, i64 key, .string text, .bool gone] 137 (0, 0)) := (E1.Ah xB).trans (by first | assumption | rfl | (simp (maxSteps := 1000000) (disch := first | exact xD | fail) [-Option.bind_some, qs, -Aa, -Ab]; done))
  have B2 : hp w1 (w.heap.size + 1 + 1) = some (.cells #[.slice none 0 0, .slice none 0 0, .slice none 0 0, .slice none 0 0] 77 (0, 0)) := (E1.Ah xB).trans (by first | assumption | rfl | (simp (maxSteps := 1000000) (disch := first | exact xD | fail) [-Option.bind_some, qs, -Aa, -Ab]; done))
  have B3 : hp w1 (w.heap.size + 1 + 1 + 1) = some (.cells #[i64 k, .slice ap 4 cp, i64 s.wait.t, i64 s.wait.p, i64 ky] 129 (0, 0)) := (E1.Ah xB).trans (by first | assumption | rfl | (simp (maxSteps := 1000000) (disch := first | exact xD | fail) [-Option.bind_some, qs, -Aa, -Ab]; done))
  have B4 : hp w1 (w.heap.size + 1 + 1 + 1 + 1) = some (.cells #[.slice (some ⟨b1, o1, none⟩) p.chain.length cc] 81 (0, 0)) := (E1.Ah xB).trans (by first | assumption | rfl | (simp (maxSteps := 1000000) (disch := first | exact xD | fail) [-Option.bind_some, qs, -Aa, -Ab]; done))
  simp (maxSteps := 1000000) (disch := first | exact xD | fail) [-Option.bind_some, qs, -Aa, -Ab, qm, B3, B4, fvt, Cr, AW, n0, j1, j2, E1.Ah]
  refine Ag.bind (AN u.tag s.wait _) ?_
  rintro ⟨_, w2⟩ ⟨rfl, E2⟩
  try dsimp only at E2
  have zE2 := E2.size
  try simp only [qz] at zE2
  cases hb1 : AH u.tag s.wait
  ·simp (maxSteps := 1000000) (disch := first | exact xD | fail) [-Option.bind_some, qs, -Aa, -Ab, E1.Ah, E2.Ah]
   refine Ag.bind (AN u.tag s.wait _) ?_
   rintro ⟨_, w3⟩ ⟨rfl, E3⟩
   try dsimp only at E3
   have zE3 := E3.size
   try simp only [qz] at zE3
   by_cases h80 : st.AF.length < 80
   ·simp (maxSteps := 1000000) (disch := first | exact xD | fail) [-Option.bind_some, qs, -Aa, -Ab, hb1, show ¬ (80 : Int) ≤ st.AF.length by omega, E1.Ah, E2.Ah, E3.Ah]
    refine Ag.bind (AN u.tag s.wait _) ?_
    rintro ⟨_, w4⟩ ⟨rfl, E4⟩
    try dsimp only at E4
    have zE4 := E4.size
    try simp only [qz] at zE4
    simp (maxSteps := 1000000) (disch := first | exact xD | fail) [-Option.bind_some, qs, -Aa, -Ab, hb1, E1.Ah, E2.Ah, E3.Ah, E4.Ah]
    refine Ag.bind (Lg (xs := s.past) (t := s.wait) (k := ky) hsp hky4 (osd.ext xE)) ?_
    rintro ⟨_, w5⟩ ⟨a7, c7, rfl, o7, E5⟩
    try dsimp only at a7 c7 o7 E5
    have zE5 := E5.size
    try simp only [qz] at zE5
    have F5 : Ext w w5 := xE
    have zF5 := F5.size
    have C0 : hp w5 w.heap.size = hp w1 w.heap.size := (by first | assumption | rfl | (simp (maxSteps := 1000000) (disch := first | exact xD | fail) [-Option.bind_some, qs, -Aa, -Ab, E1.Ah, E2.Ah, E3.Ah, E4.Ah, E5.Ah]; done))
    have C1 : hp w5 (w.heap.size + 1) = hp w1 (w.heap.size + 1) := (by first | assumption | rfl | (simp (maxSteps := 1000000) (disch := first | exact xD | fail) [-Option.bind_some, qs, -Aa, -Ab, E1.Ah, E2.Ah, E3.Ah, E4.Ah, E5.Ah]; done))
    have C2 : hp w5 (w.heap.size + 1 + 1) = hp w1 (w.heap.size + 1 + 1) := (by first | assumption | rfl | (simp (maxSteps := 1000000) (disch := first | exact xD | fail) [-Option.bind_some, qs, -Aa, -Ab, E1.Ah, E2.Ah, E3.Ah, E4.Ah, E5.Ah]; done))
    have G5 := (F5.Ah hgsl).trans hgs
    simp (maxSteps := 1000000) (disch := first | exact xD | fail) [-Option.bind_some, qs, -Aa, -Ab, qm, G5, DM, E1.Ah, E2.Ah, E3.Ah, E4.Ah, E5.Ah]
    generalize hW1 : World.setRow _ gs _ = W1
    have sW1 : W1.heap.size = w5.heap.size := by rw [← hW1]; simp
    have kW1 : ∀ b, b ≠ gs → hp W1 b = hp w5 b := fun b h1 => by
     rw [← hW1]
     simp (disch := omega) only [Ad]
    have G6 : hp W1 gs = some (.cells (Ba curs (i * 5) [i64 k, .slice a7 4 c7, i64 s.wait.t, i64 s.wait.p, i64 ky]).toArray 129 (0, 0)) := by
     rw [← hW1]
     exact (by first | assumption | rfl | (simp (maxSteps := 1000000) (disch := first | exact xD | fail) [-Option.bind_some, -Aa, -Ab, G5]; done))
    have MW1 : Mod S w W1 := by
     rw [← hW1]
     exact (Mod.of F5 S).AE (.inr hSgs.1) _
    have wl4 : (C6 s.past ky s.wait).length = 4 := by rw [FZ]; exact hsp
    have oW1 := (puts W1 _ ⟨s.place, C6 s.past ky s.wait, s.wait, s.key⟩ (In w4.heap.size w5.heap.size) (O.Az.2 ⟨a7, c7, (by rw [hk, hky, wl4]), (by rw [wl4]; exact (o7.Ak fun b hb hbl => kW1 b (by simp only [In, Ac] at hb; omega)).wide fun b hb _ => by simp only [In, Ac] at hb ⊢; omega)⟩) G6 (fun b hb _ hne' _ => (kW1 b hne').trans (F5.Ah hb)) (fun b _ h => .inr fun hh => by simp only [In] at h; omega)).wide (S' := fun b => (S b ∧ b < w.heap.size) ∨ w.heap.size + 5 ≤ b) (fun b h _ => by rcases h with h | h; exact .inl h; exact .inr (by simp only [In] at h; omega))
    have D0 := (kW1 w.heap.size (by omega)).trans (C0.trans B0)
    have D1 := (kW1 (w.heap.size + 1) (by omega)).trans (C1.trans B1)
    have D2 := (kW1 (w.heap.size + 1 + 1) (by omega)).trans (C2.trans B2)
    refine Ag.bind (Lf (d := ⟨i, 3, ky, s.wait⟩) (by show st.AF.length ≤ 1000; omega) oW1) ?_
    rintro ⟨_, w6⟩ ⟨cs3, rfl, o8, M6⟩
    have zM6 := M6.size
    try simp only [] at zM6
    try dsimp only at o8 M6
    have zM6 := M6.size
    obtain ⟨u1, l1, d1, u2, l2, d2, u3, l3, d3, u4, l4, d4, rfl⟩ := o8.B6
    have nT : ∀ b, w.heap.size ≤ b → b < w.heap.size + 5 → ¬ ((S b ∧ b < w.heap.size) ∨ w.heap.size + 5 ≤ b) := fun b h1 h2 h => by omega
    have L0 := (M6.Ah w.heap.size (by omega) (nT _ (by omega) (by omega))).trans D0
    have L1 := (M6.Ah (w.heap.size + 1) (by omega) (nT _ (by omega) (by omega))).trans D1
    have L2 := (M6.Ah (w.heap.size + 1 + 1) (by omega) (nT _ (by omega) (by omega))).trans D2
    simp (maxSteps := 1000000) (disch := first | exact xD | fail) [-Option.bind_some, -Aa, -Ab, qm, L0]
    have fA := ((hf.Az (i := i) (s := ⟨s.place, C6 s.past ky s.wait, s.wait, s.key⟩) ⟨hs0, hs2, wl4, hsk0, hsk3⟩).AF (d := ⟨i, 3, ky, s.wait⟩) h80)
    refine Ag.mono (PD (M := M) (M' := M) (w := w) (i := i) (T := fun b => (S b ∧ b < w.heap.size) ∨ w.heap.size + 5 ≤ b) (kind := kind) (num := num) (key := key) (text := text) (gone := gone) fA (by omega) (s := ⟨s.place, C6 s.past ky s.wait, s.wait, s.key⟩) (by rw [List.getElem?_set_self hi]) ((o8.Ak fun b hb hbl => Ad ?_).wide ?_) (fun b h => by rcases h with h | h; exact .inl h; exact .inr (by omega)) ?_ xA xA xA (by first | assumption | rfl | (simp (maxSteps := 1000000) (disch := first | exact xD | fail) [-Option.bind_some, -Aa, -Ab, L0]; done)) ((Ad (by omega)).trans L1) ((Ad (by omega)).trans L2)) hQ
    ·rintro rfl
     simp only [In] at hb
     omega
    ·intro b hb hbl
     simp only [In, size_setRow] at hb hbl ⊢
     rcases hb with (h | h) | h
     ·exact .inl h
     ·exact .inr h
     ·exact .inr (by omega)
    ·exact (Mod.A8 MW1 M6 fun b hb h => by rcases h with h | h; exact h.1; omega).AE (.inl (by omega)) _
   ·simp (maxSteps := 1000000) (disch := first | exact xD | fail) [-Option.bind_some, qs, -Aa, -Ab, qm, hb1, show (80 : Int) ≤ st.AF.length by omega, E1.Ah, E2.Ah, E3.Ah]
    exact hQ _ (ok _ xE)
  ·simp (maxSteps := 1000000) (disch := first | exact xD | fail) [-Option.bind_some, qs, -Aa, -Ab, E1.Ah, E2.Ah]
   refine Ag.bind (AN v.tag s.wait _) ?_
   rintro ⟨_, w3⟩ ⟨rfl, E3⟩
   try dsimp only at E3
   have zE3 := E3.size
   try simp only [qz] at zE3
   cases hb2 : AH v.tag s.wait
   ·simp (maxSteps := 1000000) (disch := first | exact xD | fail) [-Option.bind_some, qs, -Aa, -Ab, qm, E1.Ah, E2.Ah, E3.Ah]
    exact hQ _ (ok _ xE)
   ·simp (maxSteps := 1000000) (disch := first | exact xD | fail) [-Option.bind_some, qs, -Aa, -Ab, E1.Ah, E2.Ah, E3.Ah]
    refine Ag.bind (AN u.tag s.wait _) ?_
    rintro ⟨_, w4⟩ ⟨rfl, E4⟩
    try dsimp only at E4
    have zE4 := E4.size
    try simp only [qz] at zE4
    simp (maxSteps := 1000000) (disch := first | exact xD | fail) [-Option.bind_some, qs, -Aa, -Ab, hb1, E1.Ah, E2.Ah, E3.Ah, E4.Ah]
    refine Ag.bind (AN u.tag s.wait _) ?_
    rintro ⟨_, w5⟩ ⟨rfl, E5⟩
    try dsimp only at E5
    have zE5 := E5.size
    try simp only [qz] at zE5
    simp (maxSteps := 1000000) (disch := first | exact xD | fail) [-Option.bind_some, -Aa, -Ab, hb1]
    have F5 : Ext w w5 := xE
    exact Ag.mono (PD (M := M) (w := w) (kind := kind) (num := num) (key := key) (text := text) (gone := gone) hf (by omega) hs (ho.ext F5) (fun b h => .inl h) (Mod.of F5 S) xA xA xA (by first | assumption | rfl | (simp (maxSteps := 1000000) (disch := first | exact xD | fail) [-Option.bind_some, qs, -Aa, -Ab, E1.Ah, E2.Ah, E3.Ah, E4.Ah, E5.Ah]; done)) (by first | assumption | rfl | (simp (maxSteps := 1000000) (disch := first | exact xD | fail) [-Option.bind_some, qs, -Aa, -Ab, E1.Ah, E2.Ah, E3.Ah, E4.Ah, E5.Ah]; done)) (by first | assumption | rfl | (simp (maxSteps := 1000000) (disch := first | exact xD | fail) [-Option.bind_some, qs, -Aa, -Ab, E1.Ah, E2.Ah, E3.Ah, E4.Ah, E5.Ah]; done))) hQ
 ·simp (maxSteps := 1000000) (disch := first | exact xD | fail) [-Option.bind_some, qs, -Aa, -Ab, qm, DM, hwt, t0, t1, t2, t3, t4]
  exact hQ _ (ok _ xE)
end Go.Proofs.YtjhhommnkaemlaaGreat.X
namespace Go.Proofs.YtjhhommnkaemlaaGreat.X
open Go Go.Ev Go.RowKit
 -- STEPS
attribute [local irreducible] World.alloc World.setRow Go.Ev.dw
theorem QF {a b : Option Addr} {c c' : Nat} {S S' : Nat → Prop} {xs ys : List Tag} {w : World} (hx : xs.length = 4) (hy : ys.length = 4) (ha : D Bj S w [.slice a 4 c] xs) (hb : D Bj S' w [.slice b 4 c'] ys) :
  Ag (EV P 67 #[.agg #[.slice a 4 c], .agg #[.slice b 4 c']] w) fun r => ∃ a2 c2, (BT xs ys).length = 4 ∧ r.1 = .agg #[.slice a2 4 c2] ∧ O Bj (In w.heap.size r.2.heap.size) r.2 [.slice a2 4 c2] (BT xs ys) ∧ Ext w r.2 := by
 have := Mz hx hy (by rw [hx]; exact ha) (by rw [hy]; exact hb)
 rw [hx, hy] at this
 refine Ag.mono this ?_
 rintro r ⟨a2, c2, h1, h2, h3⟩
 have hl : (BT xs ys).length = 4 := by first | (rw [Gn (by omega)]; omega) | (simp [BT]; omega)
 rw [hl] at h1 h2
 exact ⟨a2, c2, hl, h1, h2, h3⟩
theorem Oc {M M' i b8 : Nat} {kind num key : Int} {text : ByteArray} {gone : Bool} {S T : Nat → Prop} {cs0 cs1 : List Value} {st1 : WorldD} {u : Ver} {au : Option Addr} {cu : Nat} {e : Env} {w W : World} (hf : BG M' st1) (hM' : M' ≤ M + 16) (h80 : st1.AF.length < 80)
  (ho : O tW T W cs1 st1) (hT : ∀ b, T b → (S b ∧ b < w.heap.size) ∨ w.heap.size + 3 ≤ b) (hMod : Mod S w W)
  (e2 : e 2 = pt w.heap.size 0) (e3 : e 3 = pt (w.heap.size + 1) 0) (e4 : e 4 = pt (w.heap.size + 1 + 1) 0) (e8 : e 8 = pt b8 0)
  (X2 : hp W w.heap.size = some (.cells cs1.toArray 77 (0, 0))) (X3 : hp W (w.heap.size + 1) = some (.cells #[i64 kind, i64 i, i64 num, i64 key, .string text, .bool gone] 137 (0, 0)))
  (X4 : hp W (w.heap.size + 1 + 1) = some (.cells #[.slice none 0 0, .slice none 0 0, .slice none 0 0, .slice none 0 0] 77 (0, 0))) (X8 : hp W b8 = some (.cells #[i64 u.key, i64 u.tag.t, i64 u.tag.p, .slice au u.past.length cu, .string u.text, .bool u.gone] 49 (0, 0))) :
  Ag (Dc e W) (Step M S w cs0) := by
 have y4 := Aq X4
 obtain ⟨u1, l1, d1, u2, l2, d2, u3, l3, d3, u4, l4, d4, rfl⟩ := ho.B6
 rw [ID]
 refine Ag.post fun Q hQ => ?_
 simp (maxSteps := 1000000) (disch := first | exact xD | fail) [-Option.bind_some, -Aa, -Ab, e2, e3, e4, e8, X2, X3, X8]
 refine Ag.bind (Lf (d := ⟨i, 2, key, u.tag⟩) (by omega) ho) ?_
 rintro ⟨_, w3⟩ ⟨cs3, rfl, o3, M3⟩
 have zM3 := M3.size
 try simp only [] at zM3
 try dsimp only at o3 M3
 have zM3 := M3.size
 obtain ⟨u5, l5, d5, u6, l6, d6, u7, l7, d7, u8, l8, d8, rfl⟩ := o3.B6
 have L4 := (M3.Ah _ (by omega) (fun h => by have := hT _ h; omega)).trans X4
 simp (maxSteps := 1000000) (disch := first | exact xD | fail) [-Option.bind_some, -Aa, -Ab, qm, L4]
 refine hQ _ ⟨_, _, true, rfl, by simp, (hf.AF (d := ⟨i, 2, key, u.tag⟩) h80).up hM', (o3.Ak fun b hb hbl => Ad ?_).wide ?_, (Mod.A8 hMod M3 fun b hb h => by rcases hT b h with h | h; exact h.1; omega).AE (.inl (by omega)) _⟩
 ·rintro rfl
  simp only [In] at hb
  rcases hb with h | h
  ·have := hT _ h
   omega
  ·omega
 ·intro b hb hbl
  simp only [In, size_setRow] at hb hbl ⊢
  rcases hb with h | h
  ·rcases hT b h with h | h
   ·exact .inl h.1
   ·exact .inr (by omega)
  ·exact .inr (by omega)
theorem QG {M i : Nat} {kind num key : Int} {text : ByteArray} {gone : Bool} {S : Nat → Prop} {cs : List Value} {st : WorldD} {w : World} (hf : BG M st) (hM : M ≤ 900000) (hi : i < st.Az.length) (ho : O tW S w cs st) :
  Ag (EV P 123 #[.agg cs.toArray, .agg #[i64 kind, i64 i, i64 num, i64 key, .string text, .bool gone]] w) (Step M S w cs) := by
 have ho := ho.lt
 have hf' := hf
 obtain ⟨pl3, hfp, sl4, hfs, nl, hfn, hl80⟩ := hf'
 obtain ⟨s, hs, _⟩ := Am hi
 obtain ⟨hs0, hs2, hsp, hsk0, hsk3⟩ := hfs s (List.mem_of_getElem? hs)
 obtain ⟨k, hk⟩ := Int.eq_ofNat_of_zero_le hs0
 have hk3 : k < st.places.length := by omega
 obtain ⟨p, hp', _⟩ := Am hk3
 have hpf := hfp p (List.mem_of_getElem? hp')
 obtain ⟨c, a1, c1, a2, c2, a3, c3, gp, curp, dp, Sp, rfl, hSgp, hgpl, hgp, hlep, op, hSp, _⟩ := O.F7 ho hp'
 obtain ⟨a', c', c1', a2', c2', a3', c3', gs, curs, ap, cp, Ss, hcs, hSgs, hgsl, hgs, hles, os, hSs, puts⟩ := O.EA ho hs
 simp only [List.cons.injEq, Value.slice.injEq, and_true, true_and] at hcs
 obtain ⟨⟨rfl, rfl⟩, ⟨rfl, rfl⟩, ⟨rfl, rfl⟩, rfl, rfl⟩ := hcs
 have op' := op.d
 obtain ⟨ac, cc, al, cl, ag, cg, rfl, q1, _, _⟩ := D.place.1 op'
 rw [hsp, hk] at hgs
 have As := DF hgs (by simpa using hles)
 have Ap := DF hgp (by simpa using hlep)
 have t0 := As 0 _ rfl
 have t1 := As 1 _ rfl
 have t2 := As 2 _ rfl
 have t3 := As 3 _ rfl
 have t4 := As 4 _ rfl
 simp only [Nat.add_zero] at t0 t1 t2 t3 t4
 have m0 := Ap 0 _ rfl
 have m1 := Ap 1 _ rfl
 have m2 := Ap 2 _ rfl
 have m3 := Ap 3 _ rfl
 have m4 := Ap 4 _ rfl
 have m5 := Ap 5 _ rfl
 simp only [Nat.add_zero] at m0 m1 m2 m3 m4 m5
 have osd : D Bj Ss w [.slice ap 4 cp] s.past := by rw [← hsp]; exact os.d
 have ok : ∀ (w' : World), Ext w w' → Step M S w [.slice (some ⟨gp, 0, none⟩) st.places.length c, .slice (some ⟨gs, 0, none⟩) st.Az.length c1, .slice a2 st.net.length c2, .slice a3 st.AF.length c3] (.tuple #[.agg #[.slice (some ⟨gp, 0, none⟩) st.places.length c, .slice (some ⟨gs, 0, none⟩) st.Az.length c1, .slice a2 st.net.length c2, .slice a3 st.AF.length c3], .bool false], w') :=
  fun w' hE => Step.fail hf (ho.wide fun b h _ => h.1) hE
 have x0 : 0 < p.chain.length := hpf.1.1
 have x4 := hpf.1.2.1
 have hw1 : IntKind.i64.wrap ((p.chain.length : Int) - 1) = ((p.chain.length - 1 : Nat) : Int) := by rw [Ho (by omega) (by omega)]; omega
 refine Ag.post fun Q hQ => ?_
 refine Ag.enter plain mixed (KM _ _ _) (by kernel_rfl) (n := 2) (by kernel_rfl) rfl ?_
 by_cases hwt : 0 < s.wait.t
 ·simp (maxSteps := 1000000) (disch := first | exact xD | fail) [-Option.bind_some, qs, -Aa, -Ab, qm, DM, CF, hwt, t0, t1, t2, t3, t4, m2]
  exact hQ _ (ok _ xE)
 simp (maxSteps := 1000000) (disch := first | exact xD | fail) [-Option.bind_some, qs, -Aa, -Ab, qm, DM, CF, hwt, t0, t1, t2, t3, t4, m2]
 refine Ag.bind (AK _ _ _ _) ?_
 rintro _ rfl
 cases hky : (decide (0 ≤ key) && decide (key ≤ 3))
 ·simp (maxSteps := 1000000) (disch := first | exact xD | fail) [-Option.bind_some, qs, -Aa, -Ab, qm]
  exact hQ _ (ok _ xE)
 simp only [Bool.and_eq_true, decide_eq_true_eq] at hky
 obtain ⟨ky, rfl⟩ := Int.eq_ofNat_of_zero_le hky.1
 have hky4 : ky < 4 := by omega
 simp (maxSteps := 1000000) (disch := first | exact xD | fail) [-Option.bind_some, qs, -Aa, -Ab, hw1]
 refine Ag.bind (AK _ _ _ _) ?_
 rintro _ rfl
 cases hnm : (decide (0 ≤ num) && decide (num ≤ ((p.chain.length - 1 : Nat) : Int)))
 ·simp (maxSteps := 1000000) (disch := first | exact xD | fail) [-Option.bind_some, qs, -Aa, -Ab, qm]
  exact hQ _ (ok _ xE)
 have hnm' := hnm
 simp only [Bool.and_eq_true, decide_eq_true_eq] at hnm'
 obtain ⟨nm, rfl⟩ := Int.eq_ofNat_of_zero_le hnm'.1
 have hnml : nm < p.chain.length := by omega
 by_cases h80 : st.AF.length < 80
 ·simp (maxSteps := 1000000) (disch := first | exact xD | fail) [-Option.bind_some, qs, -Aa, -Ab, show ¬ (80 : Int) ≤ st.AF.length by omega]
  refine Ag.bind (MT (k := nm) (key := ky) hpf.1 hnml hky4 (q1.ext xE)) ?_
  rintro ⟨_, w1⟩ ⟨ds, u, huK, rfl, o3, E1⟩
  try dsimp only at ds u huK o3 E1
  have zE1 := E1.size
  try simp only [qz] at zE1
  have F1 : Ext w w1 := xE
  have zF1 := F1.size
  have zo3 := O.Bv.1 o3
  obtain ⟨au, cu, rfl, ou, _⟩ := zo3
  obtain ⟨tg, htg, _⟩ := Am (l := s.past) (k := ky) (by omega)
  obtain ⟨b2, o2, cs2, rfl, A2, D2, _, _⟩ := osd.at (by decide) htg
  obtain rfl := D.tag.1 D2
  have j0 := A2 0 _ rfl
  have j1 := A2 1 _ rfl
  simp only [Cs, Nat.add_zero] at j0 j1
  have B0 : hp w1 w.heap.size = some (.cells #[.slice (some ⟨gp, 0, none⟩) st.places.length c, .slice (some ⟨gs, 0, none⟩) st.Az.length c1, .slice a2 st.net.length c2, .slice a3 st.AF.length c3] 77 (0, 0)) := (E1.Ah xB).trans (by first | assumption | rfl | (simp (maxSteps := 1000000) (disch := first | exact xD | fail) [-Option.bind_some, qs, -Aa, -Ab]; done))
  have B1 : hp w1 (w.heap.size + 1) = some (.cells #[i64 kind, i64 i, i64 nm, i64 ky, .string text, .bool gone] 137 (0, 0)) := (E1.Ah xB).trans (by first | assumption | rfl | (simp (maxSteps := 1000000) (disch := first | exact xD | fail) [-Option.bind_some, qs, -Aa, -Ab]; done))
  have B2 : hp w1 (w.heap.size + 1 + 1) = some (.cells #[.slice none 0 0, .slice none 0 0, .slice none 0 0, .slice none 0 0] 77 (0, 0)) := (E1.Ah xB).trans (by first | assumption | rfl | (simp (maxSteps := 1000000) (disch := first | exact xD | fail) [-Option.bind_some, qs, -Aa, -Ab]; done))
  have B3 : hp w1 (w.heap.size + 1 + 1 + 1) = some (.cells #[i64 k, .slice (some ⟨b2, o2, none⟩) 4 cp, i64 s.wait.t, i64 s.wait.p, i64 s.key] 129 (0, 0)) := (E1.Ah xB).trans (by first | assumption | rfl | (simp (maxSteps := 1000000) (disch := first | exact xD | fail) [-Option.bind_some, qs, -Aa, -Ab]; done))
  simp (maxSteps := 1000000) (disch := first | exact xD | fail) [-Option.bind_some, qs, -Aa, -Ab, qm, B1, B3, EJ, E1.Ah, j0, j1]
  refine Ag.bind (AN u.tag tg _) ?_
  rintro ⟨_, w2⟩ ⟨rfl, E2⟩
  try dsimp only at E2
  have zE2 := E2.size
  try simp only [qz] at zE2
  have V2 : hp w2 w1.heap.size = some (.cells #[i64 u.key, i64 u.tag.t, i64 u.tag.p, .slice au u.past.length cu, .string u.text, .bool u.gone] 49 (0, 0)) := (E2.Ah xB).trans (by first | assumption | rfl | (simp (maxSteps := 1000000) (disch := first | exact xD | fail) [-Option.bind_some, qs, -Aa, -Ab]; done))
  cases hb1 : AH u.tag tg
  ·by_cases hut : 0 < u.tag.t
   ·have hu4 := huK.2.2 hut
    have ou4 : D Bj (fun b => w.heap.size ≤ b) w1 [.slice au 4 cu] u.past := by rw [← hu4]; exact ou.d.wide fun b hb _ => by simp only [In, World.size_alloc, size_setRow] at hb; omega
    rw [hu4] at V2
    simp (maxSteps := 1000000) (disch := first | exact xD | fail) [-Option.bind_some, qs, -Aa, -Ab, hut, V2, E1.Ah, E2.Ah]
    refine Ag.bind (QF hsp hu4 (osd.ext xE) (ou4.ext xE)) ?_
    rintro ⟨_, w3⟩ ⟨a6, c6, hj4, rfl, o6, E3⟩
    try dsimp only at a6 c6 hj4 o6 E3
    have zE3 := E3.size
    try simp only [qz] at zE3
    simp (maxSteps := 1000000) (disch := first | exact xD | fail) [-Option.bind_some, qs, -Aa, -Ab, V2, E1.Ah, E2.Ah, E3.Ah]
    refine Ag.bind (Lg (t := u.tag) (k := ky) hj4 hky4 (o6.d.ext xE)) ?_
    rintro ⟨_, w5⟩ ⟨a7, c7, rfl, o7, E5⟩
    try dsimp only at a7 c7 o7 E5
    have zE5 := E5.size
    try simp only [qz] at zE5
    have F5 : Ext w w5 := xE
    have zF5 := F5.size
    have C0 : hp w5 w.heap.size = hp w1 w.heap.size := (by first | assumption | rfl | (simp (maxSteps := 1000000) (disch := first | exact xD | fail) [-Option.bind_some, qs, -Aa, -Ab, E1.Ah, E2.Ah, E3.Ah, E5.Ah]; done))
    have C1 : hp w5 (w.heap.size + 1) = hp w1 (w.heap.size + 1) := (by first | assumption | rfl | (simp (maxSteps := 1000000) (disch := first | exact xD | fail) [-Option.bind_some, qs, -Aa, -Ab, E1.Ah, E2.Ah, E3.Ah, E5.Ah]; done))
    have C2 : hp w5 (w.heap.size + 1 + 1) = hp w1 (w.heap.size + 1 + 1) := (by first | assumption | rfl | (simp (maxSteps := 1000000) (disch := first | exact xD | fail) [-Option.bind_some, qs, -Aa, -Ab, E1.Ah, E2.Ah, E3.Ah, E5.Ah]; done))
    have C8 : hp w5 w1.heap.size = hp w2 w1.heap.size := (by first | assumption | rfl | (simp (maxSteps := 1000000) (disch := first | exact xD | fail) [-Option.bind_some, qs, -Aa, -Ab, E2.Ah, E3.Ah, E5.Ah]; done))
    have G5 := (F5.Ah hgsl).trans hgs
    simp (maxSteps := 1000000) (disch := first | exact xD | fail) [-Option.bind_some, qs, -Aa, -Ab, qm, G5, DM, E1.Ah, E2.Ah, E3.Ah, E5.Ah]
    generalize hW1 : World.setRow _ gs _ = W1
    have sW1 : W1.heap.size = w5.heap.size := by rw [← hW1]; simp
    have kW1 : ∀ b, b ≠ gs → hp W1 b = hp w5 b := fun b h1 => by
     rw [← hW1]
     simp (disch := omega) only [Ad]
    have G6 : hp W1 gs = some (.cells (Ba curs (i * 5) [i64 k, .slice a7 4 c7, i64 s.wait.t, i64 s.wait.p, i64 s.key]).toArray 129 (0, 0)) := by
     rw [← hW1]
     exact (by first | assumption | rfl | (simp (maxSteps := 1000000) (disch := first | exact xD | fail) [-Option.bind_some, -Aa, -Ab, G5]; done))
    have MW1 : Mod S w W1 := by
     rw [← hW1]
     exact (Mod.of F5 S).AE (.inr hSgs.1) _
    have wl4 : (C6 (BT s.past u.past) ky u.tag).length = 4 := by rw [FZ]; exact hj4
    have oW1 := (puts W1 _ ⟨s.place, C6 (BT s.past u.past) ky u.tag, s.wait, s.key⟩ (fun b => w.heap.size + 5 ≤ b) (O.Az.2 ⟨a7, c7, (by rw [hk, wl4]), (by rw [wl4]; exact (o7.Ak fun b hb hbl => kW1 b (by simp only [In] at hb; omega)).wide fun b hb _ => by simp only [In] at hb ⊢; omega)⟩) G6 (fun b hb _ hne' _ => (kW1 b hne').trans (F5.Ah hb)) (fun b _ h => .inr fun hh => by omega)).wide (S' := fun b => (S b ∧ b < w.heap.size) ∨ w.heap.size + 5 ≤ b) (fun b h _ => h)
    exact Ag.mono (Oc (M := M) (M' := M) (i := i) (w := w) (b8 := w1.heap.size) (u := u) (au := au) (cu := cu) (kind := kind) (num := nm) (key := ky) (text := text) (gone := gone) (hf.Az (i := i) (s := ⟨s.place, C6 (BT s.past u.past) ky u.tag, s.wait, s.key⟩) ⟨hs0, hs2, wl4, hsk0, hsk3⟩) (by omega) h80 oW1 (fun b h => by rcases h with h | h; exact .inl h; exact .inr (by omega)) MW1 xA xA xA xA ((kW1 _ (by omega)).trans (C0.trans B0)) ((kW1 _ (by omega)).trans (C1.trans B1)) ((kW1 _ (by omega)).trans (C2.trans B2)) (by rw [hu4]; exact (kW1 _ (by omega)).trans (C8.trans V2))) hQ
   ·simp (maxSteps := 1000000) (disch := first | exact xD | fail) [-Option.bind_some, -Aa, -Ab, hut, V2]
    have F5 : Ext w w2 := xE
    exact Ag.mono (Oc (M := M) (M' := M) (i := i) (w := w) (b8 := w1.heap.size) (u := u) (au := au) (cu := cu) (kind := kind) (num := nm) (key := ky) (text := text) (gone := gone) hf (by omega) h80 (ho.ext F5) (fun b h => .inl h) (Mod.of F5 S) xA xA xA xA (by first | assumption | rfl | (simp (maxSteps := 1000000) (disch := first | exact xD | fail) [-Option.bind_some, qs, -Aa, -Ab, B0, E2.Ah]; done)) (by first | assumption | rfl | (simp (maxSteps := 1000000) (disch := first | exact xD | fail) [-Option.bind_some, qs, -Aa, -Ab, B1, E2.Ah]; done)) (by first | assumption | rfl | (simp (maxSteps := 1000000) (disch := first | exact xD | fail) [-Option.bind_some, qs, -Aa, -Ab, B2, E2.Ah]; done)) V2) hQ
  ·simp (maxSteps := 1000000) (disch := first | exact xD | fail) [-Option.bind_some, qs, -Aa, -Ab, qm, E1.Ah, E2.Ah]
   exact hQ _ (ok _ xE)
 ·simp (maxSteps := 1000000) (disch := first | exact xD | fail) [-Option.bind_some, qs, -Aa, -Ab, qm, show (80 : Int) ≤ st.AF.length by omega]
  exact hQ _ (ok _ xE)
end Go.Proofs.YtjhhommnkaemlaaGreat.X
namespace Go.Proofs.YtjhhommnkaemlaaGreat.X
open Go Go.Ev Go.RowKit
attribute [local irreducible] World.alloc World.setRow Go.Ev.dw
abbrev RO (w : World) (x : WorldD) (s t u v : Value) (S1 S2 S3 S4 : Nat → Prop) : Prop := Parts 36 49 86 42 84 129 131 38 w x s t u v S1 S2 S3 S4
theorem QH {a a1 a2 a3 : Option Addr} {n n1 n2 n3 c c1 c2 c3 : Nat} {S1 S2 S3 S4 : Nat → Prop} {st : WorldD} {d : Done} {w : World} (hh : st.AF.length ≤ 1000) (Pt : RO w st (.slice a n c) (.slice a1 n1 c1) (.slice a2 n2 c2) (.slice a3 n3 c3) S1 S2 S3 S4) (hl : ∀ b, (S1 b ∨ S2 b ∨ S3 b ∨ S4 b) → b < w.heap.size) :
  Ag (EV P 136 #[.agg #[.slice a n c, .slice a1 n1 c1, .slice a2 n2 c2, .slice a3 n3 c3], i64 d.Az, i64 d.kind, i64 d.key, .agg #[i64 d.tag.t, i64 d.tag.p]] w) fun r => ∃ a4 n4 c4, r.1 = .agg #[.slice a n c, .slice a1 n1 c1, .slice a2 n2 c2, .slice a4 n4 c4] ∧
   RO r.2 { st with AF := st.AF ++ [d] } (.slice a n c) (.slice a1 n1 c1) (.slice a2 n2 c2) (.slice a4 n4 c4) S1 S2 S3 (fun b => (S4 b ∨ w.heap.size ≤ b) ∧ b < r.2.heap.size) ∧ Mod S4 w r.2 := by
 have hl4 := fun b h => hl b (.inr (.inr (.inr h)))
 refine Ag.post fun Q hQ => ?_
 refine Ag.enter plain mixed (GG _ _ _ _ _ _) (by kernel_rfl) (n := 5) (by kernel_rfl) rfl ?_
 simp (disch := first | exact xD | fail) [-Option.bind_some, qs, -Aa, -Ab]
 refine Ag.bind (O.app (L := I2) (mx := 3518437208883) (S1 := fun _ => False) (x := d) (cs := PB d) Q7 Rc rfl (by decide) (Pt.o4.ext xE) (O.done.2 rfl) (fun _ _ _ h => h) (At.nw (by simp)) (by omega) (by decide) (by decide)) ?_
 rintro ⟨_, w1⟩ ⟨a7, c7, rfl, o7, M7⟩
 have zM7 := M7.size
 try simp only [qz] at zM7
 try dsimp only at o7 M7
 have zM7 := M7.size
 simp only [World.size_alloc] at zM7 o7
 have nn3 : ∀ b, w.heap.size ≤ b → ¬ S4 b := fun b h h' => by have := hl4 b h'; omega
 have Y1 : hp w1 w.heap.size = some (.cells #[.slice a n c, .slice a1 n1 c1, .slice a2 n2 c2, .slice a3 n3 c3] 77 (0, 0)) := (M7.Ah _ (by simp; omega) (nn3 _ (by omega))).trans (by first | assumption | rfl | (simp (disch := first | exact xD | fail) [-Option.bind_some, qs, -Aa, -Ab]; done))
 have Y3 : hp w1 (w.heap.size + 1 + 1) = some (.cells #[.slice none 0 0, .slice none 0 0, .slice none 0 0, .slice none 0 0] 77 (0, 0)) := (M7.Ah _ (by simp) (nn3 _ (by omega))).trans (by first | assumption | rfl | (simp (disch := first | exact xD | fail) [-Option.bind_some, qs, -Aa, -Ab]; done))
 simp (disch := first | exact xD | fail) [-Option.bind_some, qs, -Aa, -Ab, qm, Y1, Y3]
 have kk : ∀ b, b < w.heap.size → ¬ S4 b → hp ((w1.setRow w.heap.size #[.slice a n c, .slice a1 n1 c1, .slice a2 n2 c2, .slice a7 (st.AF.length + 1) c7]).setRow (w.heap.size + 1 + 1) #[.slice a n c, .slice a1 n1 c1, .slice a2 n2 c2, .slice a7 (st.AF.length + 1) c7]) b = hp w b := fun b hb hn => by
  rw [Ad (by omega), Ad (by omega), M7.Ah b (by simp; omega) hn, Ae (by simp; omega), Ae (by simp; omega), Ae (by simp; omega), Ae (by omega)]
 refine hQ _ ⟨_, _, _, rfl, Pt.RY hl ((o7.Ak fun b hb hbl => ?_).wide ?_) (fun b hb hn => kk b (hl b (by rcases hb with h | h | h; exact .inl h; exact .inr (.inl h); exact .inr (.inr (.inl h)))) hn) (fun b h => h.1), ?_⟩
 ·have : b ≠ w.heap.size ∧ b ≠ w.heap.size + 1 + 1 := by
   rcases hb with h | h | h
   ·have := hl4 b h; omega
   ·exact h.elim
   ·omega
  rw [Ad this.2, Ad this.1]
 ·intro b hb hbl
  refine ⟨?_, hbl⟩
  rcases hb with h | h | h
  ·exact .inl h
  ·exact h.elim
  ·exact .inr (by omega)
 ·have Mb : Mod S4 w w1 := Mod.A8 (Mod.of xE S4) M7 fun b _ h => h
  exact (Mb.AE (.inl (Nat.le_refl _)) _).AE (.inl (by omega)) _
theorem RP {M i gs n1 c1 n c n2 c2 c8 b8 : Nat} {a a2 a8 : Option Addr} {kind num key : Int} {text : ByteArray} {gone : Bool} {S S1 S2 S3 S4 : Nat → Prop} {cs0 : List Value} {x : CNode} {w : World}
  (hl : ∀ b, (S1 b ∨ S2 b ∨ S3 b ∨ S4 b) → S b ∧ b < w.heap.size) (hx4 : x.store.length = 4) (hst : D AB S1 w [.slice a8 4 c8] x.store) (hin : i < n1) (hb8 : w.heap.size + 3 ≤ b8 ∧ b8 < w.heap.size + 6) :
  ∀ (d k : Nat) (e : Env) (W : World) (a4 : Option Addr) (n4 c4 : Nat) (st1 : WorldD) (s1 : SessD) (T2 T4 : Nat → Prop), k + d = 4 → e 2 = pt w.heap.size 0 → e 3 = pt (w.heap.size + 1) 0 → e 4 = pt (w.heap.size + 1 + 1) 0 → e 8 = pt b8 0 → e 9 = i64 k →
   hp W w.heap.size = some (.cells #[.slice a n c, .slice (some ⟨gs, 0, none⟩) n1 c1, .slice a2 n2 c2, .slice a4 n4 c4] 77 (0, 0)) → hp W (w.heap.size + 1) = some (.cells #[i64 kind, i64 i, i64 num, i64 key, .string text, .bool gone] 137 (0, 0)) →
   hp W (w.heap.size + 1 + 1) = some (.cells #[.slice none 0 0, .slice none 0 0, .slice none 0 0, .slice none 0 0] 77 (0, 0)) → hp W b8 = some (.cells #[.slice a8 4 c8] 44 (0, 0)) →
   RO W st1 (.slice a n c) (.slice (some ⟨gs, 0, none⟩) n1 c1) (.slice a2 n2 c2) (.slice a4 n4 c4) S1 T2 S3 T4 → (∀ b, T2 b → (S2 b ∨ w.heap.size + 6 ≤ b) ∧ b < W.heap.size) → (∀ b, T4 b → (S4 b ∨ w.heap.size + 6 ≤ b) ∧ b < W.heap.size) → w.heap.size + 6 ≤ W.heap.size →
   (∀ b, S1 b → hp W b = hp w b) → st1.Az[i]? = some s1 → BG M st1 → st1.AF.length + d ≤ 80 → Mod S w W → Ag (DT e W) (Step M S w cs0) := by
 have hl1 := fun b h => hl b (.inl h)
 have hl2 := fun b h => hl b (.inr (.inl h))
 have hl3 := fun b h => hl b (.inr (.inr (.inl h)))
 have hl4 := fun b h => hl b (.inr (.inr (.inr h)))
 intro d
 induction d with
 | zero =>
  intro k e W a4 n4 c4 st1 s1 T2 T4 hd e2 e3 e4 e8 e9 X2 X3 X4 X8 Pt hT2 hT4 hz hk1 hs hf h80 hM
  rw [FO]
  obtain rfl : k = 4 := by omega
  have y4 := Aq X4
  refine Ag.post fun Q hQ => ?_
  simp (disch := first | exact xD | fail) [-Option.bind_some, -Aa, -Ab, qm, e2, e4, e9, X2, X4]
  refine hQ _ ⟨_, st1, true, rfl, by simp, hf.up (by omega), (Pt.mk'.Ak fun b hb hbl => Ad ?_).wide ?_, hM.AE (.inl (by omega)) _⟩
  ·rintro rfl
   rcases hb with h | h | h | h
   ·have := (hl1 _ h).2; omega
   ·have := (hT2 _ h).1; rcases this with h | h; have := (hl2 _ h).2; omega; omega
   ·have := (hl3 _ h).2; omega
   ·have := (hT4 _ h).1; rcases this with h | h; have := (hl4 _ h).2; omega; omega
  ·intro b hb hbl
   simp only [In, size_setRow] at hbl ⊢
   rcases hb with h | h | h | h
   ·exact .inl (hl1 _ h).1
   ·have := (hT2 _ h).1; rcases this with h | h; exact .inl (hl2 _ h).1; exact .inr (by omega)
   ·exact .inl (hl3 _ h).1
   ·have := (hT4 _ h).1; rcases this with h | h; exact .inl (hl4 _ h).1; exact .inr (by omega)
 | succ d ih =>
  intro k e W a4 n4 c4 st1 s1 T2 T4 hd e2 e3 e4 e8 e9 X2 X3 X4 X8 Pt hT2 hT4 hz hk1 hs hf h80 hM
  rw [FO]
  have hk4 : k < 4 := by omega
  have hlW : ∀ b, (S1 b ∨ T2 b ∨ S3 b ∨ T4 b) → b < W.heap.size := by
   rintro b (h | h | h | h)
   ·have := (hl1 _ h).2; omega
   ·exact (hT2 b h).2
   ·have := (hl3 _ h).2; omega
   ·exact (hT4 b h).2
  have box : ∀ b, w.heap.size ≤ b → b < w.heap.size + 6 → ¬ (S1 b ∨ T2 b ∨ S3 b ∨ T4 b) := by
   rintro b h1 h2 (h | h | h | h)
   ·have := (hl1 _ h).2; omega
   ·have := (hT2 _ h).1; rcases this with h | h; have := (hl2 _ h).2; omega; omega
   ·have := (hl3 _ h).2; omega
   ·have := (hT4 _ h).1; rcases this with h | h; have := (hl4 _ h).2; omega; omega
  obtain ⟨cur, ap, cp, Sx, rfl, hTg, hgs, hle, os, hSx, puts⟩ := Pt.EA hlW hs
  have hi : i < st1.Az.length := hin
  obtain ⟨hs0, hs2, hsp, hsk0, hsk3⟩ := hf.2.2.2.1 s1 (List.mem_of_getElem? hs)
  rw [hsp] at hgs os
  have hgW := (hT2 gs hTg).2
  obtain ⟨v, hv, _⟩ := Am (l := x.store) (k := k) (by omega)
  have hstW : D AB S1 W [.slice a8 4 c8] x.store := hst.Ak fun b hb _ => hk1 b hb
  obtain ⟨b9, o9, cs9, rfl, A9, D9, hSb9, yb9⟩ := hstW.at (by decide) hv
  obtain ⟨av, cv, rfl, _, _⟩ := D.Bv.1 D9
  have m0 := A9 0 _ rfl
  have m1 := A9 1 _ rfl
  have m2 := A9 2 _ rfl
  have m3 := A9 3 _ rfl
  have m4 := A9 4 _ rfl
  have m5 := A9 5 _ rfl
  simp only [AX, Nat.add_zero] at m0 m1 m2 m3 m4 m5
  have As := DF hgs (by simpa using hle)
  have t0 := As 0 _ rfl
  have t1 := As 1 _ rfl
  have t2 := As 2 _ rfl
  have t3 := As 3 _ rfl
  have t4 := As 4 _ rfl
  simp only [Nat.add_zero] at t0 t1 t2 t3 t4
  refine Ag.post fun Q hQ => ?_
  simp (disch := first | exact xD | fail) [-Option.bind_some, qs, -Aa, -Ab, e2, e3, e8, e9, X2, X3, X8, show (k : Int) < 4 by omega, DM, AW, m1, m2, t1]
  refine Ag.bind (Lg (xs := s1.past) (t := v.tag) (k := k) hsp hk4 (os.d.ext xE)) ?_
  rintro ⟨_, w1⟩ ⟨a7, c7, rfl, o7, E1⟩
  try dsimp only at a7 c7 o7 E1
  have zE1 := E1.size
  try simp only [qz] at zE1
  simp only [Ac] at zE1 o7
  have F1 : Ext W w1 := xE
  have G1 := (F1.Ah hgW).trans hgs
  have N0 := (F1.Ah (b := w.heap.size) (by omega)).trans X2
  have N1 := (F1.Ah (b := w.heap.size + 1) (by omega)).trans X3
  have N2 := (F1.Ah (b := w.heap.size + 1 + 1) (by omega)).trans X4
  have N8 := (F1.Ah (b := b8) (by omega)).trans X8
  have gbx : ∀ b, w.heap.size ≤ b → b < w.heap.size + 6 → b ≠ gs := fun b h1 h2 h => box b h1 h2 (.inr (.inl (h ▸ hTg)))
  have ng0 := gbx w.heap.size (Nat.le_refl _) (by omega)
  have ng1 := gbx (w.heap.size + 1) (by omega) (by omega)
  have ng2 := gbx (w.heap.size + 1 + 1) (by omega) (by omega)
  have ng8 := gbx b8 (by omega) (by omega)
  have hb9 : b9 ≠ gs := fun h => Pt.d12 b9 yb9 hSb9 (h ▸ hTg)
  simp (disch := first | exact xD | fail) [-Option.bind_some, qs, -Aa, -Ab, qm, G1, N0, N1, N8, AW, m1, m2, E1.Ah]
  generalize hW1 : Go.Ev.dw (World.setRow _ gs _) = W1
  have sW1 : W1.heap.size = w1.heap.size := by rw [← hW1]; simp
  have kW1 : ∀ b, b ≠ gs → hp W1 b = hp w1 b := fun b h1 => by
   rw [← hW1]
   simp (disch := omega) only [Ad, Bg]
  have G6 : hp W1 gs = some (.cells (Ba cur (i * 5) [i64 s1.place, .slice a7 4 c7, i64 s1.wait.t, i64 s1.wait.p, i64 s1.key]).toArray 129 (0, 0)) := by
   rw [← hW1]
   exact (by first | assumption | rfl | (simp (disch := first | exact xD | fail) [-Option.bind_some, -Aa, -Ab, G1]; done))
  have hgS : w.heap.size ≤ gs ∨ S gs := by rcases (hT2 gs hTg).1 with h | h; exact .inr (hl2 _ h).1; exact .inl (by omega)
  have MW1 : Mod S w W1 := by
   rw [← hW1]
   exact ((hM.ex F1).AE hgS _).Sq
  have wl4 : (C6 s1.past k v.tag).length = 4 := by rw [FZ]; exact hsp
  have Pt1 := puts W1 _ ⟨s1.place, C6 s1.past k v.tag, s1.wait, s1.key⟩ (In W.heap.size w1.heap.size) (O.Az.2 ⟨a7, c7, (by rw [wl4]), (by rw [wl4]; exact o7.Ak fun b hb hbl => kW1 b (by simp only [In] at hb; omega))⟩) G6 (fun b hb hne _ => (kW1 b hne).trans (F1.Ah (hlW b hb))) (fun b h => .inr h.1)
  have hlW1 : ∀ b, (S1 b ∨ (T2 b ∨ In W.heap.size w1.heap.size b) ∨ S3 b ∨ T4 b) → b < W1.heap.size := by
   rintro b (h | (h | h) | h | h)
   ·have := hlW b (.inl h); omega
   ·have := hlW b (.inr (.inl h)); omega
   ·simp only [In] at h; omega
   ·have := hlW b (.inr (.inr (.inl h))); omega
   ·have := hlW b (.inr (.inr (.inr h))); omega
  have box1 : ∀ b, w.heap.size ≤ b → b < w.heap.size + 6 → ¬ (S1 b ∨ (T2 b ∨ In W.heap.size w1.heap.size b) ∨ S3 b ∨ T4 b) := by
   rintro b h1 h2 (h | (h | h) | h | h)
   ·exact box b h1 h2 (.inl h)
   ·exact box b h1 h2 (.inr (.inl h))
   ·simp only [In] at h; omega
   ·exact box b h1 h2 (.inr (.inr (.inl h)))
   ·exact box b h1 h2 (.inr (.inr (.inr h)))
  refine Ag.bind (QH (d := ⟨i, 2, k, v.tag⟩) (by show st1.AF.length ≤ 1000; omega) Pt1 hlW1) ?_
  rintro ⟨_, w2⟩ ⟨a5, n5, c5, rfl, Pt2, M2⟩
  have zM2 := M2.size
  try simp only [] at zM2
  try dsimp only at Pt2 M2
  have zM2 := M2.size
  have keep2 : ∀ b, w.heap.size ≤ b → b < w.heap.size + 6 → hp w2 b = hp W b := fun b h1 h2 => (M2.Ah b (by omega) (fun h => box1 b h1 h2 (.inr (.inr (.inr h))))).trans ((kW1 b (gbx b h1 h2)).trans (F1.Ah (by omega)))
  have L0 := (keep2 w.heap.size (by omega) (by omega)).trans X2
  have L1 := (keep2 (w.heap.size + 1) (by omega) (by omega)).trans X3
  have L2 := (keep2 (w.heap.size + 1 + 1) (by omega) (by omega)).trans X4
  have L8 := (keep2 b8 (by omega) (by omega)).trans X8
  simp (disch := first | exact xD | fail) [-Option.bind_some, -Aa, -Ab, qm, L0]
  have hl2' : ∀ b, (S1 b ∨ (T2 b ∨ In W.heap.size w1.heap.size b) ∨ S3 b ∨ ((T4 b ∨ W1.heap.size ≤ b) ∧ b < w2.heap.size)) → b < w2.heap.size := by
   rintro b (h | h | h | h)
   ·have := hlW1 b (.inl h); omega
   ·have := hlW1 b (.inr (.inl h)); omega
   ·have := hlW1 b (.inr (.inr (.inl h))); omega
   ·exact h.2
  have hne0 : ∀ b, (S1 b ∨ (T2 b ∨ In W.heap.size w1.heap.size b) ∨ S3 b ∨ ((T4 b ∨ W1.heap.size ≤ b) ∧ b < w2.heap.size)) → b ≠ w.heap.size := by
   rintro b (h | h | h | h) rfl
   ·exact box1 _ (Nat.le_refl _) (by omega) (.inl h)
   ·exact box1 _ (Nat.le_refl _) (by omega) (.inr (.inl h))
   ·exact box1 _ (Nat.le_refl _) (by omega) (.inr (.inr (.inl h)))
   ·rcases h.1 with h | h
    ·exact box1 _ (Nat.le_refl _) (by omega) (.inr (.inr (.inr h)))
    ·omega
  refine Ag.mono (ih (k + 1) _ _ a5 n5 c5 _ ⟨s1.place, C6 s1.past k v.tag, s1.wait, s1.key⟩ (fun b => T2 b ∨ In W.heap.size w1.heap.size b) (fun b => (T4 b ∨ W1.heap.size ≤ b) ∧ b < w2.heap.size) (by omega) xA xA xA xA xA (by first | assumption | rfl | (simp (disch := first | exact xD | fail) [-Option.bind_some, -Aa, -Ab, L0]; done)) ((Ad (by omega)).trans L1) ((Ad (by omega)).trans L2) ((Ad (by omega)).trans L8) (Pt2.Ak hl2' fun b hb => Ad (hne0 b hb)) ?_ ?_ (by simp only [size_setRow]; omega) ?_ (by rw [List.getElem?_set_self hi]) ((hf.Az (i := i) (s := ⟨s1.place, C6 s1.past k v.tag, s1.wait, s1.key⟩) ⟨hs0, hs2, wl4, hsk0, hsk3⟩).AF (d := ⟨i, 2, k, v.tag⟩) (by show st1.AF.length < 80; omega)) (by simp; omega) ?_) hQ
  ·intro b hb
   simp only [size_setRow]
   rcases hb with h | h
   ·have := hT2 b h
    exact ⟨this.1, by omega⟩
   ·simp only [In] at h
    exact ⟨.inr (by omega), by omega⟩
  ·intro b hb
   simp only [size_setRow]
   refine ⟨?_, hb.2⟩
   rcases hb.1 with h | h
   ·exact (hT4 b h).1
   ·exact .inr (by omega)
  ·intro b hb
   have hbl := (hl1 b hb).2
   exact (Ad (hne0 b (.inl hb))).trans ((M2.Ah b (by omega) (fun h => Pt.d14 b (by omega) hb h)).trans ((kW1 b (fun e => Pt.d12 b (by omega) hb (e ▸ hTg))).trans ((F1.Ah (by omega)).trans (hk1 b hb))))
  ·exact (Mod.A8 MW1 M2 fun b hb h => by rcases (hT4 b h).1 with h | h; exact (hl4 b h).1; omega).AE (.inl (Nat.le_refl _)) _
theorem RQ {M i : Nat} {kind num key : Int} {text : ByteArray} {gone : Bool} {S : Nat → Prop} {cs : List Value} {st : WorldD} {w : World} (hf : BG M st) (hM : M ≤ 900000) (hi : i < st.Az.length) (ho : O tW S w cs st) :
  Ag (EV P 124 #[.agg cs.toArray, .agg #[i64 kind, i64 i, i64 num, i64 key, .string text, .bool gone]] w) (Step M S w cs) := by
 have hf' := hf
 obtain ⟨pl3, hfp, sl4, hfs, nl, hfn, hl80⟩ := hf'
 obtain ⟨s, hs, _⟩ := Am hi
 obtain ⟨hs0, hs2, hsp, hsk0, hsk3⟩ := hfs s (List.mem_of_getElem? hs)
 obtain ⟨k, hk⟩ := Int.eq_ofNat_of_zero_le hs0
 have hk3 : k < st.places.length := by omega
 obtain ⟨p, hp', _⟩ := Am hk3
 have hpf := hfp p (List.mem_of_getElem? hp')
 have x0 : 0 < p.chain.length := hpf.1.1
 have x4 := hpf.1.2.1
 obtain ⟨x, hx, _⟩ := Am (l := p.chain) (k := p.chain.length - 1) (by omega)
 have hxn := hpf.1.2.2 x (List.mem_of_getElem? hx)
 obtain ⟨a, c, a1, c1, a2, c2, a3, c3, S1, S2, S3, S4, rfl, Pt, hl⟩ := O.GN ho
 have hl' := fun b h => (hl b h).2
 obtain ⟨g0, _, _, _, _, rfl, _⟩ : ∃ (g : Nat) (_ _ _ _ : Unit), a1 = some ⟨g, 0, none⟩ ∧ True := by
  obtain ⟨g, cur, ds, Sx, h1, _⟩ := Pt.o2.NY (by show 0 < 5; decide) hs
  exact ⟨g, (), (), (), (), h1, trivial⟩
 obtain ⟨curs, ap, cp, Ss, _, hTg, hgs, hles, os, hSs, puts⟩ := Pt.EA hl' hs
 have hgl := hl' g0 (.inr (.inl hTg))
 obtain ⟨b0, o0, cs2, rfl, Ap, Dp, hSp, _⟩ := Pt.o1.d.at (by show 0 < 6; decide) hp'
 obtain ⟨ac, cc, al, cl, ag, cg, rfl, q1, _, _⟩ := D.place.1 Dp
 obtain ⟨b1, o1, cs1, rfl, A1, D1, _, l1⟩ := q1.at (by decide) hx
 obtain ⟨a4, c4, a5, c5, rfl, h2, h3⟩ := D.node.1 D1
 rw [hxn.1] at h2 A1
 rw [hsp, hk] at hgs
 have As := DF hgs (by simpa using hles)
 have t0 := As 0 _ rfl
 have t1 := As 1 _ rfl
 have t2 := As 2 _ rfl
 have t3 := As 3 _ rfl
 have t4 := As 4 _ rfl
 simp only [Nat.add_zero] at t0 t1 t2 t3 t4
 have m0 := Ap 0 _ rfl
 have m1 := Ap 1 _ rfl
 have m2 := Ap 2 _ rfl
 simp only [Nat.add_zero] at m0 m1 m2
 simp only [Hi] at m0 m1 m2
 have n0 := A1 0 _ rfl
 have n1 := A1 1 _ rfl
 simp only [AO, Nat.add_zero] at n0 n1
 have osd : D Bj Ss w [.slice ap 4 cp] s.past := by rw [← hsp]; exact os.d
 have ok : ∀ (w' : World), Ext w w' → Step M S w [.slice (some ⟨b0, o0, none⟩) st.places.length c, .slice (some ⟨g0, 0, none⟩) st.Az.length c1, .slice a2 st.net.length c2, .slice a3 st.AF.length c3] (.tuple #[.agg #[.slice (some ⟨b0, o0, none⟩) st.places.length c, .slice (some ⟨g0, 0, none⟩) st.Az.length c1, .slice a2 st.net.length c2, .slice a3 st.AF.length c3], .bool false], w') :=
  fun w' hE => Step.fail hf ho hE
 have hw1 : IntKind.i64.wrap ((p.chain.length : Int) - 1) = ((p.chain.length - 1 : Nat) : Int) := by rw [Ho (by omega) (by omega)]; omega
 have hw4 : IntKind.i64.wrap ((st.AF.length : Int) + 4) = (st.AF.length : Int) + 4 := Ho (by omega) (by omega)
 have hln : p.chain.length - 1 < p.chain.length := by omega
 refine Ag.post fun Q hQ => ?_
 refine Ag.enter plain mixed (Me _ _ _) (by kernel_rfl) (n := 2) (by kernel_rfl) rfl ?_
 by_cases hwt : 0 < s.wait.t
 ·simp (disch := first | exact xD | fail) [-Option.bind_some, qs, -Aa, -Ab, qm, hw1, DM, CF, Cr, hwt, t0, t1, t2, t3, t4, m2, n0]
  exact hQ _ (ok _ xE)
 simp (disch := first | exact xD | fail) [-Option.bind_some, qs, -Aa, -Ab, qm, hw1, DM, CF, Cr, hwt, t0, t1, t2, t3, t4, m2, n0]
 refine Ag.bind (HW hxn.1 (h2.ext xE)) ?_
 rintro ⟨_, w1⟩ ⟨a6, c6, rfl, o6, E1⟩
 try dsimp only at a6 c6 o6 E1
 have zE1 := E1.size
 try simp only [qz] at zE1
 have ht4 : (AG x.store).length = 4 := by rw [AG, List.length_map]; exact hxn.1
 rw [ht4] at o6
 have F1 : Ext w w1 := xE
 have zF1 := F1.size
 have B0 : hp w1 w.heap.size = some (.cells #[.slice (some ⟨b0, o0, none⟩) st.places.length c, .slice (some ⟨g0, 0, none⟩) st.Az.length c1, .slice a2 st.net.length c2, .slice a3 st.AF.length c3] 77 (0, 0)) := (E1.Ah xB).trans (by first | assumption | rfl | (simp (disch := first | exact xD | fail) [-Option.bind_some, qs, -Aa, -Ab]; done))
 have B1 : hp w1 (w.heap.size + 1) = some (.cells #[i64 kind, i64 i, i64 num, i64 key, .string text, .bool gone] 137 (0, 0)) := (E1.Ah xB).trans (by first | assumption | rfl | (simp (disch := first | exact xD | fail) [-Option.bind_some, qs, -Aa, -Ab]; done))
 have B2 : hp w1 (w.heap.size + 1 + 1) = some (.cells #[.slice none 0 0, .slice none 0 0, .slice none 0 0, .slice none 0 0] 77 (0, 0)) := (E1.Ah xB).trans (by first | assumption | rfl | (simp (disch := first | exact xD | fail) [-Option.bind_some, qs, -Aa, -Ab]; done))
 have B3 : hp w1 (w.heap.size + 1 + 1 + 1) = some (.cells #[i64 k, .slice ap 4 cp, i64 s.wait.t, i64 s.wait.p, i64 s.key] 129 (0, 0)) := (E1.Ah xB).trans (by first | assumption | rfl | (simp (disch := first | exact xD | fail) [-Option.bind_some, qs, -Aa, -Ab]; done))
 have B5 : hp w1 (w.heap.size + 1 + 1 + 1 + 1 + 1) = some (.cells #[.slice a4 4 c4] 44 (0, 0)) := (E1.Ah xB).trans (by first | assumption | rfl | (simp (disch := first | exact xD | fail) [-Option.bind_some, qs, -Aa, -Ab]; done))
 simp (disch := first | exact xD | fail) [-Option.bind_some, -Aa, -Ab, ht4, B3]
 refine Ag.bind (CU hsp ht4 (D.AM (osd.ext xE)) (D.AM o6.d)) ?_
 rintro ⟨_, w2⟩ ⟨rfl, E2⟩
 try dsimp only at E2
 have zE2 := E2.size
 try simp only [qz] at zE2
 cases hu : under s.past (AG x.store)
 ·simp (disch := first | exact xD | fail) [-Option.bind_some, qs, -Aa, -Ab, qm, E1.Ah, E2.Ah]
  exact hQ _ (ok _ xE)
 by_cases h80 : st.AF.length + 4 ≤ 80
 ·have F2 : Ext w w2 := xE
  have zF2 := F2.size
  simp (disch := first | exact xD | fail) [-Option.bind_some, -Aa, -Ab, hw4, B0, show ¬ (80 : Int) < (st.AF.length : Int) + 4 by omega, E2.Ah]
  exact Ag.mono (RP (M := M) (i := i) (gs := g0) (b8 := w.heap.size + 1 + 1 + 1 + 1 + 1) (kind := kind) (num := num) (key := key) (text := text) (gone := gone) (S := S) (S1 := S1) (S2 := S2) (S3 := S3) (S4 := S4) (x := x) hl hxn.1 h2 hi (by omega) 4 0 _ w2 a3 _ c3 st s S2 S4 (by omega) xA xA xA xA xA ((E2.Ah (by omega)).trans B0) ((E2.Ah (by omega)).trans B1) ((E2.Ah (by omega)).trans B2) ((E2.Ah (by omega)).trans B5) (Pt.Ak hl' fun b hb => F2.Ah (hl' b hb)) (fun b h => ⟨.inl h, by have := hl' b (.inr (.inl h)); omega⟩) (fun b h => ⟨.inl h, by have := hl' b (.inr (.inr (.inr h))); omega⟩) (by omega) (fun b h => F2.Ah (hl' b (.inl h))) hs hf h80 (Mod.of F2 S)) hQ
 ·simp (disch := first | exact xD | fail) [-Option.bind_some, qs, -Aa, -Ab, qm, hw4, B0, show (80 : Int) < (st.AF.length : Int) + 4 by omega, E1.Ah, E2.Ah]
  exact hQ _ (ok _ xE)
end Go.Proofs.YtjhhommnkaemlaaGreat.X
namespace Go.Proofs.YtjhhommnkaemlaaGreat.X
open Go Go.Ev Go.RowKit
attribute [local irreducible] World.alloc World.setRow Go.Ev.dw
theorem Step.out {M g : Nat} {S : Nat → Prop} {w wB : World} {cs : List Value} {r : Value × World} (h : Step M (fun b => S b ∧ b < w.heap.size) wB cs r) (hE : Ext w wB) (hg : w.heap.size ≤ g) (hg2 : g < wB.heap.size) :
  ∃ u1 n1 c1 u2 n2 c2 u3 n3 c3 u4 n4 c4 ok, r.1 = .tuple #[.agg #[.slice u1 n1 c1, .slice u2 n2 c2, .slice u3 n3 c3, .slice u4 n4 c4], .bool ok] ∧ hp r.2 g = hp wB g ∧ Step M S w cs (.tuple #[.agg #[.slice u1 n1 c1, .slice u2 n2 c2, .slice u3 n3 c3, .slice u4 n4 c4], .bool ok], r.2.setRow g #[.slice u1 n1 c1, .slice u2 n2 c2, .slice u3 n3 c3, .slice u4 n4 c4]) := by
 obtain ⟨v, w3⟩ := r
 obtain ⟨cs', st', ok, h1, h2, h3, h4, h5⟩ := h
 dsimp only at h1 h4 h5 ⊢
 obtain ⟨u1, n1, c1, u2, n2, c2, u3, n3, c3, u4, n4, c4, rfl⟩ := h4.B6
 have zE := hE.size
 have zM := h5.size
 refine ⟨u1, n1, c1, u2, n2, c2, u3, n3, c3, u4, n4, c4, ok, h1, h5.Ah g hg2 (by omega), ⟨_, st', ok, rfl, h2, h3, (h4.Ak fun b hb hbl => Ad ?_).wide ?_, ?_⟩⟩
 ·rintro rfl
  simp only [In] at hb
  omega
 ·intro b hb hbl
  simp only [In, size_setRow] at hb hbl ⊢
  rcases hb with h | h
  ·exact .inl h.1
  ·exact .inr (by omega)
 ·exact (Mod.A8 (Mod.of hE S) h5 fun b hb h => h.1).AE (.inl hg) _
theorem O3 {M : Nat} {kind at' num key : Int} {text : ByteArray} {gone : Bool} {S : Nat → Prop} {cs : List Value} {st : WorldD} {w : World} (hf : BG M st) (hM : M ≤ 900000) (htx : text.size ≤ 1000) (ho : O tW S w cs st) :
  Ag (EV P 114 #[.agg cs.toArray, .agg #[i64 kind, i64 at', i64 num, i64 key, .string text, .bool gone]] w) (Step M S w cs) := by
 have ho0 := ho
 have ho := ho.lt
 obtain ⟨pa, pn, pc, sa, sn, sc, na, nn, nc, ha, hn, hc, rfl⟩ := ho.B6
 have hsn : sn = st.Az.length := by
  obtain ⟨_, _, _, _, _, _, _, _, e, _⟩ := D.world.1 ho.d
  simp only [List.cons.injEq, Value.slice.injEq] at e
  exact e.2.1.2.1
 subst hsn
 have ok : ∀ (w' : World), Ext w w' → Step M S w [.slice pa pn pc, .slice sa st.Az.length sc, .slice na nn nc, .slice ha hn hc] (.tuple #[.agg #[.slice pa pn pc, .slice sa st.Az.length sc, .slice na nn nc, .slice ha hn hc], .bool false], w') :=
  fun w' hE => Step.fail hf ho0 hE
 have sl4 := hf.2.2.1
 have hw1 : IntKind.i64.wrap ((st.Az.length : Int) - 1) = (st.Az.length : Int) - 1 := Ho (by omega) (by omega)
 refine Ag.post fun Q hQ => ?_
 refine Ag.enter plain mixed (JK _ _ _) (by kernel_rfl) (n := 2) (by kernel_rfl) rfl ?_
 simp (disch := first | exact xD | fail) [-Option.bind_some, qs, -Aa, -Ab, hw1]
 refine Ag.bind (AK _ _ _ _) ?_
 rintro _ rfl
 cases hat : (decide (0 ≤ at') && decide (at' ≤ (st.Az.length : Int) - 1))
 ·simp (disch := first | exact xD | fail) [-Option.bind_some, qs, -Aa, -Ab, qm]
  exact hQ _ (ok _ xE)
 have hat' := hat
 simp only [Bool.and_eq_true, decide_eq_true_eq] at hat'
 obtain ⟨i, rfl⟩ := Int.eq_ofNat_of_zero_le hat'.1
 have hi : i < st.Az.length := by omega
 obtain ⟨s, hs, _⟩ := Am hi
 obtain ⟨hs0, hs2, hsp, hsk0, hsk3⟩ := hf.2.2.2.1 s (List.mem_of_getElem? hs)
 cases hk1 : (kind == 1)
 case true =>
  simp (disch := first | exact xD | fail) [-Option.bind_some, qs, -Aa, -Ab, hk1]
  refine Ag.bind (PZ hf hM hi htx (ho.ext xE)) ?_
  rintro ⟨_, w3⟩ h3
  obtain ⟨u1, n1, c1, u2, n2, c2, u3, n3, c3, u4, n4, c4, q, rfl, hg, hS⟩ := h3.out (g := w.heap.size + 1 + 1) xE (by omega) xB
  have hg' := hg.trans (by first | assumption | rfl | (simp (disch := first | exact xD | fail) [-Option.bind_some, qs, -Aa, -Ab, qm, hg]; done))
  simp (disch := first | exact xD | fail) [-Option.bind_some, qs, -Aa, -Ab, qm, hg']
  exact hQ _ hS
 cases hk2 : (kind == 2)
 case true =>
  simp (disch := first | exact xD | fail) [-Option.bind_some, qs, -Aa, -Ab, hk1, hk2]
  refine Ag.bind (RN hf hM hi (ho.ext xE)) ?_
  rintro ⟨_, w3⟩ h3
  obtain ⟨u1, n1, c1, u2, n2, c2, u3, n3, c3, u4, n4, c4, q, rfl, hg, hS⟩ := h3.out (g := w.heap.size + 1 + 1) xE (by omega) xB
  have hg' := hg.trans (by first | assumption | rfl | (simp (disch := first | exact xD | fail) [-Option.bind_some, qs, -Aa, -Ab, qm, hg]; done))
  simp (disch := first | exact xD | fail) [-Option.bind_some, qs, -Aa, -Ab, qm, hg']
  exact hQ _ hS
 cases hk3 : (kind == 3)
 case true =>
  simp (disch := first | exact xD | fail) [-Option.bind_some, qs, -Aa, -Ab, hk1, hk2, hk3]
  refine Ag.bind (QG hf hM hi (ho.ext xE)) ?_
  rintro ⟨_, w3⟩ h3
  obtain ⟨u1, n1, c1, u2, n2, c2, u3, n3, c3, u4, n4, c4, q, rfl, hg, hS⟩ := h3.out (g := w.heap.size + 1 + 1) xE (by omega) xB
  have hg' := hg.trans (by first | assumption | rfl | (simp (disch := first | exact xD | fail) [-Option.bind_some, qs, -Aa, -Ab, qm, hg]; done))
  simp (disch := first | exact xD | fail) [-Option.bind_some, qs, -Aa, -Ab, qm, hg']
  exact hQ _ hS
 cases hk4 : (kind == 4)
 case true =>
  simp (disch := first | exact xD | fail) [-Option.bind_some, qs, -Aa, -Ab, hk1, hk2, hk3, hk4]
  refine Ag.bind (RQ hf hM hi (ho.ext xE)) ?_
  rintro ⟨_, w3⟩ h3
  obtain ⟨u1, n1, c1, u2, n2, c2, u3, n3, c3, u4, n4, c4, q, rfl, hg, hS⟩ := h3.out (g := w.heap.size + 1 + 1) xE (by omega) xB
  have hg' := hg.trans (by first | assumption | rfl | (simp (disch := first | exact xD | fail) [-Option.bind_some, qs, -Aa, -Ab, qm, hg]; done))
  simp (disch := first | exact xD | fail) [-Option.bind_some, qs, -Aa, -Ab, qm, hg']
  exact hQ _ hS
 obtain ⟨a', c', c1', a2', c2', a3', c3', gs, curs, ap, cp, Ss, hcs, hSgs, hgsl, hgs, hles, os, hSs, puts⟩ := O.EA ho hs
 simp only [List.cons.injEq, Value.slice.injEq, and_true, true_and] at hcs
 obtain ⟨⟨rfl, rfl, rfl⟩, ⟨rfl, rfl⟩, ⟨rfl, rfl, rfl⟩, rfl, rfl, rfl⟩ := hcs
 by_cases hwt : 0 < s.wait.t
 ·simp (disch := first | exact xD | fail) [-Option.bind_some, qs, -Aa, -Ab, qm, hk1, hk2, hk3, hk4, hgs, DM, hwt]
  exact hQ _ (ok _ xE)
 ·simp (disch := first | exact xD | fail) [-Option.bind_some, qs, -Aa, -Ab, qm, hk1, hk2, hk3, hk4, hgs, DM, hwt]
  refine Ag.bind (AK _ _ _ _) ?_
  rintro _ rfl
  cases hnm : (decide (0 ≤ num) && decide (num ≤ 2))
  ·simp (disch := first | exact xD | fail) [-Option.bind_some, qs, -Aa, -Ab, qm]
   exact hQ _ (ok _ xE)
  ·have hnm' := hnm
   simp only [Bool.and_eq_true, decide_eq_true_eq] at hnm'
   simp (disch := first | exact xD | fail) [-Option.bind_some, qs, -Aa, -Ab, qm, hgs, DM]
   generalize hW1 : World.setRow _ gs _ = W1
   have sW1 : W1.heap.size = w.heap.size + 1 + 1 + 1 := by rw [← hW1]; simp
   have kW1 : ∀ b, b ≠ gs → b < w.heap.size → hp W1 b = hp w b := fun b h1 h2 => by
    rw [← hW1]
    simp (disch := (first | omega | (simp only [World.size_alloc, size_setRow]; omega))) only [Ad, Ae]
   have G1 : hp W1 gs = some (.cells (Ba curs (i * 5) [i64 num, .slice ap s.past.length cp, i64 s.wait.t, i64 s.wait.p, i64 s.key]).toArray 129 (0, 0)) := by
    rw [← hW1]
    exact (by first | assumption | rfl | (simp (disch := first | exact xD | fail) [-Option.bind_some, qs, -Aa, -Ab, hgs]; done))
   have MW1 : Mod S w W1 := by
    rw [← hW1]
    exact Mod.AE xM (.inr hSgs.1) _
   have oW1 := (puts W1 _ ⟨num, s.past, s.wait, s.key⟩ Ss (O.Az.2 ⟨ap, cp, rfl, os.Ak fun b hb hbl => kW1 b (hSs b hb).2.1 hbl⟩) G1 (fun b hb _ hne' _ => kW1 b hne' hb) (fun b _ h => .inl h)).wide (S' := fun b => S b ∧ b < w.heap.size) (fun b h _ => by rcases h with h | h; exact h; exact (hSs b h).1)
   refine hQ _ ⟨_, _, true, rfl, by simp, ((hf.Az (i := i) (s := ⟨num, s.past, s.wait, s.key⟩) ⟨hnm'.1, hnm'.2, hsp, hsk0, hsk3⟩).up (by omega)), (oW1.Ak fun b hb hbl => Ad (by omega)).wide fun b h _ => .inl h.1, MW1.AE (.inl (by omega)) _⟩
end Go.Proofs.YtjhhommnkaemlaaGreat.X
namespace Go.Proofs.YtjhhommnkaemlaaGreat.X
open Go Go.Ev Go.RowKit
attribute [local irreducible] World.alloc World.setRow Go.Ev.dw
theorem PE {p : PlaceD} {ns' : List CNode} {a' a1 a2 : Option Addr} {c' c1 c2 : Nat} {S1 S2 S3 : Nat → Prop} {w w2 w3 : World} {clk : Int} {fell : Bool} (q2 : O AB S2 w [.slice a1 p.log.length c1] p.log) (q3 : O O9 S3 w [.slice a2 p.Bs.length c2] p.Bs)
  (k1 : ∀ b, S1 b → ¬ S2 b ∧ ¬ S3 b ∧ b < w.heap.size) (k2 : ∀ b, S2 b → ¬ S1 b ∧ ¬ S3 b ∧ b < w.heap.size) (k3 : ∀ b, S3 b → ¬ S1 b ∧ ¬ S2 b ∧ b < w.heap.size) (o1 : O AU (fun b => S1 b ∨ In w.heap.size w2.heap.size b) w2 [.slice a' ns'.length c'] ns') (M1 : Mod S1 w w2)
  (hk : ∀ b, (S1 b ∨ S2 b ∨ S3 b ∨ In w.heap.size w2.heap.size b) → b < w2.heap.size → hp w3 b = hp w2 b) :
  O Il (fun b => S1 b ∨ S2 b ∨ S3 b ∨ In w.heap.size w2.heap.size b) w3 [i64 p.me, i64 clk, .slice a' ns'.length c', .slice a1 p.log.length c1, .slice a2 p.Bs.length c2, .bool fell] { p with clock := clk, chain := ns', fell := fell } := by
 have zM1 := M1.size
 have ho := O.Eg (p := { p with clock := clk, chain := ns', fell := fell }) (w := w3) (S1 := fun b => S1 b ∨ In w.heap.size w2.heap.size b) (S2 := S2) (S3 := S3) (s := .slice a' ns'.length c') (t := .slice a1 p.log.length c1) (u := .slice a2 p.Bs.length c2)
  (o1.Ak fun b hb hbl => hk b (by rcases hb with h | h; exact .inl h; exact .inr (.inr (.inr h))) hbl)
  (q2.Ak fun b hb hbl => (hk b (.inr (.inl hb)) (by omega)).trans (M1.Ah b hbl (k2 b hb).1))
  (q3.Ak fun b hb hbl => (hk b (.inr (.inr (.inl hb))) (by omega)).trans (M1.Ah b hbl (k3 b hb).1))
  (fun b _ h h' => by rcases h with h | h; exact (k1 b h).1 h'; have := (k2 b h').2.2; simp only [In] at h; omega)
  (fun b _ h h' => by rcases h with h | h; exact (k1 b h).2.1 h'; have := (k3 b h').2.2; simp only [In] at h; omega)
  (fun b _ h h' => (k2 b h).2.1 h')
 refine ho.wide fun b hb _ => ?_
 rcases hb with (h | h) | h | h
 ·exact .inl h
 ·exact .inr (.inr (.inr h))
 ·exact .inr (.inl h)
 ·exact .inr (.inr (.inl h))
set_option maxHeartbeats 4000000 in
theorem P0 {M : Nat} {kind at' num key : Int} {text : ByteArray} {gone : Bool} {S : Nat → Prop} {cs : List Value} {st : WorldD} {w : World} (hf : BG M st) (hM : M ≤ 900000) (ho : O tW S w cs st) :
  Ag (EV P 115 #[.agg cs.toArray, .agg #[i64 kind, i64 at', i64 num, i64 key, .string text, .bool gone]] w) (Step M S w cs) := by
 have ho0 := ho
 have ho := ho.lt
 obtain ⟨pa, pn, pc, sa, sn, sc, na, nn, nc, ha, hn, hc, rfl⟩ := ho.B6
 have ok : ∀ (w' : World), Ext w w' → Step M S w [.slice pa pn pc, .slice sa sn sc, .slice na nn nc, .slice ha hn hc] (.tuple #[.agg #[.slice pa pn pc, .slice sa sn sc, .slice na nn nc, .slice ha hn hc], .bool false], w') :=
  fun w' hE => Step.fail hf ho0 hE
 refine Ag.post fun Q hQ => ?_
 refine Ag.enter plain mixed (Kq _ _ _) (by kernel_rfl) (n := 2) (by kernel_rfl) rfl ?_
 simp (disch := first | exact xD | fail) [-Option.bind_some, qs, -Aa, -Ab]
 refine Ag.bind (AK _ _ _ _) ?_
 rintro _ rfl
 cases hat : (decide (0 ≤ at') && decide (at' ≤ 2))
 ·simp (disch := first | exact xD | fail) [-Option.bind_some, qs, -Aa, -Ab, qm]
  exact hQ _ (ok _ xE)
 have hat' := hat
 simp only [Bool.and_eq_true, decide_eq_true_eq] at hat'
 obtain ⟨k, rfl⟩ := Int.eq_ofNat_of_zero_le hat'.1
 have hk3 : k < st.places.length := by rw [hf.1]; omega
 obtain ⟨p, hp', _⟩ := Am hk3
 have hpf := hf.2.1 p (List.mem_of_getElem? hp')
 obtain ⟨x, hx, _⟩ := Am (l := p.chain) (k := 0) (by have := hpf.1.1; omega)
 obtain ⟨c', a1', c1', a2', c2', a3', c3', gp, curp, dp, Sp, hcs, hSgp, hgpl, hgp, hlep, op, hSp, putp⟩ := O.F7 ho hp'
 simp only [List.cons.injEq, Value.slice.injEq, and_true] at hcs
 obtain ⟨⟨rfl, rfl, rfl⟩, ⟨rfl, rfl, rfl⟩, ⟨rfl, rfl, rfl⟩, rfl, rfl, rfl⟩ := hcs
 obtain ⟨ac, cc, al, cl, ag, cg, S1, S2, S3, rfl, q1, q2, q3, k1, k2, k3⟩ := O.Hj op
 have x0 := hpf.1.1
 have x4 := hpf.1.2.1
 have Ap := DF hgp (by simpa using hlep)
 have m0 := Ap 0 _ rfl
 have m1 := Ap 1 _ rfl
 have m2 := Ap 2 _ rfl
 have m3 := Ap 3 _ rfl
 have m4 := Ap 4 _ rfl
 have m5 := Ap 5 _ rfl
 simp only [Nat.add_zero] at m0 m1 m2 m3 m4 m5
 have nSp : ∀ b, w.heap.size ≤ b → ¬ Sp b := fun b h h' => by have := (hSp b h').2.2; omega
 have fin : ∀ (e' : Env) (W : World) (ds' : List Value) (p' : PlaceD) (S' : Nat → Prop) (q : Bool), e' 2 = pt w.heap.size 0 → e' 3 = pt (w.heap.size + 1) 0 → e' 4 = pt (w.heap.size + 1 + 1) 0 → e' 6 = pt (w.heap.size + 1 + 1 + 1) 0 → e' 7 = .bool q →
   hp W w.heap.size = some (.cells #[.slice (some ⟨gp, 0, none⟩) st.places.length pc, .slice sa st.Az.length sc, .slice na st.net.length nc, .slice ha st.AF.length hc] 77 (0, 0)) → hp W (w.heap.size + 1) = some (.cells #[i64 kind, i64 k, i64 num, i64 key, .string text, .bool gone] 137 (0, 0)) →
   hp W (w.heap.size + 1 + 1) = some (.cells #[.slice none 0 0, .slice none 0 0, .slice none 0 0, .slice none 0 0] 77 (0, 0)) → hp W (w.heap.size + 1 + 1 + 1) = some (.cells ds'.toArray 84 (0, 0)) →
   CV (M + 4) p' → O Il S' W ds' p' → (∀ b, S' b → Sp b ∨ w.heap.size + 4 ≤ b) → (∀ b, b < w.heap.size → ¬ Sp b → hp W b = hp w b) → Mod S w W → Ag (AR e' W) Q := by
  intro e' W ds' p' S' q e2 e3 e4 e6 e7 X2 X3 X4 X6 fp op' hS' hk MW
  have y6 := Aq X6
  have op'' := op'.d
  obtain ⟨ad, cd, ae, ce, af, cf, rfl, _, _, _⟩ := D.place.1 op''
  have G0 := (hk gp hgpl (fun h => (hSp gp h).2.1 rfl)).trans hgp
  rw [Ig]
  simp (disch := first | exact xD | fail) [-Option.bind_some, qs, -Aa, -Ab, qm, e2, e3, e4, e6, e7, X2, X3, X4, X6, G0, CF]
  generalize hW1 : World.setRow _ gp _ = W1
  have sW1 : W1.heap.size = W.heap.size := by rw [← hW1]; simp
  have kW1 : ∀ b, b ≠ gp → hp W1 b = hp W b := fun b h1 => by
   rw [← hW1]
   simp (disch := omega) only [Ad]
  have G1 : hp W1 gp = some (.cells (Ba curp (k * 6) [i64 p'.me, i64 p'.clock, .slice ad p'.chain.length cd, .slice ae p'.log.length ce, .slice af p'.Bs.length cf, .bool p'.fell]).toArray 84 (0, 0)) := by
   rw [← hW1]
   exact (by first | assumption | rfl | (simp (disch := first | exact xD | fail) [-Option.bind_some, -Aa, -Ab, G0]; done))
  have MW1 : Mod S w W1 := by
   rw [← hW1]
   exact MW.AE (.inr hSgp.1) _
  have oW1 := (putp W1 _ p' S' (op'.Ak fun b hb hbl => kW1 b (by rcases hS' b hb with h | h; exact (hSp b h).2.1; omega)) G1 (fun b hb _ hne hn => (kW1 b hne).trans (hk b hb hn)) (fun b _ h => by rcases hS' b h with h | h; exact .inl h; exact .inr (fun hh => by omega))).wide (S' := fun b => (S b ∧ b < w.heap.size) ∨ w.heap.size + 4 ≤ b) (fun b h _ => by rcases h with h | h; exact .inl h; rcases hS' b h with h | h; exact .inl (hSp b h).1; exact .inr h)
  refine hQ _ ⟨_, _, q, rfl, fun _ => rfl, (hf.place (i := k) (M' := M + 4) (by omega) fp).up (by omega), (oW1.Ak fun b hb hbl => Ad (by rcases hb with h | h <;> omega)).wide ?_, MW1.AE (.inl (by omega)) _⟩
  intro b hb hbl
  simp only [In, size_setRow] at hbl ⊢
  rcases hb with h | h
  ·exact .inl h.1
  ·exact .inr (by omega)
 have same : ∀ (e' : Env) (W : World) (q : Bool), e' 2 = pt w.heap.size 0 → e' 3 = pt (w.heap.size + 1) 0 → e' 4 = pt (w.heap.size + 1 + 1) 0 → e' 6 = pt (w.heap.size + 1 + 1 + 1) 0 → e' 7 = .bool q →
   hp W w.heap.size = some (.cells #[.slice (some ⟨gp, 0, none⟩) st.places.length pc, .slice sa st.Az.length sc, .slice na st.net.length nc, .slice ha st.AF.length hc] 77 (0, 0)) → hp W (w.heap.size + 1) = some (.cells #[i64 kind, i64 k, i64 num, i64 key, .string text, .bool gone] 137 (0, 0)) →
   hp W (w.heap.size + 1 + 1) = some (.cells #[.slice none 0 0, .slice none 0 0, .slice none 0 0, .slice none 0 0] 77 (0, 0)) → hp W (w.heap.size + 1 + 1 + 1) = some (.cells #[i64 p.me, i64 p.clock, .slice ac p.chain.length cc, .slice al p.log.length cl, .slice ag p.Bs.length cg, .bool p.fell] 84 (0, 0)) →
   Ext w W → Ag (AR e' W) Q := by
  intro e' W q e2 e3 e4 e6 e7 X2 X3 X4 X6 hE
  exact fin e' W _ p Sp q e2 e3 e4 e6 e7 X2 X3 X4 X6 (hpf.up (by omega)) (op.ext hE) (fun b h => .inl h) (fun b hb _ => hE.Ah hb) (Mod.of hE S)
 cases hk6 : (kind == 6)
 case true =>
  simp (disch := first | exact xD | fail) [-Option.bind_some, qs, -Aa, -Ab, qm, hk6, CF, m0, m1, m2, m3, m4, m5]
  refine Ag.bind (Ny (i := num) (by omega) (q1.d.ext xE)) ?_
  rintro ⟨_, w1⟩ ⟨rfl, E1⟩
  try dsimp only at E1
  have zE1 := E1.size
  try simp only [qz] at zE1
  have B0 : hp w1 w.heap.size = some (.cells #[.slice (some ⟨gp, 0, none⟩) st.places.length pc, .slice sa st.Az.length sc, .slice na st.net.length nc, .slice ha st.AF.length hc] 77 (0, 0)) := (E1.Ah xB).trans (by first | assumption | rfl | (simp (disch := first | exact xD | fail) [-Option.bind_some, qs, -Aa, -Ab]; done))
  have B1 : hp w1 (w.heap.size + 1) = some (.cells #[i64 kind, i64 k, i64 num, i64 key, .string text, .bool gone] 137 (0, 0)) := (E1.Ah xB).trans (by first | assumption | rfl | (simp (disch := first | exact xD | fail) [-Option.bind_some, qs, -Aa, -Ab]; done))
  have B2 : hp w1 (w.heap.size + 1 + 1) = some (.cells #[.slice none 0 0, .slice none 0 0, .slice none 0 0, .slice none 0 0] 77 (0, 0)) := (E1.Ah xB).trans (by first | assumption | rfl | (simp (disch := first | exact xD | fail) [-Option.bind_some, qs, -Aa, -Ab]; done))
  have B3 : hp w1 (w.heap.size + 1 + 1 + 1) = some (.cells #[i64 p.me, i64 p.clock, .slice ac p.chain.length cc, .slice al p.log.length cl, .slice ag p.Bs.length cg, .bool p.fell] 84 (0, 0)) := (E1.Ah xB).trans (by first | assumption | rfl | (simp (disch := first | exact xD | fail) [-Option.bind_some, qs, -Aa, -Ab]; done))
  have F1 : Ext w w1 := xE
  have zF1 := F1.size
  have kk1 : ∀ b, S1 b → ¬ S2 b ∧ ¬ S3 b ∧ b < w1.heap.size := fun b h => ⟨(k1 b h).2.1, (k1 b h).2.2.1, by have := (k1 b h).2.2.2; omega⟩
  have kk2 : ∀ b, S2 b → ¬ S1 b ∧ ¬ S3 b ∧ b < w1.heap.size := fun b h => ⟨(k2 b h).2.1, (k2 b h).2.2.1, by have := (k2 b h).2.2.2; omega⟩
  have kk3 : ∀ b, S3 b → ¬ S1 b ∧ ¬ S2 b ∧ b < w1.heap.size := fun b h => ⟨(k3 b h).2.1, (k3 b h).2.2.1, by have := (k3 b h).2.2.2; omega⟩
  have toSp : ∀ b, S1 b ∨ S2 b ∨ S3 b → Sp b := by
   rintro b (h | h | h)
   ·exact (k1 b h).1
   ·exact (k2 b h).1
   ·exact (k3 b h).1
  cases hcp : Fv p.chain num
  ·simp (disch := first | exact xD | fail) [-Option.bind_some, -Aa, -Ab]
   exact same _ _ false xA xA xA xA xA (by first | assumption | rfl | (simp (disch := first | exact xD | fail) [-Option.bind_some, qs, -Aa, -Ab, qm, B0, m0, m1, m2, m3, m4, m5, E1.Ah]; done)) (by first | assumption | rfl | (simp (disch := first | exact xD | fail) [-Option.bind_some, qs, -Aa, -Ab, qm, B1, m0, m1, m2, m3, m4, m5, E1.Ah]; done)) (by first | assumption | rfl | (simp (disch := first | exact xD | fail) [-Option.bind_some, qs, -Aa, -Ab, qm, B2, m0, m1, m2, m3, m4, m5, E1.Ah]; done)) (by first | assumption | rfl | (simp (disch := first | exact xD | fail) [-Option.bind_some, qs, -Aa, -Ab, qm, B3, m0, m1, m2, m3, m4, m5, E1.Ah]; done)) F1
  obtain ⟨kn, nx, ny, v, lv, rfl, hkn, hxn, hyn, hnw, hy6⟩ := Mt hcp
  have fx := hpf.1.2.2 nx (List.mem_of_getElem? hxn)
  have fy := hpf.1.2.2 ny (List.mem_of_getElem? hyn)
  have hvK : Mw v := fx.2.2.2 v (by rw [hnw]; exact List.mem_cons_self)
  have hI' := P6 hpf.1 hxn hyn hnw hy6
  have hal : (Gh p.chain kn).length = p.chain.length := by rw [JP hxn hnw, I5, List.length_set]
  simp (disch := first | exact xD | fail) [-Option.bind_some, -Aa, -Ab, B1, B3]
  refine Ag.bind (Mu (by omega) ⟨hvK.1, hvK.2.1⟩ fy.1 hxn hyn hnw hy6 (q1.ext F1)) ?_
  rintro ⟨_, w2⟩ ⟨rfl, o2, M2⟩
  try dsimp only at o2 M2
  have zM2 := M2.size
  try simp only [qz] at zM2
  have o2 : O AU (fun b => S1 b ∨ In w1.heap.size w2.heap.size b) w2 [.slice ac (Gh p.chain kn).length cc] (Gh p.chain kn) := by rw [hal]; exact o2
  have K2 : ∀ b, b < w1.heap.size → ¬ Sp b → hp w2 b = hp w1 b := fun b hb h => M2.Ah b hb (fun h' => h (k1 b h').1)
  have C0 := (K2 w.heap.size (by omega) (nSp _ (by omega))).trans B0
  have C1 := (K2 (w.heap.size + 1) (by omega) (nSp _ (by omega))).trans B1
  have C2 := (K2 (w.heap.size + 1 + 1) (by omega) (nSp _ (by omega))).trans B2
  have C3 := (K2 (w.heap.size + 1 + 1 + 1) (by omega) (nSp _ (by omega))).trans B3
  have bx2 : ∀ b, (S1 b ∨ S2 b ∨ S3 b ∨ In w1.heap.size w2.heap.size b) → Sp b ∨ w.heap.size + 4 ≤ b := by
   rintro b (h | h | h | h)
   ·exact .inl (k1 b h).1
   ·exact .inl (k2 b h).1
   ·exact .inl (k3 b h).1
   ·simp only [In] at h; exact .inr (by omega)
  have nbx : ∀ b, (Sp b ∨ w.heap.size + 4 ≤ b) → b ≠ w.heap.size + 1 + 1 + 1 := by
   rintro b (h | h)
   ·have := (hSp b h).2.2; omega
   ·omega
  have MW2 : Mod S w w2 := Mod.A8 (Mod.of F1 S) M2 (fun b hb h => (hSp b (k1 b h).1).1.1)
  rw [← hal]
  simp (disch := first | exact xD | fail) [-Option.bind_some, -Aa, -Ab, qm, C3]
  generalize hW2 : World.setRow _ (w.heap.size + 1 + 1 + 1) _ = W2
  have sW2 : W2.heap.size = w2.heap.size := by rw [← hW2]; simp
  have kW2 : ∀ b, b ≠ w.heap.size + 1 + 1 + 1 → hp W2 b = hp w2 b := fun b h1 => by
   rw [← hW2]
   simp (disch := omega) only [Ad]
  have MWb : Mod S w W2 := by
   rw [← hW2]
   first | exact MW2.AE (.inl (by omega)) _ | exact (MW2.AE (.inl (by omega)) _).AE (.inl (by omega)) _
  have D3 : hp W2 (w.heap.size + 1 + 1 + 1) = some (.cells #[i64 p.me, i64 p.clock, .slice ac (Gh p.chain kn).length cc, .slice al p.log.length cl, .slice ag p.Bs.length cg, .bool p.fell] 84 (0, 0)) := by
   rw [← hW2]
   exact (by first | assumption | rfl | (simp (disch := first | exact xD | fail) [-Option.bind_some, -Aa, -Ab, C3]; done))
  have oP := PE (p := p) (clk := p.clock) (fell := p.fell) (w3 := W2) (q2.ext F1) (q3.ext F1) kk1 kk2 kk3 o2 M2 (fun b hb hbl => kW2 b (nbx b (bx2 b hb)))
  refine Ag.bind (Lr (M := M) (p := { p with clock := p.clock, chain := (Gh p.chain kn), fell := p.fell }) ⟨hI', hpf.2⟩ (by omega) oP) ?_
  rintro ⟨_, w3⟩ ⟨ds3, p3, rfl, f3, o3, M3⟩
  have zM3 := M3.size
  try simp only [] at zM3
  try dsimp only at o3 M3
  have zM3 := M3.size
  have L0 := (M3.Ah w.heap.size (by omega) (fun h => by rcases bx2 _ h with h | h; exact nSp _ (Nat.le_refl _) h; omega)).trans ((kW2 _ (by omega)).trans C0)
  have L1 := (M3.Ah (w.heap.size + 1) (by omega) (fun h => by rcases bx2 _ h with h | h; exact nSp _ (by omega) h; omega)).trans ((kW2 _ (by omega)).trans C1)
  have L2 := (M3.Ah (w.heap.size + 1 + 1) (by omega) (fun h => by rcases bx2 _ h with h | h; exact nSp _ (by omega) h; omega)).trans ((kW2 _ (by omega)).trans C2)
  have L3 := (M3.Ah (w.heap.size + 1 + 1 + 1) (by omega) (fun h => by rcases bx2 _ h with h | h; exact nSp _ (by omega) h; omega)).trans D3
  have o3' := o3.d
  obtain ⟨ad, cd, ae, ce, af, cf, rfl, _, _, _⟩ := D.place.1 o3'
  simp (disch := first | exact xD | fail) [-Option.bind_some, -Aa, -Ab, qm, L3]
  refine fin _ _ _ p3 _ true xA xA xA xA xA ((Ad (by omega)).trans L0) ((Ad (by omega)).trans L1) ((Ad (by omega)).trans L2) (by first | assumption | rfl | (simp (disch := first | exact xD | fail) [-Option.bind_some, -Aa, -Ab, L3]; done)) f3 (o3.Ak fun b hb hbl => Ad ?_) ?_ ?_ ?_
  ·rcases hb with h | h
   ·exact nbx b (bx2 b h)
   ·simp only [In] at h; omega
  ·intro b hb
   rcases hb with h | h
   ·exact bx2 b h
   ·simp only [In] at h; exact .inr (by omega)
  ·intro b hb hn
   exact (Ad (by omega)).trans ((M3.Ah b (by omega) (fun h => by rcases bx2 b h with h | h; exact hn h; omega)).trans ((kW2 b (by omega)).trans ((K2 b (by omega) hn).trans (F1.Ah hb))))
  ·exact (Mod.A8 MWb M3 fun b hb h => by rcases bx2 b h with h | h; exact (hSp b h).1.1; omega).AE (.inl (by omega)) _
 cases hk7 : (kind == 7)
 case true =>
  simp (disch := first | exact xD | fail) [-Option.bind_some, qs, -Aa, -Ab, qm, hk6, hk7, CF, m0, m1, m2, m3, m4, m5]
  refine Ag.bind (Oq (n := num) hpf (op.d.ext xE)) ?_
  rintro ⟨_, w1⟩ ⟨q, rfl, hq, E1⟩
  try dsimp only at q hq E1
  have zE1 := E1.size
  try simp only [qz] at zE1
  have B0 : hp w1 w.heap.size = some (.cells #[.slice (some ⟨gp, 0, none⟩) st.places.length pc, .slice sa st.Az.length sc, .slice na st.net.length nc, .slice ha st.AF.length hc] 77 (0, 0)) := (E1.Ah xB).trans (by first | assumption | rfl | (simp (disch := first | exact xD | fail) [-Option.bind_some, qs, -Aa, -Ab]; done))
  have B1 : hp w1 (w.heap.size + 1) = some (.cells #[i64 kind, i64 k, i64 num, i64 key, .string text, .bool gone] 137 (0, 0)) := (E1.Ah xB).trans (by first | assumption | rfl | (simp (disch := first | exact xD | fail) [-Option.bind_some, qs, -Aa, -Ab]; done))
  have B2 : hp w1 (w.heap.size + 1 + 1) = some (.cells #[.slice none 0 0, .slice none 0 0, .slice none 0 0, .slice none 0 0] 77 (0, 0)) := (E1.Ah xB).trans (by first | assumption | rfl | (simp (disch := first | exact xD | fail) [-Option.bind_some, qs, -Aa, -Ab]; done))
  have B3 : hp w1 (w.heap.size + 1 + 1 + 1) = some (.cells #[i64 p.me, i64 p.clock, .slice ac p.chain.length cc, .slice al p.log.length cl, .slice ag p.Bs.length cg, .bool p.fell] 84 (0, 0)) := (E1.Ah xB).trans (by first | assumption | rfl | (simp (disch := first | exact xD | fail) [-Option.bind_some, qs, -Aa, -Ab]; done))
  have F1 : Ext w w1 := xE
  have zF1 := F1.size
  have kk1 : ∀ b, S1 b → ¬ S2 b ∧ ¬ S3 b ∧ b < w1.heap.size := fun b h => ⟨(k1 b h).2.1, (k1 b h).2.2.1, by have := (k1 b h).2.2.2; omega⟩
  have kk2 : ∀ b, S2 b → ¬ S1 b ∧ ¬ S3 b ∧ b < w1.heap.size := fun b h => ⟨(k2 b h).2.1, (k2 b h).2.2.1, by have := (k2 b h).2.2.2; omega⟩
  have kk3 : ∀ b, S3 b → ¬ S1 b ∧ ¬ S2 b ∧ b < w1.heap.size := fun b h => ⟨(k3 b h).2.1, (k3 b h).2.2.1, by have := (k3 b h).2.2.2; omega⟩
  have toSp : ∀ b, S1 b ∨ S2 b ∨ S3 b → Sp b := by
   rintro b (h | h | h)
   ·exact (k1 b h).1
   ·exact (k2 b h).1
   ·exact (k3 b h).1
  cases q
  ·simp (disch := first | exact xD | fail) [-Option.bind_some, -Aa, -Ab]
   exact same _ _ false xA xA xA xA xA (by first | assumption | rfl | (simp (disch := first | exact xD | fail) [-Option.bind_some, qs, -Aa, -Ab, qm, B0, m0, m1, m2, m3, m4, m5, E1.Ah]; done)) (by first | assumption | rfl | (simp (disch := first | exact xD | fail) [-Option.bind_some, qs, -Aa, -Ab, qm, B1, m0, m1, m2, m3, m4, m5, E1.Ah]; done)) (by first | assumption | rfl | (simp (disch := first | exact xD | fail) [-Option.bind_some, qs, -Aa, -Ab, qm, B2, m0, m1, m2, m3, m4, m5, E1.Ah]; done)) (by first | assumption | rfl | (simp (disch := first | exact xD | fail) [-Option.bind_some, qs, -Aa, -Ab, qm, B3, m0, m1, m2, m3, m4, m5, E1.Ah]; done)) F1
  obtain ⟨hc1, hn0, hnl⟩ := hq rfl
  obtain ⟨kn, rfl⟩ := Int.eq_ofNat_of_zero_le hn0
  simp (disch := first | exact xD | fail) [-Option.bind_some, -Aa, -Ab, B1, B3]
  refine Ag.bind (My (k := kn) hc1 (by omega) (by omega) hpf.1.2.2 (q1.ext F1)) ?_
  rintro ⟨_, w2⟩ ⟨ms', a8, c8, rfl, o2, hml, hmf, M2⟩
  try dsimp only at ms' a8 c8 o2 hml hmf M2
  have zM2 := M2.size
  try simp only [qz] at zM2
  have hI' : Lp ms' := ⟨by omega, by omega, hmf⟩
  have K2 : ∀ b, b < w1.heap.size → ¬ Sp b → hp w2 b = hp w1 b := fun b hb h => M2.Ah b hb (fun h' => h (k1 b h').1)
  have C0 := (K2 w.heap.size (by omega) (nSp _ (by omega))).trans B0
  have C1 := (K2 (w.heap.size + 1) (by omega) (nSp _ (by omega))).trans B1
  have C2 := (K2 (w.heap.size + 1 + 1) (by omega) (nSp _ (by omega))).trans B2
  have C3 := (K2 (w.heap.size + 1 + 1 + 1) (by omega) (nSp _ (by omega))).trans B3
  have bx2 : ∀ b, (S1 b ∨ S2 b ∨ S3 b ∨ In w1.heap.size w2.heap.size b) → Sp b ∨ w.heap.size + 4 ≤ b := by
   rintro b (h | h | h | h)
   ·exact .inl (k1 b h).1
   ·exact .inl (k2 b h).1
   ·exact .inl (k3 b h).1
   ·simp only [In] at h; exact .inr (by omega)
  have nbx : ∀ b, (Sp b ∨ w.heap.size + 4 ≤ b) → b ≠ w.heap.size + 1 + 1 + 1 := by
   rintro b (h | h)
   ·have := (hSp b h).2.2; omega
   ·omega
  have MW2 : Mod S w w2 := Mod.A8 (Mod.of F1 S) M2 (fun b hb h => (hSp b (k1 b h).1).1.1)
  simp (disch := first | exact xD | fail) [-Option.bind_some, -Aa, -Ab, qm, C3]
  generalize hW2 : World.setRow _ (w.heap.size + 1 + 1 + 1) _ = W2
  have sW2 : W2.heap.size = w2.heap.size := by rw [← hW2]; simp
  have kW2 : ∀ b, b ≠ w.heap.size + 1 + 1 + 1 → hp W2 b = hp w2 b := fun b h1 => by
   rw [← hW2]
   simp (disch := omega) only [Ad]
  have MWb : Mod S w W2 := by
   rw [← hW2]
   first | exact MW2.AE (.inl (by omega)) _ | exact (MW2.AE (.inl (by omega)) _).AE (.inl (by omega)) _
  have D3 : hp W2 (w.heap.size + 1 + 1 + 1) = some (.cells #[i64 p.me, i64 p.clock, .slice a8 ms'.length c8, .slice al p.log.length cl, .slice ag p.Bs.length cg, .bool true] 84 (0, 0)) := by
   rw [← hW2]
   exact (by first | assumption | rfl | (simp (disch := first | exact xD | fail) [-Option.bind_some, -Aa, -Ab, C3]; done))
  have oP := PE (p := p) (clk := p.clock) (fell := true) (w3 := W2) (q2.ext F1) (q3.ext F1) kk1 kk2 kk3 o2 M2 (fun b hb hbl => kW2 b (nbx b (bx2 b hb)))
  refine Ag.bind (Lr (M := M) (p := { p with clock := p.clock, chain := ms', fell := true }) ⟨hI', hpf.2⟩ (by omega) oP) ?_
  rintro ⟨_, w3⟩ ⟨ds3, p3, rfl, f3, o3, M3⟩
  have zM3 := M3.size
  try simp only [] at zM3
  try dsimp only at o3 M3
  have zM3 := M3.size
  have L0 := (M3.Ah w.heap.size (by omega) (fun h => by rcases bx2 _ h with h | h; exact nSp _ (Nat.le_refl _) h; omega)).trans ((kW2 _ (by omega)).trans C0)
  have L1 := (M3.Ah (w.heap.size + 1) (by omega) (fun h => by rcases bx2 _ h with h | h; exact nSp _ (by omega) h; omega)).trans ((kW2 _ (by omega)).trans C1)
  have L2 := (M3.Ah (w.heap.size + 1 + 1) (by omega) (fun h => by rcases bx2 _ h with h | h; exact nSp _ (by omega) h; omega)).trans ((kW2 _ (by omega)).trans C2)
  have L3 := (M3.Ah (w.heap.size + 1 + 1 + 1) (by omega) (fun h => by rcases bx2 _ h with h | h; exact nSp _ (by omega) h; omega)).trans D3
  have o3' := o3.d
  obtain ⟨ad, cd, ae, ce, af, cf, rfl, _, _, _⟩ := D.place.1 o3'
  simp (disch := first | exact xD | fail) [-Option.bind_some, -Aa, -Ab, qm, L3]
  refine fin _ _ _ p3 _ true xA xA xA xA xA ((Ad (by omega)).trans L0) ((Ad (by omega)).trans L1) ((Ad (by omega)).trans L2) (by first | assumption | rfl | (simp (disch := first | exact xD | fail) [-Option.bind_some, -Aa, -Ab, L3]; done)) f3 (o3.Ak fun b hb hbl => Ad ?_) ?_ ?_ ?_
  ·rcases hb with h | h
   ·exact nbx b (bx2 b h)
   ·simp only [In] at h; omega
  ·intro b hb
   rcases hb with h | h
   ·exact bx2 b h
   ·simp only [In] at h; exact .inr (by omega)
  ·intro b hb hn
   exact (Ad (by omega)).trans ((M3.Ah b (by omega) (fun h => by rcases bx2 b h with h | h; exact hn h; omega)).trans ((kW2 b (by omega)).trans ((K2 b (by omega) hn).trans (F1.Ah hb))))
  ·exact (Mod.A8 MWb M3 fun b hb h => by rcases bx2 b h with h | h; exact (hSp b h).1.1; omega).AE (.inl (by omega)) _
 cases hk8 : (kind == 8)
 case true =>
  by_cases h4 : p.chain.length < 4
  ·simp (disch := first | exact xD | fail) [-Option.bind_some, qs, -Aa, -Ab, qm, hk6, hk7, hk8, CF, show (p.chain.length : Int) < 4 by omega, m0, m1, m2, m3, m4, m5]
   refine Ag.bind (MN x0 h4 (q1.ext xE)) ?_
   rintro ⟨_, w2⟩ ⟨a8, c8, rfl, o2, M2⟩
   try dsimp only at a8 c8 o2 M2
   have zM2 := M2.size
   try simp only [qz] at zM2
   have hI' := P7 hpf.1 h4
   have nS1 : ∀ b, w.heap.size ≤ b → ¬ S1 b := fun b h h' => nSp b h (k1 b h').1
   simp only [World.size_alloc, size_setRow] at o2
   have C0 : hp w2 w.heap.size = some (.cells #[.slice (some ⟨gp, 0, none⟩) st.places.length pc, .slice sa st.Az.length sc, .slice na st.net.length nc, .slice ha st.AF.length hc] 77 (0, 0)) := (M2.Ah _ xB (nS1 _ (by omega))).trans (by first | assumption | rfl | (simp (disch := first | exact xD | fail) [-Option.bind_some, qs, -Aa, -Ab]; done))
   have C1 : hp w2 (w.heap.size + 1) = some (.cells #[i64 kind, i64 k, i64 num, i64 key, .string text, .bool gone] 137 (0, 0)) := (M2.Ah _ xB (nS1 _ (by omega))).trans (by first | assumption | rfl | (simp (disch := first | exact xD | fail) [-Option.bind_some, qs, -Aa, -Ab]; done))
   have C2 : hp w2 (w.heap.size + 1 + 1) = some (.cells #[.slice none 0 0, .slice none 0 0, .slice none 0 0, .slice none 0 0] 77 (0, 0)) := (M2.Ah _ xB (nS1 _ (by omega))).trans (by first | assumption | rfl | (simp (disch := first | exact xD | fail) [-Option.bind_some, qs, -Aa, -Ab]; done))
   have C3 : hp w2 (w.heap.size + 1 + 1 + 1) = some (.cells #[i64 p.me, i64 p.clock, .slice ac p.chain.length cc, .slice al p.log.length cl, .slice ag p.Bs.length cg, .bool p.fell] 84 (0, 0)) := (M2.Ah _ xB (nS1 _ (by omega))).trans (by first | assumption | rfl | (simp (disch := first | exact xD | fail) [-Option.bind_some, qs, -Aa, -Ab]; done))
   have K2 : ∀ b, b < w.heap.size → ¬ S1 b → hp w2 b = hp w b := fun b hb h => (M2.Ah b xB h).trans (by simp (disch := (first | omega | (simp only [World.size_alloc, size_setRow]; omega))) only [Ad, Ae])
   have MS : Mod S w w2 := Mod.A8 xM M2 (fun b hb h => (hSp b (k1 b h).1).1.1)
   simp (disch := first | exact xD | fail) [-Option.bind_some, -Aa, -Ab, qm, C3]
   generalize hW2 : World.setRow _ (w.heap.size + 1 + 1 + 1) _ = W2
   have sW2 : W2.heap.size = w2.heap.size := by rw [← hW2]; simp
   have kW2 : ∀ b, b ≠ w.heap.size + 1 + 1 + 1 → hp W2 b = hp w2 b := fun b h1 => by
    rw [← hW2]
    simp (disch := omega) only [Ad]
   have MWb : Mod S w W2 := by
    rw [← hW2]
    exact MS.AE (.inl (by omega)) _
   have D3 : hp W2 (w.heap.size + 1 + 1 + 1) = some (.cells #[i64 p.me, i64 p.clock, .slice a8 (Ek p.chain).length c8, .slice al p.log.length cl, .slice ag p.Bs.length cg, .bool p.fell] 84 (0, 0)) := by
    rw [← hW2]
    exact (by first | assumption | rfl | (simp (disch := first | exact xD | fail) [-Option.bind_some, -Aa, -Ab, C3]; done))
   have oP := O.Eg (p := { p with chain := Ek p.chain }) (w := W2) (S1 := fun b => S1 b ∨ w.heap.size + 4 ≤ b) (S2 := S2) (S3 := S3) ((o2.Ak fun b hb hbl => kW2 b (by rcases hb with h | h; have := (k1 b h).2.2.2; omega; simp only [In] at h; omega)).wide fun b hb _ => by rcases hb with h | h; exact .inl h; simp only [In] at h; exact .inr (by omega))
    (q2.Ak fun b hb hbl => (kW2 b (by omega)).trans (K2 b hbl (k2 b hb).2.1)) (q3.Ak fun b hb hbl => (kW2 b (by omega)).trans (K2 b hbl (k3 b hb).2.1))
    (fun b _ h h' => by rcases h with h | h; exact (k1 b h).2.1 h'; have := (k2 b h').2.2.2; omega) (fun b _ h h' => by rcases h with h | h; exact (k1 b h).2.2.1 h'; have := (k3 b h').2.2.2; omega) (fun b _ h h' => (k2 b h).2.2.1 h')
   refine fin _ _ _ { p with chain := Ek p.chain } _ true xA xA xA xA xA ((kW2 _ (by omega)).trans C0) ((kW2 _ (by omega)).trans C1) ((kW2 _ (by omega)).trans C2) D3 ⟨hI', by have := hpf.2.1; show p.log.length ≤ M + 4; omega, hpf.2.2⟩ oP ?_ (fun b hb hn => (kW2 b (by omega)).trans (K2 b hb (fun h => hn (k1 b h).1))) MWb
   rintro b ((h | h) | h | h)
   ·exact .inl (k1 b h).1
   ·exact .inr h
   ·exact .inl (k2 b h).1
   ·exact .inl (k3 b h).1
  ·simp (disch := first | exact xD | fail) [-Option.bind_some, qs, -Aa, -Ab, qm, hk6, hk7, hk8, CF, show ¬ (p.chain.length : Int) < 4 by omega, m0, m1, m2, m3, m4, m5]
   exact same _ _ false xA xA xA xA xA (by first | assumption | rfl | (simp (disch := first | exact xD | fail) [-Option.bind_some, qs, -Aa, -Ab]; done)) (by first | assumption | rfl | (simp (disch := first | exact xD | fail) [-Option.bind_some, qs, -Aa, -Ab]; done)) (by first | assumption | rfl | (simp (disch := first | exact xD | fail) [-Option.bind_some, qs, -Aa, -Ab]; done)) (by first | assumption | rfl | (simp (disch := first | exact xD | fail) [-Option.bind_some, qs, -Aa, -Ab]; done)) xE
 simp (disch := first | exact xD | fail) [-Option.bind_some, qs, -Aa, -Ab, qm, hk6, hk7, hk8, CF, m0, m1, m2, m3, m4, m5]
 refine Ag.bind (AK _ _ _ _) ?_
 rintro _ rfl
 cases hnm : (decide (0 ≤ num) && decide (num ≤ 2))
 ·simp (disch := first | exact xD | fail) [-Option.bind_some, qs, -Aa, -Ab]
  exact same _ _ false xA xA xA xA xA (by first | assumption | rfl | (simp (disch := first | exact xD | fail) [-Option.bind_some, qs, -Aa, -Ab]; done)) (by first | assumption | rfl | (simp (disch := first | exact xD | fail) [-Option.bind_some, qs, -Aa, -Ab]; done)) (by first | assumption | rfl | (simp (disch := first | exact xD | fail) [-Option.bind_some, qs, -Aa, -Ab]; done)) (by first | assumption | rfl | (simp (disch := first | exact xD | fail) [-Option.bind_some, qs, -Aa, -Ab]; done)) xE
 have hnm' := hnm
 simp only [Bool.and_eq_true, decide_eq_true_eq] at hnm'
 obtain ⟨nn', rfl⟩ := Int.eq_ofNat_of_zero_le hnm'.1
 simp (disch := first | exact xD | fail) [-Option.bind_some, qs, -Aa, -Ab]
 refine Ag.bind (Oo (i := nn') hpf (by omega) hx (op.d.ext xE)) ?_
 rintro ⟨_, w1⟩ ⟨q, rfl, hq, E1⟩
 try dsimp only at q hq E1
 have zE1 := E1.size
 try simp only [qz] at zE1
 have B0 : hp w1 w.heap.size = some (.cells #[.slice (some ⟨gp, 0, none⟩) st.places.length pc, .slice sa st.Az.length sc, .slice na st.net.length nc, .slice ha st.AF.length hc] 77 (0, 0)) := (E1.Ah xB).trans (by first | assumption | rfl | (simp (disch := first | exact xD | fail) [-Option.bind_some, qs, -Aa, -Ab]; done))
 have B1 : hp w1 (w.heap.size + 1) = some (.cells #[i64 kind, i64 k, i64 nn', i64 key, .string text, .bool gone] 137 (0, 0)) := (E1.Ah xB).trans (by first | assumption | rfl | (simp (disch := first | exact xD | fail) [-Option.bind_some, qs, -Aa, -Ab]; done))
 have B2 : hp w1 (w.heap.size + 1 + 1) = some (.cells #[.slice none 0 0, .slice none 0 0, .slice none 0 0, .slice none 0 0] 77 (0, 0)) := (E1.Ah xB).trans (by first | assumption | rfl | (simp (disch := first | exact xD | fail) [-Option.bind_some, qs, -Aa, -Ab]; done))
 have B3 : hp w1 (w.heap.size + 1 + 1 + 1) = some (.cells #[i64 p.me, i64 p.clock, .slice ac p.chain.length cc, .slice al p.log.length cl, .slice ag p.Bs.length cg, .bool p.fell] 84 (0, 0)) := (E1.Ah xB).trans (by first | assumption | rfl | (simp (disch := first | exact xD | fail) [-Option.bind_some, qs, -Aa, -Ab]; done))
 have F1 : Ext w w1 := xE
 have zF1 := F1.size
 cases q
 ·simp (disch := first | exact xD | fail) [-Option.bind_some, -Aa, -Ab]
  exact same _ _ false xA xA xA xA xA (by first | assumption | rfl | (simp (disch := first | exact xD | fail) [-Option.bind_some, qs, -Aa, -Ab, qm, B0, m0, m1, m2, m3, m4, m5, E1.Ah]; done)) (by first | assumption | rfl | (simp (disch := first | exact xD | fail) [-Option.bind_some, qs, -Aa, -Ab, qm, B1, m0, m1, m2, m3, m4, m5, E1.Ah]; done)) (by first | assumption | rfl | (simp (disch := first | exact xD | fail) [-Option.bind_some, qs, -Aa, -Ab, qm, B2, m0, m1, m2, m3, m4, m5, E1.Ah]; done)) (by first | assumption | rfl | (simp (disch := first | exact xD | fail) [-Option.bind_some, qs, -Aa, -Ab, qm, B3, m0, m1, m2, m3, m4, m5, E1.Ah]; done)) F1
 obtain ⟨hlk, h6⟩ := hq rfl
 simp (disch := first | exact xD | fail) [-Option.bind_some, -Aa, -Ab, B1, B3]
 refine Ag.bind (QP (M := M) (i := nn') hpf (by omega) (by omega) hx h6 hlk (op.ext F1)) ?_
 rintro ⟨_, w2⟩ ⟨ds3, p3, rfl, f3, o3, M2⟩
 try dsimp only at ds3 p3 f3 o3 M2
 have zM2 := M2.size
 try simp only [qz] at zM2
 have K2 : ∀ b, b < w1.heap.size → ¬ Sp b → hp w2 b = hp w1 b := fun b hb h => M2.Ah b hb h
 have C0 := (K2 w.heap.size (by omega) (nSp _ (by omega))).trans B0
 have C1 := (K2 (w.heap.size + 1) (by omega) (nSp _ (by omega))).trans B1
 have C2 := (K2 (w.heap.size + 1 + 1) (by omega) (nSp _ (by omega))).trans B2
 have C3 := (K2 (w.heap.size + 1 + 1 + 1) (by omega) (nSp _ (by omega))).trans B3
 have MS : Mod S w w2 := Mod.A8 (Mod.of F1 S) M2 (fun b hb h => (hSp b h).1.1)
 have o3' := o3.d
 obtain ⟨ad, cd, ae, ce, af, cf, rfl, _, _, _⟩ := D.place.1 o3'
 simp (disch := first | exact xD | fail) [-Option.bind_some, -Aa, -Ab, qm, C3]
 refine fin _ _ _ p3 _ true xA xA xA xA xA ((Ad (by omega)).trans C0) ((Ad (by omega)).trans C1) ((Ad (by omega)).trans C2) (by first | assumption | rfl | (simp (disch := first | exact xD | fail) [-Option.bind_some, -Aa, -Ab, C3]; done)) f3 (o3.Ak fun b hb hbl => Ad ?_) ?_ (fun b hb hn => (Ad (by omega)).trans ((K2 b (by omega) hn).trans (F1.Ah hb))) (MS.AE (.inl (by omega)) _)
 ·rcases hb with h | h
  ·have := (hSp b h).2.2; omega
  ·simp only [In] at h; omega
 ·intro b hb
  rcases hb with h | h
  ·exact .inl h
  ·simp only [In] at h; exact .inr (by omega)
end Go.Proofs.YtjhhommnkaemlaaGreat.X
namespace Go.Proofs.YtjhhommnkaemlaaGreat.X
open Go Go.Ev Go.RowKit
attribute [local irreducible] World.alloc World.setRow Go.Ev.dw
theorem Od {M M' : Nat} {S T : Nat → Prop} {cs0 cs1 : List Value} {st1 : WorldD} {e : Env} {w W : World} (hf : BG M' st1) (hM' : M' ≤ M + 16)
  (ho : O tW T W cs1 st1) (hT : ∀ b, T b → (S b ∧ b < w.heap.size) ∨ w.heap.size + 3 ≤ b) (hMod : Mod S w W)
  (e2 : e 2 = pt w.heap.size 0) (e4 : e 4 = pt (w.heap.size + 1 + 1) 0) (X2 : hp W w.heap.size = some (.cells cs1.toArray 77 (0, 0)))
  (X4 : hp W (w.heap.size + 1 + 1) = some (.cells #[.slice none 0 0, .slice none 0 0, .slice none 0 0, .slice none 0 0] 77 (0, 0))) :
  Ag (DX e W) (Step M S w cs0) := by
 have y4 := Aq X4
 obtain ⟨u1, l1, d1, u2, l2, d2, u3, l3, d3, u4, l4, d4, rfl⟩ := ho.B6
 rw [JN]
 refine Ag.post fun Q hQ => ?_
 simp (disch := first | exact xD | fail) [-Option.bind_some, -Aa, -Ab, qm, e2, e4, X2, X4]
 refine hQ _ ⟨_, _, true, rfl, by simp, hf.up hM', (ho.Ak fun b hb hbl => Ad ?_).wide ?_, hMod.AE (.inl (by omega)) _⟩
 ·rintro rfl
  have := hT _ hb
  omega
 ·intro b hb hbl
  simp only [In, size_setRow] at hbl ⊢
  rcases hT b hb with h | h
  ·exact .inl h.1
  ·exact .inr (by omega)
theorem QI {M k b6 b7 gp n c : Nat} {q : Bool} {S T Sp S' : Nat → Prop} {cs0 ds' : List Value} {v2 v3 v4 : Value} {st1 : WorldD} {p' : PlaceD} {src idx : Int} {vcs : List Value} {curp : List Value} {e : Env} {w W W1 : World} (hv : [v2, v3, v4].all Value.oneCell' = true) (hf : BG M st1) (hk3 : k < n)
  (hgl : gp < W.heap.size) (hTg : T gp) (hSp : ∀ b, Sp b → T b ∧ b ≠ gp ∧ b < W.heap.size) (hle : k * 6 + 6 ≤ curp.length)
  (putp : ∀ (w' : World) (ds' : List Value) (p' : PlaceD) (S' : Nat → Prop), O Il S' w' ds' p' → hp w' gp = some (.cells (Ba curp (k * 6) ds').toArray 84 (0, 0)) → (∀ b, b < W.heap.size → T b → b ≠ gp → ¬ Sp b → hp w' b = hp W b) → (∀ b, b < w'.heap.size → S' b → Sp b ∨ ¬ (b < W.heap.size ∧ T b)) →
    O tW (fun b => T b ∨ S' b) w' [.slice (some ⟨gp, 0, none⟩) n c, v2, v3, v4] { st1 with places := st1.places.set k p' })
  (hT : ∀ b, T b → (S b ∧ b < w.heap.size) ∨ w.heap.size + 4 ≤ b) (hMod : Mod S w W1)
  (ho : q = false → O tW T W1 [.slice (some ⟨gp, 0, none⟩) n c, v2, v3, v4] st1) (fp : CV M p') (op : O Il S' W1 ds' p') (hS' : ∀ b, S' b → Sp b ∨ (W.heap.size ≤ b ∧ b ≠ b7)) (hK : ∀ b, b < W.heap.size → ¬ Sp b → hp W1 b = hp W b) (hz : W.heap.size ≤ W1.heap.size) (hz2 : w.heap.size + 4 ≤ W.heap.size)
  (hg : ∃ ds, ds.length = 6 ∧ hp W gp = some (.cells (Ba curp (k * 6) ds).toArray 84 (0, 0)))
  (e2 : e 2 = pt w.heap.size 0) (e4 : e 4 = pt (w.heap.size + 1 + 1) 0) (e6 : e 6 = pt b6 0) (e7 : e 7 = pt b7 0) (e8 : e 8 = .bool q) (hb6 : b6 < W.heap.size ∧ ¬ T b6) (hb7 : W.heap.size ≤ b7)
  (X2 : hp W w.heap.size = some (.cells #[.slice (some ⟨gp, 0, none⟩) n c, v2, v3, v4] 77 (0, 0))) (X4 : hp W (w.heap.size + 1 + 1) = some (.cells #[.slice none 0 0, .slice none 0 0, .slice none 0 0, .slice none 0 0] 77 (0, 0)))
  (X6 : hp W b6 = some (.cells (i64 src :: i64 k :: i64 idx :: vcs).toArray 131 (0, 0))) (X7 : hp W1 b7 = some (.cells ds'.toArray 84 (0, 0))) :
  Ag (CN e W1) (Step M S w cs0) := by
 have nT : ∀ b, w.heap.size ≤ b → b < w.heap.size + 4 → ¬ T b := fun b h1 h2 h => by have := hT b h; omega
 have Y2 := (hK w.heap.size (by omega) (fun h => nT _ (by omega) (by omega) (hSp _ h).1)).trans X2
 have Y4 := (hK (w.heap.size + 1 + 1) (by omega) (fun h => nT _ (by omega) (by omega) (hSp _ h).1)).trans X4
 have Y6 := (hK b6 hb6.1 (fun h => hb6.2 (hSp _ h).1)).trans X6
 rw [JM]
 cases q
 ·simp (disch := first | exact xD | fail) [-Option.bind_some, -Aa, -Ab, e8]
  exact Od hf (by omega) (ho rfl) (fun b h => by rcases hT b h with h | h; exact .inl h; exact .inr (by omega)) hMod xA xA Y2 Y4
 ·obtain ⟨ds, hds, hg⟩ := hg
  have Yg := (hK gp hgl (fun h => (hSp gp h).2.1 rfl)).trans hg
  have op' := op.d
  obtain ⟨ad, cd, ae, ce, af, cf, rfl, _, _, _⟩ := D.place.1 op'
  obtain ⟨t0, t1, t2, t3, t4, t5, rfl⟩ := VL hds
  simp (disch := first | exact xD | fail) [-Option.bind_some, -Aa, -Ab, qm, e2, e6, e7, e8, Y2, Y6, X7, Yg, CF]
  generalize hW2 : World.setRow _ gp _ = W2
  have sW2 : W2.heap.size = W1.heap.size := by rw [← hW2]; simp
  have kW2 : ∀ b, b ≠ gp → hp W2 b = hp W1 b := fun b h1 => by
   rw [← hW2]
   simp (disch := omega) only [Ad]
  have G2 : hp W2 gp = some (.cells (Ba curp (k * 6) [i64 p'.me, i64 p'.clock, .slice ad p'.chain.length cd, .slice ae p'.log.length ce, .slice af p'.Bs.length cf, .bool p'.fell]).toArray 84 (0, 0)) := by
   rw [← hW2]
   exact (by first | assumption | rfl | (simp (disch := first | exact xD | fail) [-Option.bind_some, -Aa, -Ab, Yg]; done))
  have hgS : w.heap.size ≤ gp ∨ S gp := by rcases hT gp hTg with h | h; exact .inr h.1; exact .inl (by omega)
  have MW2 : Mod S w W2 := by
   rw [← hW2]
   exact hMod.AE hgS _
  have oW2 := putp W2 _ p' S' (op.Ak fun b hb hbl => kW2 b (by rcases hS' b hb with h | h; exact (hSp b h).2.1; omega)) G2 (fun b hb _ hne hn => (kW2 b hne).trans (hK b hb hn)) (fun b _ h => by rcases hS' b h with h | h; exact .inl h; exact .inr (fun hh => by omega))
  have ng : ∀ b, w.heap.size ≤ b → b < w.heap.size + 4 → b ≠ gp := fun b h1 h2 h => nT b h1 h2 (h ▸ hTg)
  exact Od (hf.place (i := k) (M' := M) (by omega) fp) (by omega) oW2 (fun b h => by rcases h with h | h; rcases hT b h with h | h; exact .inl h; exact .inr (by omega); rcases hS' b h with h | h; rcases hT b (hSp b h).1 with h | h; exact .inl h; exact .inr (by omega); exact .inr (by omega)) MW2 xA xA ((kW2 _ (ng _ (by omega) (by omega))).trans Y2) ((kW2 _ (ng _ (by omega) (by omega))).trans Y4)
theorem Oe {M b6 : Nat} {kind at' num key : Int} {text : ByteArray} {gone : Bool} {S T Sf : Nat → Prop} {cs0 cs1 vcs : List Value} {st1 : WorldD} {f : FrameD} {e : Env} {w W : World} (hf : BG M st1) (hM : M ≤ 900000) (hff : SR f)
  (ho : O tW T W cs1 st1) (hT : ∀ b, T b → (S b ∧ b < w.heap.size) ∨ w.heap.size + 4 ≤ b) (hMod : Mod S w W) (dv : D Bz Sf W vcs f.Bv) (hz2 : w.heap.size + 4 ≤ W.heap.size) (hb6 : b6 < W.heap.size ∧ ¬ T b6)
  (e2 : e 2 = pt w.heap.size 0) (e3 : e 3 = pt (w.heap.size + 1) 0) (e4 : e 4 = pt (w.heap.size + 1 + 1) 0) (e6 : e 6 = pt b6 0)
  (X2 : hp W w.heap.size = some (.cells cs1.toArray 77 (0, 0))) (X3 : hp W (w.heap.size + 1) = some (.cells #[i64 kind, i64 at', i64 num, i64 key, .string text, .bool gone] 137 (0, 0)))
  (X4 : hp W (w.heap.size + 1 + 1) = some (.cells #[.slice none 0 0, .slice none 0 0, .slice none 0 0, .slice none 0 0] 77 (0, 0)))
  (X6 : hp W b6 = some (.cells (i64 f.src :: i64 f.dst :: i64 f.idx :: vcs).toArray 131 (0, 0))) :
  Ag (DW e W) (Step M S w cs0) := by
 have y4 := Aq X4
 have ho := ho.lt
 obtain ⟨u1, l1, d1, u2, l2, d2, u3, l3, d3, u4, l4, d4, rfl⟩ := ho.B6
 rw [JL]
 refine Ag.post fun Q hQ => ?_
 cases h12 : (kind == 12)
 case true =>
  simp (disch := first | exact xD | fail) [-Option.bind_some, -Aa, -Ab, qm, e2, e3, e4, X2, X3, X4, h12]
  refine hQ _ ⟨_, _, true, rfl, by simp, hf.up (by omega), (ho.Ak fun b hb hbl => Ad ?_).wide ?_, hMod.AE (.inl (by omega)) _⟩
  ·rintro rfl
   have := hT _ hb.1
   omega
  ·intro b hb hbl
   simp only [In, size_setRow] at hbl ⊢
   rcases hT b hb.1 with h | h
   ·exact .inl h.1
   ·exact .inr (by omega)
 obtain ⟨hs0, hs2, hd0, hd2, hvp⟩ := hff
 obtain ⟨k, hk⟩ := Int.eq_ofNat_of_zero_le hd0
 obtain ⟨i, hi⟩ := Int.eq_ofNat_of_zero_le hs0
 have hk3 : k < st1.places.length := by rw [hf.1]; omega
 obtain ⟨p, hp', _⟩ := Am hk3
 have hpf := hf.2.1 p (List.mem_of_getElem? hp')
 obtain ⟨c', a1', c1', a2', c2', a3', c3', gp, curp, dp, Sp, hcs, hSgp, hgpl, hgp, hlep, op, hSp, putp⟩ := O.F7 ho hp'
 simp only [List.cons.injEq, Value.slice.injEq, and_true] at hcs
 obtain ⟨⟨rfl, rfl, rfl⟩, ⟨rfl, rfl, rfl⟩, ⟨rfl, rfl, rfl⟩, rfl, rfl, rfl⟩ := hcs
 have op' := op.d
 obtain ⟨ac, cc, al, cl, ag, cg, rfl, _, _, _⟩ := D.place.1 op'
 obtain ⟨av, cv, rfl, dv1, dv2⟩ := D.Bv.1 dv
 have dv : D Bz Sf W [i64 f.Bv.key, i64 f.Bv.tag.t, i64 f.Bv.tag.p, .slice av f.Bv.past.length cv, .string f.Bv.text, .bool f.Bv.gone] f.Bv := dv
 have Ap := DF hgp (by simpa using hlep)
 have m0 := Ap 0 _ rfl
 have m1 := Ap 1 _ rfl
 have m2 := Ap 2 _ rfl
 have m3 := Ap 3 _ rfl
 have m4 := Ap 4 _ rfl
 have m5 := Ap 5 _ rfl
 simp only [Nat.add_zero] at m0 m1 m2 m3 m4 m5
 rw [hk, hi] at X6
 have nb6 : ¬ (T b6 ∧ b6 < W.heap.size) := fun h => hb6.2 h.1
 have fin : ∀ (e' : Env) (W1 : World) (b7 : Nat) (ds' : List Value) (p' : PlaceD) (S' : Nat → Prop) (q : Bool), Mod S w W1 → (q = false → Ext W W1) → CV M p' → O Il S' W1 ds' p' → (∀ b, S' b → Sp b ∨ (W.heap.size ≤ b ∧ b ≠ b7)) → (∀ b, b < W.heap.size → ¬ Sp b → hp W1 b = hp W b) → W.heap.size ≤ W1.heap.size →
   e' 2 = pt w.heap.size 0 → e' 4 = pt (w.heap.size + 1 + 1) 0 → e' 6 = pt b6 0 → e' 7 = pt b7 0 → e' 8 = .bool q → W.heap.size ≤ b7 → hp W1 b7 = some (.cells ds'.toArray 84 (0, 0)) → Ag (CN e' W1) Q := by
  intro e' W1 b7 ds' p' S' q g1 g2 g3 g4 g5 g6 g7 e2' e4' e6' e7' e8' hb7 X7
  exact Ag.mono (QI (M := M) (k := k) (T := fun b => T b ∧ b < W.heap.size) (Sp := Sp) (v2 := .slice u2 st1.Az.length d2) (v3 := .slice u3 st1.net.length d3) (v4 := .slice u4 st1.AF.length d4) (src := i) (idx := f.idx) rfl hf hk3 hgpl hSgp hSp hlep putp (fun b h => hT b h.1) g1 (fun hq => ho.ext (g2 hq)) g3 g4 g5 g6 g7 hz2 ⟨_, rfl, hgp⟩ e2' e4' e6' e7' e8' ⟨hb6.1, nb6⟩ hb7 X2 X4 X6 X7) hQ
 simp (disch := first | exact xD | fail) [-Option.bind_some, -Aa, -Ab, e3, X3, h12]
 refine I1 _ _ ?_
 simp (disch := first | exact xD | fail) [-Option.bind_some, qs, -Aa, -Ab, e2, e6, X2, X6, CF, m0, m1, m2, m3, m4, m5]
 constructor
 ·skip
  refine Ag.mono (Ou (i := i) hpf (by omega) hvp (dv.ext xE) (op.ext xE)) ?_
  rintro ⟨_, w1⟩ ⟨cs', p', q, rfl, hq, f1, o1, M1⟩
  try dsimp only at cs' p' q hq f1 o1 M1
  have zM1 := M1.size
  try simp only [qz] at zM1
  simp only [Ac] at zM1 o1
  have o1' := o1.d
  obtain ⟨ad, cd, ae, ce, af, cf, rfl, _, _, _⟩ := D.place.1 o1'
  have K1 : ∀ b, b < W.heap.size → ¬ Sp b → hp w1 b = hp W b := fun b hb h => (M1.Ah b xB h).trans (by simp (disch := (first | omega | (simp only [World.size_alloc, size_setRow, Ac]; omega))) only [Bg])
  have nT : ∀ b, w.heap.size ≤ b → b < w.heap.size + 4 → ¬ Sp b := fun b h1 h2 h => by have := hT b (hSp b h).1.1; omega
  have N2 := K1 w.heap.size (by omega) (nT _ (by omega) (by omega))
  have N4 := K1 (w.heap.size + 1 + 1) (by omega) (nT _ (by omega) (by omega))
  have N6 := K1 b6 hb6.1 (fun h => nb6 (hSp _ h).1)
  have Ng := K1 gp hgpl (fun h => (hSp gp h).2.1 rfl)
  have hSm : ∀ b, Sp b → w.heap.size ≤ b ∨ S b := fun b h => by rcases hT b (hSp b h).1.1 with h | h; exact .inr h.1; exact .inl (by omega)
  have MS : Mod S w w1 := by
   refine Mod.A8 (by first | exact hMod.Sq | exact (hMod.Sq).al _) M1 fun b hb h => ?_
   rcases hSm b h with h | h
   ·omega
   ·exact h
  simp (disch := first | exact xD | fail) [-Option.bind_some, qs, -Aa, -Ab, qm, N2, N6, Ng, X2, X6, m0, m1, m2, m3, m4, m5]
  refine fin _ _ w1.heap.size _ p' (fun b => Sp b ∨ In W.heap.size w1.heap.size b) q ((MS.al _).AE (.inl (by omega)) _) (fun h => ?_) f1 (o1.Ak fun b hb hbl => (Ad (by omega)).trans (Ae hbl)) (fun b h => by rcases h with h | h; exact .inl h; simp only [In] at h; exact .inr ⟨h.1, by omega⟩) (fun b hb h => (Ad (by omega)).trans ((Ae (by omega)).trans (K1 b hb h))) (by simp only [size_setRow, World.size_alloc]; omega) xA xA xA xA xA (by omega) (by first | assumption | rfl | (simp (disch := first | exact xD | fail) [-Option.bind_some, qs, -Aa, -Ab]; done))
  exact (((Cc W).tr (hq h)).al _).set (by omega) _
 ·skip
  refine Ag.mono (Ou (i := i) hpf (by omega) hvp (dv.ext xE) (op.ext xE)) ?_
  rintro ⟨_, w1⟩ ⟨cs', p', q, rfl, hq, f1, o1, M1⟩
  try dsimp only at cs' p' q hq f1 o1 M1
  have zM1 := M1.size
  try simp only [qz] at zM1
  simp only [Ac, World.size_alloc] at zM1 o1
  have o1' := o1.d
  obtain ⟨ad, cd, ae, ce, af, cf, rfl, _, _, _⟩ := D.place.1 o1'
  have K1 : ∀ b, b < W.heap.size → ¬ Sp b → hp w1 b = hp W b := fun b hb h => (M1.Ah b xB h).trans (by simp (disch := (first | omega | (simp only [World.size_alloc, size_setRow, Ac]; omega))) only [Ae, Bg])
  have nT : ∀ b, w.heap.size ≤ b → b < w.heap.size + 4 → ¬ Sp b := fun b h1 h2 h => by have := hT b (hSp b h).1.1; omega
  have N2 := K1 w.heap.size (by omega) (nT _ (by omega) (by omega))
  have N4 := K1 (w.heap.size + 1 + 1) (by omega) (nT _ (by omega) (by omega))
  have N6 := K1 b6 hb6.1 (fun h => nb6 (hSp _ h).1)
  have Ng := K1 gp hgpl (fun h => (hSp gp h).2.1 rfl)
  have hSm : ∀ b, Sp b → w.heap.size ≤ b ∨ S b := fun b h => by rcases hT b (hSp b h).1.1 with h | h; exact .inr h.1; exact .inl (by omega)
  have MS : Mod S w w1 := by
   refine Mod.A8 (by first | exact hMod.Sq | exact (hMod.Sq).al _) M1 fun b hb h => ?_
   rcases hSm b h with h | h
   ·omega
   ·exact h
  have N7 : hp w1 W.heap.size = some (.cells #[i64 0, i64 0, .slice none 0 0, .slice none 0 0, .slice none 0 0, .bool false] 84 (0, 0)) := (M1.Ah _ xB (fun h => by have := (hSp _ h).2.2; omega)).trans (by first | assumption | rfl | (simp (disch := first | exact xD | fail) [-Option.bind_some, qs, -Aa, -Ab]; done))
  simp (disch := first | exact xD | fail) [-Option.bind_some, qs, -Aa, -Ab, qm, N7]
  refine fin _ _ W.heap.size _ p' (fun b => Sp b ∨ In (W.heap.size + 1) w1.heap.size b) q (MS.AE (.inl (by omega)) _) (fun h => ?_) f1 (o1.Ak fun b hb hbl => Ad ?_) (fun b h => by rcases h with h | h; exact .inl h; simp only [In] at h; exact .inr ⟨by omega, by omega⟩) (fun b hb h => (Ad (by omega)).trans (K1 b hb h)) (by simp only [size_setRow]; omega) xA xA xA xA xA (by omega) (by first | assumption | rfl | (simp (disch := first | exact xD | fail) [-Option.bind_some, -Aa, -Ab, N7]; done))
  ·exact (((Cc W).al _).tr (hq h)).set (by omega) _
  ·rcases hb with h | h
   ·have := (hSp b h).2.2; omega
   ·simp only [In] at h; omega
end Go.Proofs.YtjhhommnkaemlaaGreat.X
namespace Go.Proofs.YtjhhommnkaemlaaGreat.X
open Go Go.Ev Go.RowKit
 -- STEPS
attribute [local irreducible] World.alloc World.setRow Go.Ev.dw
abbrev Lh : Lay FrameD := GM 36
theorem RR {M : Nat} {kind at' num key : Int} {text : ByteArray} {gone : Bool} {S : Nat → Prop} {cs : List Value} {st : WorldD} {w : World} (hf : BG M st) (hM : M ≤ 900000) (ho : O tW S w cs st) :
  Ag (EV P 116 #[.agg cs.toArray, .agg #[i64 kind, i64 at', i64 num, i64 key, .string text, .bool gone]] w) (Step M S w cs) := by
 have ho0 := ho
 have ho := ho.lt
 obtain ⟨pa, pc, sa, sc, na, nc, ha, hc, S3, rfl, on, hS3, put⟩ := O.SW ho
 have ok : ∀ (w' : World), Ext w w' → Step M S w [.slice pa st.places.length pc, .slice sa st.Az.length sc, .slice na st.net.length nc, .slice ha st.AF.length hc] (.tuple #[.agg #[.slice pa st.places.length pc, .slice sa st.Az.length sc, .slice na st.net.length nc, .slice ha st.AF.length hc], .bool false], w') :=
  fun w' hE => Step.fail hf ho0 hE
 have nl12 := hf.2.2.2.2.1
 have nS3 : ∀ b, w.heap.size ≤ b → ¬ S3 b := fun b h h' => by have := (hS3 b h').2; omega
 refine Ag.post fun Q hQ => ?_
 refine Ag.enter plain mixed (Ms _ _ _) (by kernel_rfl) (n := 2) (by kernel_rfl) rfl ?_
 cases h10 : (kind == 10)
 case true =>
  simp (maxSteps := 1000000) (disch := first | exact xD | fail) [-Option.bind_some, qs, -Aa, -Ab, h10]
  refine Ag.bind (AK _ _ _ _) ?_
  rintro _ rfl
  cases hat : (decide (0 ≤ at') && decide (at' ≤ 2))
  ·simp (maxSteps := 1000000) (disch := first | exact xD | fail) [-Option.bind_some, qs, -Aa, -Ab, qm]
   exact hQ _ (ok _ xE)
  have hat' := hat
  simp only [Bool.and_eq_true, decide_eq_true_eq] at hat'
  obtain ⟨k, rfl⟩ := Int.eq_ofNat_of_zero_le hat'.1
  have hk3 : k < st.places.length := by rw [hf.1]; omega
  obtain ⟨p, hp', _⟩ := Am hk3
  have hpf := hf.2.1 p (List.mem_of_getElem? hp')
  obtain ⟨c', a1', c1', a2', c2', a3', c3', gp, curp, dp, Sp, hcs, hSgp, hgpl, hgp, hlep, op, hSp, _⟩ := O.F7 ho hp'
  simp only [List.cons.injEq, Value.slice.injEq, and_true, true_and] at hcs
  obtain ⟨⟨rfl, rfl⟩, ⟨rfl, rfl⟩, ⟨rfl, rfl⟩, rfl, rfl⟩ := hcs
  have op' := op.d
  obtain ⟨ac, cc, al, cl, ag, cg, rfl, _, q2, _⟩ := D.place.1 op'
  have Ap := DF hgp (by simpa using hlep)
  have m0 := Ap 0 _ rfl
  have m1 := Ap 1 _ rfl
  have m2 := Ap 2 _ rfl
  have m3 := Ap 3 _ rfl
  have m4 := Ap 4 _ rfl
  have m5 := Ap 5 _ rfl
  simp only [Nat.add_zero] at m0 m1 m2 m3 m4 m5
  have hw1 : IntKind.i64.wrap ((p.log.length : Int) - 1) = (p.log.length : Int) - 1 := Ho (by have := hpf.2.1; omega) (by have := hpf.2.1; omega)
  simp (maxSteps := 1000000) (disch := first | exact xD | fail) [-Option.bind_some, qs, -Aa, -Ab]
  refine Ag.bind (AK _ _ _ _) ?_
  rintro _ rfl
  cases hnm : (decide (0 ≤ num) && decide (num ≤ 2))
  ·simp (maxSteps := 1000000) (disch := first | exact xD | fail) [-Option.bind_some, qs, -Aa, -Ab, qm]
   exact hQ _ (ok _ xE)
  have hnm' := hnm
  simp only [Bool.and_eq_true, decide_eq_true_eq] at hnm'
  cases hkn : ((k : Int) == num)
  case true =>
   simp (maxSteps := 1000000) (disch := first | exact xD | fail) [-Option.bind_some, qs, -Aa, -Ab, qm, hkn]
   exact hQ _ (ok _ xE)
  by_cases h12 : st.net.length < 12
  ·simp (maxSteps := 1000000) (disch := first | exact xD | fail) [-Option.bind_some, qs, -Aa, -Ab, hkn, hw1, show ¬ (12 : Int) ≤ st.net.length by omega, CF, m3]
   refine Ag.bind (AK _ _ _ _) ?_
   rintro _ rfl
   cases hky : (decide (0 ≤ key) && decide (key ≤ (p.log.length : Int) - 1))
   ·simp (maxSteps := 1000000) (disch := first | exact xD | fail) [-Option.bind_some, qs, -Aa, -Ab, qm]
    exact hQ _ (ok _ xE)
   have hky' := hky
   simp only [Bool.and_eq_true, decide_eq_true_eq] at hky'
   obtain ⟨j, rfl⟩ := Int.eq_ofNat_of_zero_le hky'.1
   have hjl : j < p.log.length := by omega
   obtain ⟨v, hv, _⟩ := Am hjl
   have hvp := hpf.2.2.1 v (List.mem_of_getElem? hv)
   obtain ⟨b1, o1, cs1, rfl, A1, D1, _, _⟩ := q2.at (by decide) hv
   have D1' := D1
   obtain ⟨av, cv, rfl, _, _⟩ := D.Bv.1 D1'
   have t0 := A1 0 _ rfl
   have t1 := A1 1 _ rfl
   have t2 := A1 2 _ rfl
   have t3 := A1 3 _ rfl
   have t4 := A1 4 _ rfl
   have t5 := A1 5 _ rfl
   simp only [AX, Nat.add_zero] at t0 t1 t2 t3 t4 t5
   simp (maxSteps := 1000000) (disch := first | exact xD | fail) [-Option.bind_some, qs, -Aa, -Ab, CF, AW, m3, t0, t1, t2, t3, t4, t5]
   refine Ag.bind (AZ (D1.ext xE)) ?_
   rintro ⟨_, w1⟩ ⟨ds, rfl, o2, E1⟩
   try dsimp only at ds o2 E1
   have zE1 := E1.size
   try simp only [qz] at zE1
   have zo2 := O.Bv.1 o2
   obtain ⟨a5, c5, rfl, _, _⟩ := zo2
   simp only [Ac, World.size_alloc] at o2 zE1
   have F1 : Ext w w1 := xE
   have B0 : hp w1 w.heap.size = some (.cells #[.slice (some ⟨gp, 0, none⟩) st.places.length pc, .slice sa st.Az.length sc, .slice na st.net.length nc, .slice ha st.AF.length hc] 77 (0, 0)) := (E1.Ah xB).trans (by first | assumption | rfl | (simp (maxSteps := 1000000) (disch := first | exact xD | fail) [-Option.bind_some, qs, -Aa, -Ab]; done))
   have B1 : hp w1 (w.heap.size + 1) = some (.cells #[i64 kind, i64 k, i64 num, i64 j, .string text, .bool gone] 137 (0, 0)) := (E1.Ah xB).trans (by first | assumption | rfl | (simp (maxSteps := 1000000) (disch := first | exact xD | fail) [-Option.bind_some, qs, -Aa, -Ab]; done))
   have B2 : hp w1 (w.heap.size + 1 + 1) = some (.cells #[.slice none 0 0, .slice none 0 0, .slice none 0 0, .slice none 0 0] 77 (0, 0)) := (E1.Ah xB).trans (by first | assumption | rfl | (simp (maxSteps := 1000000) (disch := first | exact xD | fail) [-Option.bind_some, qs, -Aa, -Ab]; done))
   simp (maxSteps := 1000000) (disch := first | exact xD | fail) [-Option.bind_some, qs, -Aa, -Ab, B0, B1]
   have of : O Lh (In w.heap.size w1.heap.size) w1 [i64 k, i64 num, i64 j, i64 v.key, i64 v.tag.t, i64 v.tag.p, .slice a5 v.past.length c5, .string v.text, .bool v.gone] ⟨k, num, j, v⟩ := O.frame.2 ⟨_, rfl, o2.wide fun b hb _ => by simp only [In] at hb ⊢; omega⟩
   refine Ag.bind (O.app (L := Lh) (mx := 1466015503701) (S1 := In (w.heap.size + 1 + 1 + 1) w1.heap.size) (x := ⟨k, num, j, v⟩) (cs := [i64 k, i64 num, i64 j, i64 v.key, i64 v.tag.t, i64 v.tag.p, .slice a5 v.past.length c5, .string v.text, .bool v.gone]) MZ NN rfl (by decide) (on.ext xE) (O.frame.2 ⟨_, rfl, (o2.Ak (fun b hb hbl => Ae hbl))⟩) (fun b hb h1 h2 => by have := (hS3 b h1).2; simp only [In] at h2; omega) (At.nw (by simp)) (by omega) (by decide) (by decide)) ?_
   rintro ⟨_, w2⟩ ⟨a7, c7, rfl, o7, M7⟩
   have zM7 := M7.size
   try simp only [qz] at zM7
   try dsimp only at o7 M7
   have zM7 := M7.size
   simp only [World.size_alloc] at zM7 o7
   have F2 : Ext w (w1.alloc (.cells #[i64 k, i64 num, i64 j, i64 v.key, i64 v.tag.t, i64 v.tag.p, .slice a5 v.past.length c5, .string v.text, .bool v.gone] 131)) := F1.al _
   have C0 := (M7.Ah w.heap.size xB (nS3 _ (by omega))).trans ((Ae (by omega)).trans B0)
   have C2 := (M7.Ah (w.heap.size + 1 + 1) xB (nS3 _ (by omega))).trans ((Ae (by omega)).trans B2)
   simp (maxSteps := 1000000) (disch := first | exact xD | fail) [-Option.bind_some, qs, -Aa, -Ab, qm, C0, C2]
   have kk : ∀ b, b < w.heap.size → ¬ S3 b → hp ((w2.setRow w.heap.size #[.slice (some ⟨gp, 0, none⟩) st.places.length pc, .slice sa st.Az.length sc, .slice a7 (st.net.length + 1) c7, .slice ha st.AF.length hc]).setRow (w.heap.size + 1 + 1) #[.slice (some ⟨gp, 0, none⟩) st.places.length pc, .slice sa st.Az.length sc, .slice a7 (st.net.length + 1) c7, .slice ha st.AF.length hc]) b = hp w b := fun b hb hn => (Ad (by omega)).trans ((Ad (by omega)).trans ((M7.Ah b xB hn).trans ((Ae (by omega)).trans (F1.Ah hb))))
   refine hQ _ ⟨_, _, true, rfl, by simp, ?_, (put _ (.slice a7 (st.net.length + 1) c7) (st.net ++ [⟨k, num, j, v⟩]) (fun b => S3 b ∨ w.heap.size + 3 ≤ b) ((o7.Ak fun b hb hbl => ?_).wide ?_) (fun b hb _ hn => kk b hb hn) (fun b _ h => by rcases h with h | h; exact .inl h; exact .inr (fun hh => by omega))).wide ?_, ?_⟩
   ·refine BG.up (M := M) ⟨hf.1, hf.2.1, hf.2.2.1, hf.2.2.2.1, by simp; omega, fun f hf' => ?_, hf.2.2.2.2.2.2⟩ (by omega)
    rcases List.mem_append.1 hf' with h | h
    ·exact hf.2.2.2.2.2.1 f h
    ·rw [List.mem_singleton.1 h]
     exact ⟨by show (0 : Int) ≤ k; omega, by show (k : Int) ≤ 2; omega, hnm'.1, hnm'.2, hvp⟩
   ·have : b ≠ w.heap.size ∧ b ≠ w.heap.size + 1 + 1 := by
     rcases hb with h | h | h
     ·have := (hS3 b h).2; omega
     ·simp only [In] at h; omega
     ·omega
    rw [Ad this.2, Ad this.1]
   ·intro b hb hbl
    rcases hb with h | h | h
    ·exact .inl h
    ·simp only [In] at h; exact .inr (by omega)
    ·exact .inr (by omega)
   ·intro b hb hbl
    simp only [In, size_setRow] at hbl ⊢
    rcases hb with h | h | h
    ·exact .inl h.1
    ·exact .inl (hS3 b h).1.1
    ·exact .inr (by omega)
   ·exact ((Mod.A8 (Mod.of F2 S) M7 fun b _ h => (hS3 b h).1.1).AE (.inl (Nat.le_refl _)) _).AE (.inl (by omega)) _
  ·simp (maxSteps := 1000000) (disch := first | exact xD | fail) [-Option.bind_some, qs, -Aa, -Ab, qm, hkn, show (12 : Int) ≤ st.net.length by omega]
   exact hQ _ (ok _ xE)
 have hw2 : IntKind.i64.wrap ((st.net.length : Int) - 1) = (st.net.length : Int) - 1 := Ho (by omega) (by omega)
 simp (maxSteps := 1000000) (disch := first | exact xD | fail) [-Option.bind_some, qs, -Aa, -Ab, h10, hw2]
 refine Ag.bind (AK _ _ _ _) ?_
 rintro _ rfl
 cases hat : (decide (0 ≤ at') && decide (at' ≤ (st.net.length : Int) - 1))
 ·simp (maxSteps := 1000000) (disch := first | exact xD | fail) [-Option.bind_some, qs, -Aa, -Ab, qm]
  exact hQ _ (ok _ xE)
 have hat' := hat
 simp only [Bool.and_eq_true, decide_eq_true_eq] at hat'
 obtain ⟨i, rfl⟩ := Int.eq_ofNat_of_zero_le hat'.1
 have hi : i < st.net.length := by omega
 obtain ⟨f, hfi, _⟩ := Am hi
 have hff := hf.2.2.2.2.2.1 f (List.mem_of_getElem? hfi)
 obtain ⟨css, S1, S2, a9, c9, Sf, cx, b1, o1, L1, L2, d1, d2, sl1, sl2, A3, A4, dB, rfl, A1, of, dF⟩ := on.SV (by decide) MZ hfi
 obtain ⟨ds, rfl, D2⟩ := D.frame.1 of.d
 have D2' := D2
 obtain ⟨av, cv, rfl, _, _⟩ := D.Bv.1 D2'
 have yb1 := A1.lt
 have t0 := A1 0 _ rfl
 have t1 := A1 1 _ rfl
 have t2 := A1 2 _ rfl
 have t3 := A1 3 _ rfl
 have t4 := A1 4 _ rfl
 have t5 := A1 5 _ rfl
 have t6 := A1 6 _ rfl
 have t7 := A1 7 _ rfl
 have t8 := A1 8 _ rfl
 simp only [Nat.add_zero] at t0 t1 t2 t3 t4 t5 t6 t7 t8
 simp only [Ob] at t0 t1 t2 t3 t4 t5 t6 t7 t8
 cases h13 : (kind != 13)
 ·simp (maxSteps := 1000000) (disch := first | exact xD | fail) [-Option.bind_some, qs, -Aa, -Ab, qm, h13, Rb, t0, t1, t2, t3, t4, t5, t6, t7, t8]
  exact Ag.mono (Oe (M := M) (b6 := w.heap.size + 1 + 1 + 1) (kind := kind) (at' := i) (num := num) (key := key) (text := text) (gone := gone) (T := fun b => S b ∧ b < w.heap.size) (f := f) hf hM hff (ho.ext xE) (fun b h => .inl h) xM (D2.ext xE) xB ⟨xB, fun h => by omega⟩ xA xA xA xA (by first | assumption | rfl | (simp (maxSteps := 1000000) (disch := first | exact xD | fail) [-Option.bind_some, qs, -Aa, -Ab]; done)) (by first | assumption | rfl | (simp (maxSteps := 1000000) (disch := first | exact xD | fail) [-Option.bind_some, qs, -Aa, -Ab]; done)) (by first | assumption | rfl | (simp (maxSteps := 1000000) (disch := first | exact xD | fail) [-Option.bind_some, qs, -Aa, -Ab]; done)) (by first | assumption | rfl | (simp (maxSteps := 1000000) (disch := first | exact xD | fail) [-Option.bind_some, qs, -Aa, -Ab]; done))) hQ
 have sl2' : ∀ w', sl P 75 (.slice (some ⟨b1, o1, none⟩) st.net.length nc) (some (i64 ((i : Int) + 1))) none none w' = some (.slice a9 (st.net.length - (i + 1)) c9, w') := fun w' => by
  have := sl2 w'
  rwa [show ((i + 1 : Nat) : Int) = (i : Int) + 1 by omega] at this
 simp (maxSteps := 1000000) (disch := first | exact xD | fail) [-Option.bind_some, qs, -Aa, -Ab, qm, h13, Rb, sl1, sl2', t0, t1, t2, t3, t4, t5, t6, t7, t8]
 refine Ag.bind (O.O0 (P := P) (L := Lh) (mx := 1466015503701) (xs := []) (ys := st.net.take i) (ty := 75) MZ NN rfl (by decide) (O.empty (L := Lh) (mx := 1466015503701) (g := w.heap.size + 1 + 1 + 1 + 1) (by first | assumption | rfl | (simp (maxSteps := 1000000) (disch := first | exact xD | fail) [-Option.bind_some, qs, -Aa, -Ab]; done))) (L1.Ak (by intro b hS hb; (try dsimp only at hS); (try simp only [In, qz] at hS hb); first | rfl | (simp (disch := first | exact xF | fail) only [qk]; done))) (fun b hb h1 h2 => by have := (d1 b h2).2.2; have h1 : b = w.heap.size + 1 + 1 + 1 + 1 := h1; omega) (A3.imp id fun ⟨b, o, h1, h2, h4⟩ => ⟨b, o, h1, h4.mono (Ext.Ak xE)⟩) (by rw [List.length_take]; omega) (by simp; omega) (by decide) (by decide)) ?_
 rintro ⟨_, w1⟩ ⟨a1, c1, rfl, o1', M1⟩
 have zM1 := M1.size
 try simp only [qz] at zM1
 try dsimp only at o1' M1
 have zM1 := M1.size
 simp only [World.size_alloc, Ac, size_setRow, List.length_nil, Nat.zero_add, List.nil_append] at zM1 o1'
 have htk : (st.net.take i).length = i := by rw [List.length_take]; omega
 have F1 : Ext w w1 := Mod.after xE M1 (fun b h1 h2 => by have h2 : b = w.heap.size + 1 + 1 + 1 + 1 := h2; omega)
 have Y0 : hp w1 w.heap.size = some (.cells #[.slice pa st.places.length pc, .slice sa st.Az.length sc, .slice (some ⟨b1, o1, none⟩) st.net.length nc, .slice ha st.AF.length hc] 77 (0, 0)) := (M1.Ah _ xB (by omega)).trans (by first | assumption | rfl | (simp (maxSteps := 1000000) (disch := first | exact xD | fail) [-Option.bind_some, qs, -Aa, -Ab]; done))
 have Y1 : hp w1 (w.heap.size + 1) = some (.cells #[i64 kind, i64 i, i64 num, i64 key, .string text, .bool gone] 137 (0, 0)) := (M1.Ah _ xB (by omega)).trans (by first | assumption | rfl | (simp (maxSteps := 1000000) (disch := first | exact xD | fail) [-Option.bind_some, qs, -Aa, -Ab]; done))
 have Y2 : hp w1 (w.heap.size + 1 + 1) = some (.cells #[.slice none 0 0, .slice none 0 0, .slice none 0 0, .slice none 0 0] 77 (0, 0)) := (M1.Ah _ xB (by omega)).trans (by first | assumption | rfl | (simp (maxSteps := 1000000) (disch := first | exact xD | fail) [-Option.bind_some, qs, -Aa, -Ab]; done))
 have Y3 : hp w1 (w.heap.size + 1 + 1 + 1) = some (.cells #[i64 f.src, i64 f.dst, i64 f.idx, i64 f.Bv.key, i64 f.Bv.tag.t, i64 f.Bv.tag.p, .slice av f.Bv.past.length cv, .string f.Bv.text, .bool f.Bv.gone] 131 (0, 0)) := (M1.Ah _ xB (by omega)).trans (by first | assumption | rfl | (simp (maxSteps := 1000000) (disch := first | exact xD | fail) [-Option.bind_some, qs, -Aa, -Ab]; done))
 simp (maxSteps := 1000000) (disch := first | exact xD | fail) [-Option.bind_some, -Aa, -Ab, Y0, Y1, List.length_nil, Nat.zero_add]
 refine Ag.bind (O.O0 (P := P) (L := Lh) (mx := 1466015503701) (xs := st.net.take i) (ys := st.net.drop (i + 1)) (ty := 75) MZ NN rfl (by decide) o1' (L2.Ak (fun b hS hb => F1.Ah hb)) (fun b hb h1 h2 => ?_) (A4.imp id fun ⟨b, o, h1, h2, h4⟩ => ⟨b, o, h1, h4.mono (Ext.Ak F1)⟩) (by rw [List.length_drop]) (by rw [htk]; omega) (by decide) (by decide)) ?_
 ·have q := d2 b h2
  rcases h1 with h | h | h
  ·have h : b = w.heap.size + 1 + 1 + 1 + 1 := h
   omega
  ·exact q.2.1 h
  ·omega
 rintro ⟨_, w2⟩ ⟨a3, c3, rfl, o3, M2⟩
 have zM2 := M2.size
 try simp only [] at zM2
 try dsimp only at o3 M2
 have zM2 := M2.size
 obtain ⟨ms, hms⟩ : ∃ ms, ms = st.net.take i ++ st.net.drop (i + 1) := ⟨_, rfl⟩
 have hml : ms.length = st.net.length - 1 := by rw [hms, List.length_append, htk, List.length_drop]; omega
 have hmf : ∀ x ∈ ms, SR x := by
  intro x hx
  rw [hms, List.mem_append] at hx
  rcases hx with h | h
  ·exact hf.2.2.2.2.2.1 x (List.mem_of_mem_take h)
  ·exact hf.2.2.2.2.2.1 x (List.mem_of_mem_drop h)
 rw [htk, ← hms, show i + (st.net.length - (i + 1)) = ms.length by omega] at o3
 rw [htk, show i + (st.net.length - (i + 1)) = ms.length by omega]
 have hS4 : ∀ b, ((b = w.heap.size + 1 + 1 + 1 + 1 ∨ S1 b ∨ w.heap.size + 1 + 1 + 1 + 1 + 1 ≤ b ∧ b < w1.heap.size) ∨ S2 b ∨ w1.heap.size ≤ b ∧ b < w2.heap.size) → (S3 b ∧ b < w.heap.size ∧ ¬ Sf b) ∨ (w.heap.size + 1 + 1 + 1 + 1 ≤ b ∧ b < w2.heap.size) := by
  rintro b ((h | h | h) | h | h)
  ·exact .inr (by omega)
  ·exact .inl ⟨(d1 b h).1, (d1 b h).2.2, fun hh => (dF b hh).2.1 h⟩
  ·exact .inr (by omega)
  ·exact .inl ⟨(d2 b h).1, (d2 b h).2.2, fun hh => (dF b hh).2.2.1 h⟩
  ·exact .inr (by omega)
 have nM : ∀ b, w.heap.size ≤ b → b < w.heap.size + 4 → ¬ (b = w.heap.size + 1 + 1 + 1 + 1 ∨ S1 b ∨ w.heap.size + 1 + 1 + 1 + 1 + 1 ≤ b ∧ b < w1.heap.size) := fun b h1 h2 h => by have := hS4 _ (.inl h); omega
 have Z0 := (M2.Ah w.heap.size (by omega) (nM _ (by omega) (by omega))).trans Y0
 have Z1 := (M2.Ah (w.heap.size + 1) (by omega) (nM _ (by omega) (by omega))).trans Y1
 have Z2 := (M2.Ah (w.heap.size + 1 + 1) (by omega) (nM _ (by omega) (by omega))).trans Y2
 have Z3 := (M2.Ah (w.heap.size + 1 + 1 + 1) (by omega) (nM _ (by omega) (by omega))).trans Y3
 have N2 : Mod S w w2 := Mod.A8 (Mod.of F1 S) M2 (fun b hb h => by rcases hS4 _ (.inl h) with q | q; exact (hS3 b q.1).1.1; omega)
 simp (maxSteps := 1000000) (disch := first | exact xD | fail) [-Option.bind_some, -Aa, -Ab, qm, Z0]
 have kk : ∀ b, b < w.heap.size → (¬ S3 b ∨ Sf b) → hp (w2.setRow w.heap.size #[.slice pa st.places.length pc, .slice sa st.Az.length sc, .slice a3 ms.length c3, .slice ha st.AF.length hc]) b = hp w b := fun b hb hn => (Ad (by omega)).trans ((M2.Ah b (by omega) (fun h => by rcases hS4 _ (.inl h) with q | q; rcases hn with hn | hn; exact hn q.1; exact q.2.2 hn; omega)).trans (F1.Ah hb))
 have oN := (put (w2.setRow w.heap.size #[.slice pa st.places.length pc, .slice sa st.Az.length sc, .slice a3 ms.length c3, .slice ha st.AF.length hc]) (.slice a3 ms.length c3) ms (fun b => S3 b ∨ w.heap.size + 4 ≤ b) ((o3.Ak fun b hb hbl => Ad (by rcases hS4 b hb with h | h <;> omega)).wide fun b hb _ => by rcases hS4 b hb with h | h; exact .inl h.1; exact .inr (by omega)) (fun b hb _ hn => kk b hb (.inl hn)) (fun b _ h => by rcases h with h | h; exact .inl h; exact .inr (fun hh => by omega))).wide (S' := fun b => (S b ∧ b < w.heap.size) ∨ w.heap.size + 4 ≤ b) (fun b h _ => by rcases h with h | h | h; exact .inl h; exact .inl ⟨(hS3 b h).1.1, (hS3 b h).2⟩; exact .inr h)
 have fN : BG M { st with net := ms } := ⟨hf.1, hf.2.1, hf.2.2.1, hf.2.2.2.1, by show ms.length ≤ 12; omega, hmf, hf.2.2.2.2.2.2⟩
 exact Ag.mono (Oe (M := M) (b6 := w.heap.size + 1 + 1 + 1) (kind := kind) (at' := i) (num := num) (key := key) (text := text) (gone := gone) (cs1 := [.slice pa st.places.length pc, .slice sa st.Az.length sc, .slice a3 ms.length c3, .slice ha st.AF.length hc]) (T := fun b => (S b ∧ b < w.heap.size) ∨ w.heap.size + 4 ≤ b) (Sf := Sf) (f := f) (w := w) fN hM hff oN (fun b h => h) (N2.AE (.inl (Nat.le_refl _)) _) (D2.Ak fun b hb hbl => kk b hbl (.inr hb)) (by simp only [size_setRow]; omega) ⟨by simp only [size_setRow]; omega, fun h => by omega⟩ xA xA xA xA (by first | assumption | rfl | (simp (maxSteps := 1000000) (disch := first | exact xD | fail) [-Option.bind_some, -Aa, -Ab, Z0]; done)) ((Ad (by omega)).trans Z1) ((Ad (by omega)).trans Z2) ((Ad (by omega)).trans Z3)) hQ
end Go.Proofs.YtjhhommnkaemlaaGreat.X
namespace Go.Proofs.YtjhhommnkaemlaaGreat.X
open Go Go.Ev Go.RowKit
attribute [local irreducible] World.alloc World.setRow Go.Ev.dw
theorem O4 {M : Nat} {kind at' num key : Int} {text : ByteArray} {gone : Bool} {S : Nat → Prop} {cs : List Value} {st : WorldD} {w : World} (hf : BG M st) (hM : M ≤ 900000) (htx : text.size ≤ 1000) (ho : O tW S w cs st) :
  Ag (EV P 100 #[.agg cs.toArray, .agg #[i64 kind, i64 at', i64 num, i64 key, .string text, .bool gone]] w) (Step M S w cs) := by
 have ho0 := ho
 have ho := ho.lt
 obtain ⟨pa, pn, pc, sa, sn, sc, na, nn, nc, ha, hn, hc, rfl⟩ := ho.B6
 refine Ag.post fun Q hQ => ?_
 refine Ag.enter plain mixed (Nt _ _ _) (by kernel_rfl) (n := 2) (by kernel_rfl) rfl ?_
 simp (disch := first | exact xD | fail) [-Option.bind_some, qs, -Aa, -Ab]
 refine Ag.bind (AK _ _ _ _) ?_
 rintro _ rfl
 cases h1 : (decide (1 ≤ kind) && decide (kind ≤ 5))
 case true =>
  simp (disch := first | exact xD | fail) [-Option.bind_some, qs, -Aa, -Ab]
  refine Ag.bind (O3 hf hM htx (ho.ext xE)) ?_
  rintro ⟨_, w3⟩ h3
  obtain ⟨u1, n1, c1, u2, n2, c2, u3, n3, c3, u4, n4, c4, q, rfl, hg, hS⟩ := h3.out (g := w.heap.size + 1 + 1) xE (by omega) xB
  have hg' := hg.trans (by first | assumption | rfl | (simp (disch := first | exact xD | fail) [-Option.bind_some, qs, -Aa, -Ab, qm, hg]; done))
  simp (disch := first | exact xD | fail) [-Option.bind_some, qs, -Aa, -Ab, qm, hg']
  exact hQ _ hS
 simp (disch := first | exact xD | fail) [-Option.bind_some, qs, -Aa, -Ab]
 refine Ag.bind (AK _ _ _ _) ?_
 rintro _ rfl
 cases h2 : (decide (6 ≤ kind) && decide (kind ≤ 9))
 case true =>
  simp (disch := first | exact xD | fail) [-Option.bind_some, qs, -Aa, -Ab]
  refine Ag.bind (P0 hf hM (ho.ext xE)) ?_
  rintro ⟨_, w3⟩ h3
  obtain ⟨u1, n1, c1, u2, n2, c2, u3, n3, c3, u4, n4, c4, q, rfl, hg, hS⟩ := h3.out (g := w.heap.size + 1 + 1) xE (by omega) xB
  have hg' := hg.trans (by first | assumption | rfl | (simp (disch := first | exact xD | fail) [-Option.bind_some, qs, -Aa, -Ab, qm, hg]; done))
  simp (disch := first | exact xD | fail) [-Option.bind_some, qs, -Aa, -Ab, qm, hg']
  exact hQ _ hS
 simp (disch := first | exact xD | fail) [-Option.bind_some, qs, -Aa, -Ab]
 refine Ag.bind (AK _ _ _ _) ?_
 rintro _ rfl
 cases h3 : (decide (10 ≤ kind) && decide (kind ≤ 13))
 case true =>
  simp (disch := first | exact xD | fail) [-Option.bind_some, qs, -Aa, -Ab]
  refine Ag.bind (RR hf hM (ho.ext xE)) ?_
  rintro ⟨_, w3⟩ h3
  obtain ⟨u1, n1, c1, u2, n2, c2, u3, n3, c3, u4, n4, c4, q, rfl, hg, hS⟩ := h3.out (g := w.heap.size + 1 + 1) xE (by omega) xB
  have hg' := hg.trans (by first | assumption | rfl | (simp (disch := first | exact xD | fail) [-Option.bind_some, qs, -Aa, -Ab, qm, hg]; done))
  simp (disch := first | exact xD | fail) [-Option.bind_some, qs, -Aa, -Ab, qm, hg']
  exact hQ _ hS
 simp (disch := first | exact xD | fail) [-Option.bind_some, qs, -Aa, -Ab, qm]
 exact hQ _ (Step.fail hf ho0 xE)
end Go.Proofs.YtjhhommnkaemlaaGreat.X
namespace Go.Proofs.YtjhhommnkaemlaaGreat.X
open Go Go.Ev Go.RowKit
def MQ (me nodes : Int) : PlaceD := ⟨me, 0, BA nodes, [], List.replicate 3 [], false⟩
theorem QJ {me : Int} {m : Nat} (h : m < 4) : CV 0 (MQ me (1 + (m : Int))) :=
 ⟨QM h, by show ([] : List Ver).length ≤ 0; simp, fun v hv => by simp [MQ] at hv, by show (List.replicate 3 ([] : List Ver)).length = 3; simp, fun l hl => by
  obtain rfl := List.eq_of_mem_replicate hl
  exact ⟨by simp, fun v hv => by simp at hv⟩⟩
theorem RS {me nodes : Int} {g : Nat} {e : Env} {w : World} (e0 : e 0 = i64 me) (e1 : e 1 = i64 nodes) (e4 : e 4 = pt g 0) (X1 : hp w g = some (.cells #[i64 0, i64 0, .slice none 0 0, .slice none 0 0, .slice none 0 0, .bool false] 84 (0, 0))) :
  Ag (FI e w) fun r => ∃ ds, r.1 = .agg ds.toArray ∧ O Il (In w.heap.size r.2.heap.size) r.2 ds (MQ me nodes) ∧ Mod (fun b => b = g) w r.2 := by
 have y1 := Aq X1
 unfold MQ
 refine Ag.post fun Q hQ => ?_
 refine I0 _ _ ?_
 simp (disch := first | exact xD | fail) [-Option.bind_some, -Aa, -Ab, e0, e1, e4]
 constructor
 ·skip
  refine Ag.mono (Gw nodes) ?_
  rintro ⟨_, w1⟩ ⟨a1, c1, rfl, o1, E1⟩
  try dsimp only at a1 c1 o1 E1
  have zE1 := E1.size
  try simp only [qz] at zE1
  simp (disch := first | exact xD | fail) [-Option.bind_some, -Aa, -Ab]
  refine Ag.mono (O.make (L := AB) (mx := 5864062014805) (n := 3) (x0 := ([] : List Ver)) PM Rf rfl (by decide) (fun w => O.nil) (by decide) (by decide) (by decide)) ?_
  rintro ⟨_, w2⟩ ⟨rfl, o2, z2, E2⟩
  have zE2 := E2.size
  try simp only [] at zE2
  try dsimp only at o2 z2 E2
  have Y1 : hp w2 g = hp w g := (E2.Ah (by omega)).trans ((E1.Ah (by simp only [Ac]; omega)).trans (Bg _ _))
  simp (disch := first | exact xD | fail) [-Option.bind_some, qs, -Aa, -Ab, qm, e4, Y1, X1, FY]
  refine hQ _ ⟨[_, _, _, _, _, _], rfl, ((O.Eg (p := ⟨me, 0, BA nodes, [], List.replicate 3 [], false⟩) (S2 := fun _ => False) (o1.Ak (fun b hS hb => (Ad (by simp only [In, Ac] at hS; omega)).trans (E2.Ah hb))) O.nil (o2.Ak (fun b hS hb => Ad (by (try simp only [Ac] at *); omega))) (fun _ _ _ h => h) (fun b _ h h' => by simp only [In] at h; omega) (fun _ _ h => h.elim))).wide ?_, (Mod.of (show Ext w w2 from ((Cc w).tr E1).tr E2) (fun b => b = g)).AE (.inr rfl) _⟩
  rintro b (h | h | h) hb
  ·simp only [In, size_setRow, Ac] at *
   omega
  ·exact h.elim
  ·simp only [In, size_setRow, Ac] at *
   omega
 ·skip
  refine Ag.mono (O.make (L := AB) (mx := 5864062014805) (n := 3) (x0 := ([] : List Ver)) PM Rf rfl (by decide) (fun w => O.nil) (by decide) (by decide) (by decide)) ?_
  rintro ⟨_, w2⟩ ⟨rfl, o2, z2, E2⟩
  have zE2 := E2.size
  try simp only [qz] at zE2
  try dsimp only at o2 z2 E2
  rw [Ac] at z2
  simp (disch := first | exact xD | fail) [-Option.bind_some, -Aa, -Ab]
  refine Ag.mono (Gw nodes) ?_
  rintro ⟨_, w1⟩ ⟨a1, c1, rfl, o1, E1⟩
  try dsimp only at a1 c1 o1 E1
  have zE1 := E1.size
  try simp only [qz] at zE1
  have Y1 : hp w1 g = hp w g := (E1.Ah (by omega)).trans ((E2.Ah (by simp only [Ac]; omega)).trans (Bg _ _))
  have zE1' := E1.size
  simp (disch := first | exact xD | fail) [-Option.bind_some, qs, -Aa, -Ab, qm, e4, Y1, X1, FY]
  refine hQ _ ⟨[_, _, _, _, _, _], rfl, ((O.Eg (p := ⟨me, 0, BA nodes, [], List.replicate 3 [], false⟩) (S2 := fun _ => False) (o1.Ak (fun b hS hb => Ad (by simp only [In] at hS; omega))) O.nil (o2.Ak (fun b hS hb => (Ad (by rw [Ac] at hS; omega)).trans (E1.Ah hb))) (fun _ _ _ h => h) (fun b _ h h' => by rw [Ac] at h'; simp only [In] at h; omega) (fun _ _ h => h.elim))).wide ?_, (Mod.of (show Ext w w1 from (Cc w).tr (E2.tr E1)) (fun b => b = g)).AE (.inr rfl) _⟩
  rintro b (h | h | h) hb
  ·simp only [In, size_setRow, Ac] at *
   omega
  ·exact h.elim
  ·simp only [In, size_setRow, Ac] at *
   omega
theorem RT (me nodes : Int) {w : World} : Ag (EV P 113 #[i64 me, i64 nodes] w) fun r => ∃ ds, r.1 = .agg ds.toArray ∧ O Il (In w.heap.size r.2.heap.size) r.2 ds (MQ me nodes) ∧ Ext w r.2 := by
 refine Ag.post fun Q hQ => ?_
 refine Ag.enter plain mixed (Mr _ _ _) (by kernel_rfl) (n := 2) (by kernel_rfl) rfl ?_
 simp (disch := first | exact xD | fail) [-Option.bind_some, -Aa, -Ab]
 refine Ag.mono (RS (g := w.heap.size) rfl rfl rfl (by first | assumption | rfl | (simp (disch := first | exact xD | fail) [-Option.bind_some, qs, -Aa, -Ab]; done))) ?_
 rintro r ⟨ds, h1, h2, h3⟩
 exact hQ _ ⟨ds, h1, h2.wide (fun b h _ => by simp only [In, World.size_alloc] at h; simp only [In]; omega), Mod.after xE h3 (fun b h1 h2 => by have h2 : b = w.heap.size := h2; omega)⟩
attribute [local irreducible] World.alloc World.setRow Go.Ev.dw
theorem RU {g4 g5 sN c pn : Nat} {a : Option Addr} {T1 : Nat → Prop} {ps : List PlaceD} {w0 w1 : World} (hg4 : w0.heap.size ≤ g4) (hg5 : w0.heap.size ≤ g5) (h45 : g4 ≠ g5) (hg4' : g4 < w1.heap.size) (hg5' : g5 < w1.heap.size) (hps : ps.length = 3) (hpf : ∀ p ∈ ps, CV 0 p) (hsN : sN ≤ 4) (E01 : Ext w0 w1)
  (op : O (Ey 36 49 86 42 84) T1 w1 [.slice a 3 c] ps) (hT1 : ∀ b, T1 b → w0.heap.size ≤ b ∧ b < w1.heap.size ∧ b ≠ g4 ∧ b ≠ g5) :
  ∀ (d k : Nat) (e : Env) (W : World) (a1 : Option Addr) (c1 : Nat) (ss : List SessD), k + d = sN → e 1 = i64 sN → e 4 = pt g4 0 → e 5 = pt g5 0 → e 7 = i64 k → hp W g5 = some (.cells #[.slice a 3 c, .slice a1 k c1, .slice none 0 0, .slice none 0 0] 77 (0, 0)) → hp W g4 = some (.cells #[.slice none 0 0, .slice none 0 0, .slice none 0 0, .slice none 0 0] 77 (0, 0)) →
   ss.length = k → (∀ s ∈ ss, SQ s) → O (Ii 36 129) (In w1.heap.size W.heap.size) W [.slice a1 k c1] ss → (∀ b, T1 b → hp W b = hp w1 b) → Ext w0 W → w1.heap.size ≤ W.heap.size →
   Ag (DV e W) fun r => ∃ (cs : List Value) (st : WorldD), r.1 = .agg cs.toArray ∧ BG 0 st ∧ O tW (In w0.heap.size r.2.heap.size) r.2 cs st ∧ Ext w0 r.2 := by
 intro d
 induction d with
 | zero =>
  intro k e W a1 c1 ss hd e1 e4 e5 e7 X5 X4 hss hsf os hk E0 hz
  have zE0 := E0.size
  try simp only [qz] at zE0
  rw [FV]
  obtain rfl : k = sN := by omega
  refine Ag.post fun Q hQ => ?_
  simp (disch := first | exact xD | fail) [-Option.bind_some, -Aa, -Ab, qm, e1, e4, e5, e7, X4, X5]
  have Pt : RO W ⟨ps, ss, [], []⟩ (.slice a 3 c) (.slice a1 k c1) (.slice none 0 0) (.slice none 0 0) T1 (In w1.heap.size W.heap.size) (fun _ => False) (fun _ => False) :=
   ⟨op.Ak fun b hb _ => hk b hb, os, O.nil, O.nil, fun b _ h h' => by have := hT1 b h; simp only [In] at h'; omega, fun _ _ _ h => h, fun _ _ _ h => h, fun _ _ _ h => h, fun _ _ _ h => h, fun _ _ _ h => h⟩
  refine hQ _ ⟨_, _, rfl, ⟨hps, hpf, by show ss.length ≤ 4; omega, hsf, by show ([] : List FrameD).length ≤ 12; simp, fun f h => by simp at h, by show ([] : List Done).length ≤ 80; simp⟩, (Pt.mk'.Ak fun b hb hbl => Ad ?_).wide ?_, E0.set hg4 _⟩
  ·rcases hb with h | h | h | h
   ·exact (hT1 b h).2.2.1
   ·simp only [In] at h; omega
   ·exact h.elim
   ·exact h.elim
  ·intro b hb hbl
   simp only [In, size_setRow] at hb hbl ⊢
   rcases hb with h | h | h | h
   ·have := hT1 b h; omega
   ·omega
   ·exact h.elim
   ·exact h.elim
 | succ d ih =>
  intro k e W a1 c1 ss hd e1 e4 e5 e7 X5 X4 hss hsf os hk E0 hz
  have zE0 := E0.size
  try simp only [qz] at zE0
  rw [FV]
  have hk4 : k < 4 := by omega
  have hkN : k < sN := by omega
  have hr : ((k : Int) % 3) = ((k % 3 : Nat) : Int) := by omega
  have hrt : (k : Int).tmod 3 = ((k % 3 : Nat) : Int) := by rw [Int.tmod_eq_emod_of_nonneg (by omega)]; omega
  have y5 := Aq X5
  have y4 := Aq X4
  refine Ag.post fun Q hQ => ?_
  simp (disch := first | exact xD | fail) [-Option.bind_some, qs, -Aa, -Ab, e1, e5, e7, X5, show (k : Int) < sN by omega, NV, hrt]
  refine Ag.bind (HP) ?_
  rintro ⟨_, w2⟩ ⟨a7, c7, rfl, o7, E1⟩
  try dsimp only at a7 c7 o7 E1
  have zE1 := E1.size
  try simp only [qz] at zE1
  simp only [Ac] at zE1 o7
  have F1 : Ext W w2 := xE
  have N5 := (F1.Ah y5).trans X5
  have N4 := (F1.Ah y4).trans X4
  simp (disch := first | exact xD | fail) [-Option.bind_some, qs, -Aa, -Ab, N5]
  refine Ag.bind (O.app (L := TU) (mx := 2513169434916) (S1 := In W.heap.size w2.heap.size) (x := ⟨(k : Int) % 3, List.replicate 4 ⟨0, 0⟩, ⟨0, 0⟩, 0⟩) (cs := [i64 ((k : Int) % 3), .slice a7 4 c7, i64 0, i64 0, i64 0]) Ra Re rfl (by decide) (os.ext (F1.al _)) (O.Az.2 ⟨a7, c7, rfl, o7.Ak fun b hb hbl => Ae hbl⟩) (fun b hb h1 h2 => by simp only [In] at h1 h2; omega) (At.nw rfl) (by omega) (by decide) (by decide)) ?_
  rintro ⟨_, w3⟩ ⟨a8, c8, rfl, o8, M8⟩
  have zM8 := M8.size
  try simp only [qz] at zM8
  try dsimp only at o8 M8
  have zM8 := M8.size
  simp only [World.size_alloc] at zM8 o8
  have nI : ∀ b, b < w1.heap.size → ¬ In w1.heap.size W.heap.size b := fun b h h' => by simp only [In] at h'; omega
  have L5 := (M8.Ah g5 xB (nI _ hg5')).trans ((Ae (by omega)).trans N5)
  have L4 := (M8.Ah g4 xB (nI _ hg4')).trans ((Ae (by omega)).trans N4)
  have F3 : Ext w0 w3 := Mod.after (E0.tr (F1.al _)) M8 (fun b h1 h2 => by have := E01.size; simp only [In] at h2; omega)
  rw [hss] at o8
  rw [hss]
  simp (disch := first | exact xD | fail) [-Option.bind_some, -Aa, -Ab, qm, L5]
  refine Ag.mono (ih (k + 1) _ _ a8 c8 (ss ++ [⟨(k : Int) % 3, List.replicate 4 ⟨0, 0⟩, ⟨0, 0⟩, 0⟩]) (by omega) xA xA xA xA (by first | assumption | rfl | (simp (disch := first | exact xD | fail) [-Option.bind_some, -Aa, -Ab, L5]; done)) ((Ad h45).trans L4) (by simp; omega) ?_ ((o8.Ak fun b hb hbl => Ad ?_).wide ?_) (fun b hb => (Ad (hT1 b hb).2.2.2).trans ((M8.Ah b (by have := (hT1 b hb).2.1; simp only [World.size_alloc]; omega) (nI _ (hT1 b hb).2.1)).trans ((Ae (by have := (hT1 b hb).2.1; omega)).trans ((F1.Ah (by have := (hT1 b hb).2.1; omega)).trans (hk b hb))))) (F3.set hg5 _) (by simp only [size_setRow]; omega)) hQ
  ·intro s hs
   rcases List.mem_append.1 hs with h | h
   ·exact hsf s h
   ·rw [List.mem_singleton.1 h]
    exact ⟨by show (0 : Int) ≤ (k : Int) % 3; omega, by show (k : Int) % 3 ≤ 2; omega, by simp, Int.le_refl 0, by show (0 : Int) ≤ 3; decide⟩
  ·rcases hb with h | h | h
   ·simp only [In] at h; omega
   ·simp only [In] at h; omega
   ·omega
  ·intro b hb hbl
   simp only [In, size_setRow] at hb hbl ⊢
   omega
theorem RV {g4 g5 sN m : Nat} {w0 : World} (hg4 : w0.heap.size ≤ g4) (hg5 : w0.heap.size ≤ g5) (h45 : g4 < g5) (hm : m < 4) (hsN : sN ≤ 4) :
  ∀ (d k : Nat) (e : Env) (W : World) (a : Option Addr) (c : Nat) (ps : List PlaceD), k + d = 3 → e 0 = i64 (1 + (m : Int)) → e 1 = i64 sN → e 4 = pt g4 0 → e 5 = pt g5 0 → e 6 = i64 k → hp W g5 = some (.cells #[.slice a k c, .slice none 0 0, .slice none 0 0, .slice none 0 0] 77 (0, 0)) → hp W g4 = some (.cells #[.slice none 0 0, .slice none 0 0, .slice none 0 0, .slice none 0 0] 77 (0, 0)) →
   ps.length = k → (∀ p ∈ ps, CV 0 p) → O (Ey 36 49 86 42 84) (In (g5 + 1) W.heap.size) W [.slice a k c] ps → Ext w0 W →
   Ag (DU e W) fun r => ∃ (cs : List Value) (st : WorldD), r.1 = .agg cs.toArray ∧ BG 0 st ∧ O tW (In w0.heap.size r.2.heap.size) r.2 cs st ∧ Ext w0 r.2 := by
 intro d
 induction d with
 | zero =>
  intro k e W a c ps hd e0 e1 e4 e5 e6 X5 X4 hps hpf op E0
  have zE0 := E0.size
  try simp only [qz] at zE0
  rw [FU]
  obtain rfl : k = 3 := by omega
  have y5 := Aq X5
  have y4 := Aq X4
  refine Ag.post fun Q hQ => ?_
  simp (disch := first | exact xD | fail) [-Option.bind_some, -Aa, -Ab, e6]
  exact Ag.mono (RU (g4 := g4) (g5 := g5) (pn := 0) (T1 := In (g5 + 1) W.heap.size) hg4 hg5 (by omega) y4 y5 hps hpf hsN E0 op (fun b h => by simp only [In] at h; omega) sN 0 _ W none 0 [] (by omega) xA xA xA rfl X5 X4 rfl (fun s h => by simp at h) O.nil (fun b _ => rfl) E0 (Nat.le_refl _)) hQ
 | succ d ih =>
  intro k e W a c ps hd e0 e1 e4 e5 e6 X5 X4 hps hpf op E0
  have zE0 := E0.size
  try simp only [qz] at zE0
  rw [FU]
  have hk3 : k < 3 := by omega
  have y5 := Aq X5
  have y4 := Aq X4
  refine Ag.post fun Q hQ => ?_
  simp (disch := first | exact xD | fail) [-Option.bind_some, qs, -Aa, -Ab, e0, e5, e6, X5, show (k : Int) < 3 by omega]
  refine Ag.bind (RT (k : Int) (1 + (m : Int))) ?_
  rintro ⟨_, w2⟩ ⟨ds, rfl, o7, E1⟩
  try dsimp only at ds o7 E1
  have zE1 := E1.size
  try simp only [qz] at zE1
  simp only [Ac] at zE1 o7
  have o7' := o7.d
  obtain ⟨ad, cd, ae, ce, af, cf, rfl, _, _, _⟩ := D.place.1 o7'
  have F1 : Ext W w2 := xE
  have N5 := (F1.Ah y5).trans X5
  have N4 := (F1.Ah y4).trans X4
  generalize hnp : MQ (k : Int) (1 + (m : Int)) = np at *
  simp (disch := first | exact xD | fail) [-Option.bind_some, qs, -Aa, -Ab, N5]
  refine Ag.bind (O.app (L := Il) (mx := 1466015503701) (S1 := In W.heap.size w2.heap.size) (x := np) (cs := [i64 np.me, i64 np.clock, .slice ad np.chain.length cd, .slice ae np.log.length ce, .slice af np.Bs.length cf, .bool np.fell]) Q9 SF rfl (by decide) (op.ext (F1.al _)) (o7.Ak fun b hb hbl => Ae hbl) (fun b hb h1 h2 => by simp only [In] at h1 h2; omega) (At.nw rfl) (by omega) (by decide) (by decide)) ?_
  rintro ⟨_, w3⟩ ⟨a8, c8, rfl, o8, M8⟩
  have zM8 := M8.size
  try simp only [qz] at zM8
  try dsimp only at o8 M8
  have zM8 := M8.size
  simp only [World.size_alloc] at zM8 o8
  have nI : ∀ b, b < g5 + 1 → ¬ In (g5 + 1) W.heap.size b := fun b h h' => by simp only [In] at h'; omega
  have L5 := (M8.Ah g5 xB (nI _ (by omega))).trans ((Ae (by omega)).trans N5)
  have L4 := (M8.Ah g4 xB (nI _ (by omega))).trans ((Ae (by omega)).trans N4)
  have F3 : Ext w0 w3 := Mod.after (E0.tr (F1.al _)) M8 (fun b h1 h2 => by simp only [In] at h2; omega)
  rw [hps] at o8
  rw [hps]
  simp (disch := first | exact xD | fail) [-Option.bind_some, -Aa, -Ab, qm, L5]
  refine Ag.mono (ih (k + 1) _ _ a8 c8 (ps ++ [np]) (by omega) xA xA xA xA xA (by first | assumption | rfl | (simp (disch := first | exact xD | fail) [-Option.bind_some, -Aa, -Ab, L5]; done)) ((Ad (by omega)).trans L4) (by simp; omega) ?_ ((o8.Ak fun b hb hbl => Ad ?_).wide ?_) (F3.set hg5 _)) hQ
  ·intro s hs
   rcases List.mem_append.1 hs with h | h
   ·exact hpf s h
   ·rw [List.mem_singleton.1 h, ← hnp]
    exact QJ hm
  ·rcases hb with h | h | h
   ·simp only [In] at h; omega
   ·simp only [In] at h; omega
   ·omega
  ·intro b hb hbl
   simp only [In, size_setRow] at hb hbl ⊢
   omega
theorem PF {m sN : Nat} (hm : m < 4) (hsN : sN ≤ 4) {w : World} :
  Ag (EV P 99 #[i64 (1 + (m : Int)), i64 sN] w) fun r => ∃ (cs : List Value) (st : WorldD), r.1 = .agg cs.toArray ∧ BG 0 st ∧ O tW (In w.heap.size r.2.heap.size) r.2 cs st ∧ Ext w r.2 := by
 refine Ag.post fun Q hQ => ?_
 refine Ag.enter plain mixed (Mo _ _ _) (by kernel_rfl) (n := 2) (by kernel_rfl) rfl ?_
 simp (disch := first | exact xD | fail) [-Option.bind_some, qs, -Aa, -Ab, qm]
 exact Ag.mono (RV (g4 := w.heap.size) (g5 := w.heap.size + 1) (w0 := w) (Nat.le_refl _) (by omega) (by omega) hm hsN 3 0 _ _ none 0 [] (by omega) xA xA xA xA xA (by first | assumption | rfl | (simp (disch := first | exact xD | fail) [-Option.bind_some, qs, -Aa, -Ab]; done)) (by first | assumption | rfl | (simp (disch := first | exact xD | fail) [-Option.bind_some, qs, -Aa, -Ab]; done)) rfl (fun p h => by simp at h) O.nil xE) hQ
end Go.Proofs.YtjhhommnkaemlaaGreat.X
namespace Go.Proofs.YtjhhommnkaemlaaGreat.X
open Go Go.Ev Go.RowKit
attribute [local irreducible] World.alloc World.setRow Go.Ev.dw
def BZ (w0 : World) (B g p : Nat) (r : Value × World) : Prop := ∃ (kind at' num key : Int) (text : ByteArray) (gone : Bool) (p' : Nat), r.1 = .agg #[i64 kind, i64 at', i64 num, i64 key, .string text, .bool gone] ∧ text.size ≤ 1000 ∧ p' ≤ p + 10 ∧ R r.2 B g p' ∧ Mod (fun b => b = g) w0 r.2
theorem BZ.fin {w0 w : World} {B g p0 p' b4 : Nat} {kind at' num key : Int} {text : ByteArray} {gone : Bool} {z : Array Value} (hz : w0.heap.size ≤ w.heap.size) (hb4 : w0.heap.size ≤ b4) (hg0 : g < w0.heap.size) (htx : text.size ≤ 1000) (hp' : p' ≤ p0 + 10) (hR : R w B g p') (hN : Mod (fun b => b = g) w0 w) : BZ w0 B g p0 (.agg #[i64 kind, i64 at', i64 num, i64 key, .string text, .bool gone], w.setRow b4 z) :=
 ⟨kind, at', num, key, text, gone, p', rfl, htx, hp', hR.Ak (fun b h _ => Ad (by have := hR.lt; rcases h with h | h <;> omega)), hN.AE (.inl hb4) _⟩
theorem QK : ∀ n ∈ Ll, n.size ≤ 1000 := by decide
theorem GO {w0 w : World} {B g p b3 b4 m a : Nat} {q : Bool} {T : Nat → Prop} {cs : List Value} {st : WorldD} {e : Env} (hst : st.places.length = 3) (hgot : ∀ p ∈ st.places, p.Bs.length = 3) (ho : D tW T w0 cs st) (hT : ∀ b, T b → b ≠ g) (hp0 : p ≤ 800000000000) (ha3 : a < 3) (hb3 : w0.heap.size ≤ b3) (hb4 : w0.heap.size ≤ b4) (h34 : b3 ≠ b4) (hg0 : g < w0.heap.size)
  (R0 : R w B g p) (N0 : Mod (fun b => b = g) w0 w) (e0 : e 0 = pt g 0) (e3 : e 3 = pt b3 0) (e4 : e 4 = pt b4 0) (e5 : e 5 = i64 a) (e10 : e 10 = i64 m) (V3_0 : hp w b3 = some (.cells cs.toArray 77 (0, 0))) (V4_0 : hp w b4 = some (.cells #[i64 0, i64 0, i64 0, i64 0, .string ⟨#[]⟩, .bool false] 137 (0, 0))) (e82 : e 82 = .bool q) : Ag (CA e w) (BZ w0 B g p) := by
 rw [HF]
 refine Ag.post fun Q hQ => ?_
 cases q
 ·simp (disch := first | exact xD | fail) [-Option.bind_some, -Aa, -Ab, e0, e4, e82]
  refine Ag.bind (Bf (ints := [11, 11, 11, 12, 13, 0, 14]) (k := 7) (by omega) (by omega) (by omega) rfl (At.nw rfl) (by have := N0.size; omega) (R0.ext xE)) ?_
  rintro ⟨_, w1⟩ ⟨m1, hm1, rfl, R1, K1⟩
  try dsimp only at R1 K1
  have zK1 := K1.size
  try simp only [World.size_alloc] at zK1
  have N1 : Mod (fun b => b = g) w0 w1 := (N0.al _).tr K1
  have V4_1 := (K1.Ah b4 (by have := Aq V4_0; (try simp only [World.size_alloc]); omega) (by omega)).trans ((Ae (Aq V4_0)).trans V4_0)
  simp (disch := first | exact xD | fail) [-Option.bind_some, -Aa, -Ab]
  refine Ag.bind (Al (k := 3) (by omega) (by omega) (by omega) (R1.ext xE)) ?_
  rintro ⟨_, w2⟩ ⟨m2, rfl, hm2, R2, K2⟩
  try dsimp only at R2 K2
  have zK2 := K2.size
  try simp only [World.size_alloc] at zK2
  have N2 : Mod (fun b => b = g) w0 w2 := (N1).tr K2
  have V4_2 := (K2.Ah b4 (by have := Aq V4_1; (try simp only [World.size_alloc]); omega) (by omega)).trans (V4_1)
  simp (disch := first | exact xD | fail) [-Option.bind_some, -Aa, -Ab, qm, V4_2]
  exact hQ _ (BZ.fin (p0 := p) (by have := N2.size; omega) hb4 hg0 (by show ByteArray.size ⟨#[]⟩ ≤ 1000; decide) (by omega) R2 N2)
 ·simp (disch := first | exact xD | fail) [-Option.bind_some, -Aa, -Ab, e0, e4, e5, e82]
  refine Ag.bind (Al (k := 3) (by omega) (by omega) (by omega) (R0.ext xE)) ?_
  rintro ⟨_, w1⟩ ⟨m1, rfl, hm1, R1, K1⟩
  try dsimp only at R1 K1
  have zK1 := K1.size
  try simp only [World.size_alloc] at zK1
  have N1 : Mod (fun b => b = g) w0 w1 := (N0).tr K1
  have V4_1 := (K1.Ah b4 (by have := Aq V4_0; (try simp only [World.size_alloc]); omega) (by omega)).trans (V4_0)
  have V3_1 := (K1.Ah b3 (by have := Aq V3_0; (try simp only [World.size_alloc]); omega) (by omega)).trans (V3_0)
  simp (disch := first | exact xD | fail) [-Option.bind_some, -Aa, -Ab]
  obtain ⟨pa, pc, sa, sc, na, nc, ha, hc, rfl, dp, _, _, _⟩ := D.world.1 ho
  have hk : m1 < st.places.length := by omega
  obtain ⟨pl, hpl, _⟩ := Am hk
  have hg3 := hgot pl (List.mem_of_getElem? hpl)
  have dp1 : D (Ey 36 49 86 42 84) T w1 [.slice pa st.places.length pc] st.places := dp.Ak fun b hb hbl => N1.Ah b hbl (hT b hb)
  obtain ⟨b5, o5, cs5, rfl, A5, D5, _, _⟩ := dp1.at (by show 0 < 6; decide) hpl
  obtain ⟨ac, cc, al, cl, ag, cg, rfl, _, _, q3⟩ := D.place.1 D5
  obtain ⟨gl, hgl, _⟩ := Am (l := pl.Bs) (k := a) (by omega)
  obtain ⟨b6, o6, cs6, rfl, A6, D6, _, _⟩ := q3.at (by decide) hgl
  obtain ⟨a7, c7, rfl, _⟩ := D6.GD
  have t0 := A5 0 _ rfl
  have t1 := A5 1 _ rfl
  have t2 := A5 2 _ rfl
  have t3 := A5 3 _ rfl
  have t4 := A5 4 _ rfl
  have t5 := A5 5 _ rfl
  simp only [Nat.add_zero] at t0 t1 t2 t3 t4 t5
  simp only [Hi] at t0 t1 t2 t3 t4 t5
  have u0 := A6 0 _ rfl
  simp only [Nat.add_zero] at u0
  simp only [Gq, Nat.mul_one] at u0
  simp (disch := first | exact xD | fail) [-Option.bind_some, -Aa, -Ab, qm, e3, V4_1, V3_1, CF, HU, hg3, t4, u0]
  exact hQ _ (BZ.fin (p0 := p) (by have := N1.size; omega) hb4 hg0 (by show ByteArray.size ⟨#[]⟩ ≤ 1000; decide) (by omega) R1 N1)
theorem GP {w0 w : World} {B g p b3 b4 m a : Nat} {q : Bool} {T : Nat → Prop} {cs : List Value} {st : WorldD} {e : Env} (hst : st.places.length = 3) (hgot : ∀ p ∈ st.places, p.Bs.length = 3) (ho : D tW T w0 cs st) (hT : ∀ b, T b → b ≠ g) (hp0 : p ≤ 800000000000) (ha3 : a < 3) (hb3 : w0.heap.size ≤ b3) (hb4 : w0.heap.size ≤ b4) (h34 : b3 ≠ b4) (hg0 : g < w0.heap.size)
  (R0 : R w B g p) (N0 : Mod (fun b => b = g) w0 w) (e0 : e 0 = pt g 0) (e3 : e 3 = pt b3 0) (e4 : e 4 = pt b4 0) (e5 : e 5 = i64 a) (e10 : e 10 = i64 m) (V3_0 : hp w b3 = some (.cells cs.toArray 77 (0, 0))) (V4_0 : hp w b4 = some (.cells #[i64 0, i64 0, i64 0, i64 0, .string ⟨#[]⟩, .bool false] 137 (0, 0))) (e75 : e 75 = .bool q) : Ag (Cz e w) (BZ w0 B g p) := by
 rw [HE]
 refine Ag.post fun Q hQ => ?_
 cases q
 ·skip
  cases h17 : ((m : Int) == 17)
  case true =>
   simp (disch := first | exact xD | fail) [-Option.bind_some, -Aa, -Ab, e10, e75, h17]
   exact Ag.mono (GO (q := true) hst hgot ho hT hp0 ha3 hb3 hb4 h34 hg0 R0 N0 xA xA xA xA xA V3_0 V4_0 xA) hQ
  cases h18 : ((m : Int) == 18)
  case true =>
   simp (disch := first | exact xD | fail) [-Option.bind_some, -Aa, -Ab, e10, e75, h17, h18]
   exact Ag.mono (GO (q := true) hst hgot ho hT hp0 ha3 hb3 hb4 h34 hg0 R0 N0 xA xA xA xA xA V3_0 V4_0 xA) hQ
  simp (disch := first | exact xD | fail) [-Option.bind_some, -Aa, -Ab, e10, e75, h17, h18]
  exact Ag.mono (GO (q := false) hst hgot ho hT hp0 ha3 hb3 hb4 h34 hg0 R0 N0 xA xA xA xA xA V3_0 V4_0 xA) hQ
 ·simp (disch := first | exact xD | fail) [-Option.bind_some, -Aa, -Ab, e0, e4, e5, e75]
  refine Ag.bind (Al (k := 3) (by omega) (by omega) (by omega) (R0.ext xE)) ?_
  rintro ⟨_, w1⟩ ⟨m1, rfl, hm1, R1, K1⟩
  try dsimp only at R1 K1
  have zK1 := K1.size
  try simp only [World.size_alloc] at zK1
  have N1 : Mod (fun b => b = g) w0 w1 := (N0).tr K1
  have V4_1 := (K1.Ah b4 (by have := Aq V4_0; (try simp only [World.size_alloc]); omega) (by omega)).trans (V4_0)
  simp (disch := first | exact xD | fail) [-Option.bind_some, -Aa, -Ab, qm, V4_1]
  exact hQ _ (BZ.fin (p0 := p) (by have := N1.size; omega) hb4 hg0 (by show ByteArray.size ⟨#[]⟩ ≤ 1000; decide) (by omega) R1 N1)
theorem Fs {w0 w : World} {B g p b3 b4 m a : Nat} {q : Bool} {T : Nat → Prop} {cs : List Value} {st : WorldD} {e : Env} (hst : st.places.length = 3) (hgot : ∀ p ∈ st.places, p.Bs.length = 3) (ho : D tW T w0 cs st) (hT : ∀ b, T b → b ≠ g) (hp0 : p ≤ 800000000000) (ha3 : a < 3) (hb3 : w0.heap.size ≤ b3) (hb4 : w0.heap.size ≤ b4) (h34 : b3 ≠ b4) (hg0 : g < w0.heap.size)
  (R0 : R w B g p) (N0 : Mod (fun b => b = g) w0 w) (e0 : e 0 = pt g 0) (e3 : e 3 = pt b3 0) (e4 : e 4 = pt b4 0) (e5 : e 5 = i64 a) (e10 : e 10 = i64 m) (V3_0 : hp w b3 = some (.cells cs.toArray 77 (0, 0))) (V4_0 : hp w b4 = some (.cells #[i64 0, i64 0, i64 0, i64 0, .string ⟨#[]⟩, .bool false] 137 (0, 0))) (e57 : e 57 = .bool q) : Ag (BR e w) (BZ w0 B g p) := by
 rw [HD]
 refine Ag.post fun Q hQ => ?_
 cases q
 ·skip
  cases h14 : ((m : Int) == 14)
  case true =>
   simp (disch := first | exact xD | fail) [-Option.bind_some, -Aa, -Ab, e0, e4, e5, e10, e57, h14]
   refine Ag.bind (Bf (ints := [7, 8]) (k := 2) (by omega) (by omega) (by omega) rfl (At.nw rfl) (by have := N0.size; omega) (R0.ext xE)) ?_
   rintro ⟨_, w1⟩ ⟨m1, hm1, rfl, R1, K1⟩
   try dsimp only at R1 K1
   have zK1 := K1.size
   try simp only [World.size_alloc] at zK1
   have N1 : Mod (fun b => b = g) w0 w1 := (N0.al _).tr K1
   have V4_1 := (K1.Ah b4 (by have := Aq V4_0; (try simp only [World.size_alloc]); omega) (by omega)).trans ((Ae (Aq V4_0)).trans V4_0)
   simp (disch := first | exact xD | fail) [-Option.bind_some, -Aa, -Ab]
   refine Ag.bind (Al (k := 4) (by omega) (by omega) (by omega) (R1.ext xE)) ?_
   rintro ⟨_, w2⟩ ⟨m2, rfl, hm2, R2, K2⟩
   try dsimp only at R2 K2
   have zK2 := K2.size
   try simp only [World.size_alloc] at zK2
   have N2 : Mod (fun b => b = g) w0 w2 := (N1).tr K2
   have V4_2 := (K2.Ah b4 (by have := Aq V4_1; (try simp only [World.size_alloc]); omega) (by omega)).trans (V4_1)
   simp (disch := first | exact xD | fail) [-Option.bind_some, -Aa, -Ab, qm, V4_2]
   exact hQ _ (BZ.fin (p0 := p) (by have := N2.size; omega) hb4 hg0 (by show ByteArray.size ⟨#[]⟩ ≤ 1000; decide) (by omega) R2 N2)
  cases h15 : ((m : Int) == 15)
  case true =>
   simp (disch := first | exact xD | fail) [-Option.bind_some, -Aa, -Ab, e10, e57, h14, h15]
   exact Ag.mono (GP (q := true) hst hgot ho hT hp0 ha3 hb3 hb4 h34 hg0 R0 N0 xA xA xA xA xA V3_0 V4_0 xA) hQ
  cases h16 : ((m : Int) == 16)
  case true =>
   simp (disch := first | exact xD | fail) [-Option.bind_some, -Aa, -Ab, e10, e57, h14, h15, h16]
   exact Ag.mono (GP (q := true) hst hgot ho hT hp0 ha3 hb3 hb4 h34 hg0 R0 N0 xA xA xA xA xA V3_0 V4_0 xA) hQ
  simp (disch := first | exact xD | fail) [-Option.bind_some, -Aa, -Ab, e10, e57, h14, h15, h16]
  exact Ag.mono (GP (q := false) hst hgot ho hT hp0 ha3 hb3 hb4 h34 hg0 R0 N0 xA xA xA xA xA V3_0 V4_0 xA) hQ
 ·simp (disch := first | exact xD | fail) [-Option.bind_some, -Aa, -Ab, e0, e4, e5, e57]
  refine Ag.bind (Bf (ints := [0, 0, 1, 2]) (k := 4) (by omega) (by omega) (by omega) rfl (At.nw rfl) (by have := N0.size; omega) (R0.ext xE)) ?_
  rintro ⟨_, w1⟩ ⟨m1, hm1, rfl, R1, K1⟩
  try dsimp only at R1 K1
  have zK1 := K1.size
  try simp only [World.size_alloc] at zK1
  have N1 : Mod (fun b => b = g) w0 w1 := (N0.al _).tr K1
  have V4_1 := (K1.Ah b4 (by have := Aq V4_0; (try simp only [World.size_alloc]); omega) (by omega)).trans ((Ae (Aq V4_0)).trans V4_0)
  simp (disch := first | exact xD | fail) [-Option.bind_some, -Aa, -Ab, qm, V4_1]
  exact hQ _ (BZ.fin (p0 := p) (by have := N1.size; omega) hb4 hg0 (by show ByteArray.size ⟨#[]⟩ ≤ 1000; decide) (by omega) R1 N1)
theorem Ft {w0 w : World} {B g p b3 b4 m a : Nat} {q : Bool} {T : Nat → Prop} {cs : List Value} {st : WorldD} {e : Env} (hst : st.places.length = 3) (hgot : ∀ p ∈ st.places, p.Bs.length = 3) (ho : D tW T w0 cs st) (hT : ∀ b, T b → b ≠ g) (hp0 : p ≤ 800000000000) (ha3 : a < 3) (hb3 : w0.heap.size ≤ b3) (hb4 : w0.heap.size ≤ b4) (h34 : b3 ≠ b4) (hg0 : g < w0.heap.size)
  (R0 : R w B g p) (N0 : Mod (fun b => b = g) w0 w) (e0 : e 0 = pt g 0) (e3 : e 3 = pt b3 0) (e4 : e 4 = pt b4 0) (e5 : e 5 = i64 a) (e10 : e 10 = i64 m) (V3_0 : hp w b3 = some (.cells cs.toArray 77 (0, 0))) (V4_0 : hp w b4 = some (.cells #[i64 0, i64 0, i64 0, i64 0, .string ⟨#[]⟩, .bool false] 137 (0, 0))) (e36 : e 36 = .bool q) : Ag (BQ e w) (BZ w0 B g p) := by
 rw [HC]
 refine Ag.post fun Q hQ => ?_
 cases q
 ·skip
  cases h10 : ((m : Int) == 10)
  case true =>
   simp (disch := first | exact xD | fail) [-Option.bind_some, -Aa, -Ab, e0, e4, e10, e36, h10]
   refine Ag.bind (Bf (ints := [4, 5]) (k := 2) (by omega) (by omega) (by omega) rfl (At.nw rfl) (by have := N0.size; omega) (R0.ext xE)) ?_
   rintro ⟨_, w1⟩ ⟨m1, hm1, rfl, R1, K1⟩
   try dsimp only at R1 K1
   have zK1 := K1.size
   try simp only [World.size_alloc] at zK1
   have N1 : Mod (fun b => b = g) w0 w1 := (N0.al _).tr K1
   have V4_1 := (K1.Ah b4 (by have := Aq V4_0; (try simp only [World.size_alloc]); omega) (by omega)).trans ((Ae (Aq V4_0)).trans V4_0)
   simp (disch := first | exact xD | fail) [-Option.bind_some, -Aa, -Ab]
   refine Ag.bind (Al (k := 4) (by omega) (by omega) (by omega) (R1.ext xE)) ?_
   rintro ⟨_, w2⟩ ⟨m2, rfl, hm2, R2, K2⟩
   try dsimp only at R2 K2
   have zK2 := K2.size
   try simp only [World.size_alloc] at zK2
   have N2 : Mod (fun b => b = g) w0 w2 := (N1).tr K2
   have V4_2 := (K2.Ah b4 (by have := Aq V4_1; (try simp only [World.size_alloc]); omega) (by omega)).trans (V4_1)
   simp (disch := first | exact xD | fail) [-Option.bind_some, -Aa, -Ab]
   refine Ag.bind (Al (k := 3) (by omega) (by omega) (by omega) (R2.ext xE)) ?_
   rintro ⟨_, w3⟩ ⟨m3, rfl, hm3, R3, K3⟩
   try dsimp only at R3 K3
   have zK3 := K3.size
   try simp only [World.size_alloc] at zK3
   have N3 : Mod (fun b => b = g) w0 w3 := (N2).tr K3
   have V4_3 := (K3.Ah b4 (by have := Aq V4_2; (try simp only [World.size_alloc]); omega) (by omega)).trans (V4_2)
   simp (disch := first | exact xD | fail) [-Option.bind_some, -Aa, -Ab, qm, V4_3]
   exact hQ _ (BZ.fin (p0 := p) (by have := N3.size; omega) hb4 hg0 (by show ByteArray.size ⟨#[]⟩ ≤ 1000; decide) (by omega) R3 N3)
  cases h11 : ((m : Int) == 11)
  case true =>
   simp (disch := first | exact xD | fail) [-Option.bind_some, -Aa, -Ab, e10, e36, h10, h11]
   exact Ag.mono (Fs (q := true) hst hgot ho hT hp0 ha3 hb3 hb4 h34 hg0 R0 N0 xA xA xA xA xA V3_0 V4_0 xA) hQ
  cases h12 : ((m : Int) == 12)
  case true =>
   simp (disch := first | exact xD | fail) [-Option.bind_some, -Aa, -Ab, e10, e36, h10, h11, h12]
   exact Ag.mono (Fs (q := true) hst hgot ho hT hp0 ha3 hb3 hb4 h34 hg0 R0 N0 xA xA xA xA xA V3_0 V4_0 xA) hQ
  cases h13 : ((m : Int) == 13)
  case true =>
   simp (disch := first | exact xD | fail) [-Option.bind_some, -Aa, -Ab, e10, e36, h10, h11, h12, h13]
   exact Ag.mono (Fs (q := true) hst hgot ho hT hp0 ha3 hb3 hb4 h34 hg0 R0 N0 xA xA xA xA xA V3_0 V4_0 xA) hQ
  simp (disch := first | exact xD | fail) [-Option.bind_some, -Aa, -Ab, e10, e36, h10, h11, h12, h13]
  exact Ag.mono (Fs (q := false) hst hgot ho hT hp0 ha3 hb3 hb4 h34 hg0 R0 N0 xA xA xA xA xA V3_0 V4_0 xA) hQ
 ·simp (disch := first | exact xD | fail) [-Option.bind_some, -Aa, -Ab, e0, e4, e36]
  refine Ag.bind (Al (k := 4) (by omega) (by omega) (by omega) (R0.ext xE)) ?_
  rintro ⟨_, w1⟩ ⟨m1, rfl, hm1, R1, K1⟩
  try dsimp only at R1 K1
  have zK1 := K1.size
  try simp only [World.size_alloc] at zK1
  have N1 : Mod (fun b => b = g) w0 w1 := (N0).tr K1
  have V4_1 := (K1.Ah b4 (by have := Aq V4_0; (try simp only [World.size_alloc]); omega) (by omega)).trans (V4_0)
  simp (disch := first | exact xD | fail) [-Option.bind_some, -Aa, -Ab]
  refine Ag.bind (Al (k := 4) (by omega) (by omega) (by omega) (R1.ext xE)) ?_
  rintro ⟨_, w2⟩ ⟨m2, rfl, hm2, R2, K2⟩
  try dsimp only at R2 K2
  have zK2 := K2.size
  try simp only [World.size_alloc] at zK2
  have N2 : Mod (fun b => b = g) w0 w2 := (N1).tr K2
  have V4_2 := (K2.Ah b4 (by have := Aq V4_1; (try simp only [World.size_alloc]); omega) (by omega)).trans (V4_1)
  simp (disch := first | exact xD | fail) [-Option.bind_some, -Aa, -Ab]
  refine Ag.bind (Al (k := 4) (by omega) (by omega) (by omega) (R2.ext xE)) ?_
  rintro ⟨_, w3⟩ ⟨m3, rfl, hm3, R3, K3⟩
  try dsimp only at R3 K3
  have zK3 := K3.size
  try simp only [World.size_alloc] at zK3
  have N3 : Mod (fun b => b = g) w0 w3 := (N2).tr K3
  have V4_3 := (K3.Ah b4 (by have := Aq V4_2; (try simp only [World.size_alloc]); omega) (by omega)).trans (V4_2)
  simp (disch := first | exact xD | fail) [-Option.bind_some, -Aa, -Ab, qm, V4_3]
  exact hQ _ (BZ.fin (p0 := p) (by have := N3.size; omega) hb4 hg0 (by show ByteArray.size ⟨#[]⟩ ≤ 1000; decide) (by omega) R3 N3)
theorem Fu {w0 w : World} {B g p b3 b4 m a : Nat} {q : Bool} {T : Nat → Prop} {cs : List Value} {st : WorldD} {e : Env} (hst : st.places.length = 3) (hgot : ∀ p ∈ st.places, p.Bs.length = 3) (ho : D tW T w0 cs st) (hT : ∀ b, T b → b ≠ g) (hp0 : p ≤ 800000000000) (ha3 : a < 3) (hb3 : w0.heap.size ≤ b3) (hb4 : w0.heap.size ≤ b4) (h34 : b3 ≠ b4) (hg0 : g < w0.heap.size)
  (R0 : R w B g p) (N0 : Mod (fun b => b = g) w0 w) (e0 : e 0 = pt g 0) (e3 : e 3 = pt b3 0) (e4 : e 4 = pt b4 0) (e5 : e 5 = i64 a) (e10 : e 10 = i64 m) (V3_0 : hp w b3 = some (.cells cs.toArray 77 (0, 0))) (V4_0 : hp w b4 = some (.cells #[i64 0, i64 0, i64 0, i64 0, .string ⟨#[]⟩, .bool false] 137 (0, 0))) (e29 : e 29 = .bool q) : Ag (BP e w) (BZ w0 B g p) := by
 rw [HB]
 refine Ag.post fun Q hQ => ?_
 cases q
 ·skip
  cases h7 : ((m : Int) == 7)
  case true =>
   simp (disch := first | exact xD | fail) [-Option.bind_some, -Aa, -Ab, e10, e29, h7]
   exact Ag.mono (Ft (q := true) hst hgot ho hT hp0 ha3 hb3 hb4 h34 hg0 R0 N0 xA xA xA xA xA V3_0 V4_0 xA) hQ
  cases h8 : ((m : Int) == 8)
  case true =>
   simp (disch := first | exact xD | fail) [-Option.bind_some, -Aa, -Ab, e10, e29, h7, h8]
   exact Ag.mono (Ft (q := true) hst hgot ho hT hp0 ha3 hb3 hb4 h34 hg0 R0 N0 xA xA xA xA xA V3_0 V4_0 xA) hQ
  cases h9 : ((m : Int) == 9)
  case true =>
   simp (disch := first | exact xD | fail) [-Option.bind_some, -Aa, -Ab, e10, e29, h7, h8, h9]
   exact Ag.mono (Ft (q := true) hst hgot ho hT hp0 ha3 hb3 hb4 h34 hg0 R0 N0 xA xA xA xA xA V3_0 V4_0 xA) hQ
  simp (disch := first | exact xD | fail) [-Option.bind_some, -Aa, -Ab, e10, e29, h7, h8, h9]
  exact Ag.mono (Ft (q := false) hst hgot ho hT hp0 ha3 hb3 hb4 h34 hg0 R0 N0 xA xA xA xA xA V3_0 V4_0 xA) hQ
 ·simp (disch := first | exact xD | fail) [-Option.bind_some, -Aa, -Ab, e0, e4, e29]
  refine Ag.bind (Al (k := 4) (by omega) (by omega) (by omega) (R0.ext xE)) ?_
  rintro ⟨_, w1⟩ ⟨m1, rfl, hm1, R1, K1⟩
  try dsimp only at R1 K1
  have zK1 := K1.size
  try simp only [World.size_alloc] at zK1
  have N1 : Mod (fun b => b = g) w0 w1 := (N0).tr K1
  have V4_1 := (K1.Ah b4 (by have := Aq V4_0; (try simp only [World.size_alloc]); omega) (by omega)).trans (V4_0)
  simp (disch := first | exact xD | fail) [-Option.bind_some, -Aa, -Ab, qm, V4_1]
  exact hQ _ (BZ.fin (p0 := p) (by have := N1.size; omega) hb4 hg0 (by show ByteArray.size ⟨#[]⟩ ≤ 1000; decide) (by omega) R1 N1)
theorem Of {w0 w : World} {B g p b3 b4 m a : Nat} {q : Bool} {T : Nat → Prop} {cs : List Value} {st : WorldD} {e : Env} (hst : st.places.length = 3) (hgot : ∀ p ∈ st.places, p.Bs.length = 3) (ho : D tW T w0 cs st) (hT : ∀ b, T b → b ≠ g) (hp0 : p ≤ 800000000000) (ha3 : a < 3) (hb3 : w0.heap.size ≤ b3) (hb4 : w0.heap.size ≤ b4) (h34 : b3 ≠ b4) (hg0 : g < w0.heap.size)
  (R0 : R w B g p) (N0 : Mod (fun b => b = g) w0 w) (e0 : e 0 = pt g 0) (e3 : e 3 = pt b3 0) (e4 : e 4 = pt b4 0) (e5 : e 5 = i64 a) (e10 : e 10 = i64 m) (V3_0 : hp w b3 = some (.cells cs.toArray 77 (0, 0))) (V4_0 : hp w b4 = some (.cells #[i64 0, i64 0, i64 0, i64 0, .string ⟨#[]⟩, .bool false] 137 (0, 0))) (e11 : e 11 = .bool q) : Ag (Bx e w) (BZ w0 B g p) := by
 rw [HA]
 refine Ag.post fun Q hQ => ?_
 cases q
 ·skip
  cases h3 : ((m : Int) == 3)
  case true =>
   simp (disch := first | exact xD | fail) [-Option.bind_some, -Aa, -Ab, e0, e4, e10, e11, h3]
   refine Ag.bind (Al (k := 4) (by omega) (by omega) (by omega) (R0.ext xE)) ?_
   rintro ⟨_, w1⟩ ⟨m1, rfl, hm1, R1, K1⟩
   try dsimp only at R1 K1
   have zK1 := K1.size
   try simp only [World.size_alloc] at zK1
   have N1 : Mod (fun b => b = g) w0 w1 := (N0).tr K1
   have V4_1 := (K1.Ah b4 (by have := Aq V4_0; (try simp only [World.size_alloc]); omega) (by omega)).trans (V4_0)
   simp (disch := first | exact xD | fail) [-Option.bind_some, -Aa, -Ab]
   refine Ag.bind (Al (k := 4) (by omega) (by omega) (by omega) (R1.ext xE)) ?_
   rintro ⟨_, w2⟩ ⟨m2, rfl, hm2, R2, K2⟩
   try dsimp only at R2 K2
   have zK2 := K2.size
   try simp only [World.size_alloc] at zK2
   have N2 : Mod (fun b => b = g) w0 w2 := (N1).tr K2
   have V4_2 := (K2.Ah b4 (by have := Aq V4_1; (try simp only [World.size_alloc]); omega) (by omega)).trans (V4_1)
   simp (disch := first | exact xD | fail) [-Option.bind_some, -Aa, -Ab, qm, V4_2]
   exact hQ _ (BZ.fin (p0 := p) (by have := N2.size; omega) hb4 hg0 (by show ByteArray.size ⟨#[]⟩ ≤ 1000; decide) (by omega) R2 N2)
  cases h4 : ((m : Int) == 4)
  case true =>
   simp (disch := first | exact xD | fail) [-Option.bind_some, -Aa, -Ab, e10, e11, h3, h4]
   exact Ag.mono (Fu (q := true) hst hgot ho hT hp0 ha3 hb3 hb4 h34 hg0 R0 N0 xA xA xA xA xA V3_0 V4_0 xA) hQ
  cases h5 : ((m : Int) == 5)
  case true =>
   simp (disch := first | exact xD | fail) [-Option.bind_some, -Aa, -Ab, e10, e11, h3, h4, h5]
   exact Ag.mono (Fu (q := true) hst hgot ho hT hp0 ha3 hb3 hb4 h34 hg0 R0 N0 xA xA xA xA xA V3_0 V4_0 xA) hQ
  cases h6 : ((m : Int) == 6)
  case true =>
   simp (disch := first | exact xD | fail) [-Option.bind_some, -Aa, -Ab, e10, e11, h3, h4, h5, h6]
   exact Ag.mono (Fu (q := true) hst hgot ho hT hp0 ha3 hb3 hb4 h34 hg0 R0 N0 xA xA xA xA xA V3_0 V4_0 xA) hQ
  simp (disch := first | exact xD | fail) [-Option.bind_some, -Aa, -Ab, e10, e11, h3, h4, h5, h6]
  exact Ag.mono (Fu (q := false) hst hgot ho hT hp0 ha3 hb3 hb4 h34 hg0 R0 N0 xA xA xA xA xA V3_0 V4_0 xA) hQ
 ·simp (disch := first | exact xD | fail) [-Option.bind_some, -Aa, -Ab, e0, e4, e11]
  refine Ag.bind (Al (k := 4) (by omega) (by omega) (by omega) (R0.ext xE)) ?_
  rintro ⟨_, w1⟩ ⟨m1, rfl, hm1, R1, K1⟩
  try dsimp only at R1 K1
  have zK1 := K1.size
  try simp only [World.size_alloc] at zK1
  have N1 : Mod (fun b => b = g) w0 w1 := (N0).tr K1
  have V4_1 := (K1.Ah b4 (by have := Aq V4_0; (try simp only [World.size_alloc]); omega) (by omega)).trans (V4_0)
  simp (disch := first | exact xD | fail) [-Option.bind_some, -Aa, -Ab]
  refine Ag.bind (Al (k := 4) (by omega) (by omega) (by omega) (R1.ext xE)) ?_
  rintro ⟨_, w2⟩ ⟨m2, rfl, hm2, R2, K2⟩
  try dsimp only at R2 K2
  have zK2 := K2.size
  try simp only [World.size_alloc] at zK2
  have N2 : Mod (fun b => b = g) w0 w2 := (N1).tr K2
  have V4_2 := (K2.Ah b4 (by have := Aq V4_1; (try simp only [World.size_alloc]); omega) (by omega)).trans (V4_1)
  simp (disch := first | exact xD | fail) [-Option.bind_some, -Aa, -Ab]
  refine Ag.bind (GU (by omega) (R2.ext xE)) ?_
  rintro ⟨_, w3⟩ ⟨m3, hm3, rfl, R3, K3⟩
  try dsimp only at R3 K3
  have zK3 := K3.size
  try simp only [World.size_alloc] at zK3
  have N3 : Mod (fun b => b = g) w0 w3 := (N2).tr K3
  have V4_3 := (K3.Ah b4 (by have := Aq V4_2; (try simp only [World.size_alloc]); omega) (by omega)).trans (V4_2)
  simp (disch := first | exact xD | fail) [-Option.bind_some, -Aa, -Ab, qm, V4_3]
  exact hQ _ (BZ.fin (p0 := p) (by have := N3.size; omega) hb4 hg0 (QK _ hm3) (by omega) R3 N3)
end Go.Proofs.YtjhhommnkaemlaaGreat.X
namespace Go.Proofs.YtjhhommnkaemlaaGreat.X
open Go Go.Ev Go.RowKit
attribute [local irreducible] World.alloc World.setRow Go.Ev.dw
abbrev Li : Lay (List EventD) := R6 137
theorem O5 {B g p : Nat} {T : Nat → Prop} {cs : List Value} {st : WorldD} {w : World} (hst : st.places.length = 3) (hgot : ∀ p ∈ st.places, p.Bs.length = 3) (ho : D tW T w cs st) (hT : ∀ b, T b → b ≠ g) (hp0 : p ≤ 700000000000) (hr : R w B g p) :
  Ag (EV P 110 #[pt g 0, .agg cs.toArray] w) (BZ w B g (p + 2)) := by
 have ho' := ho
 obtain ⟨pa, pc, sa, sc, na, nc, ha, hc, rfl, _, _, _, _⟩ := D.world.1 ho'
 have hl := hr.lt
 refine Ag.post fun Q hQ => ?_
 refine Ag.enter plain mixed (JJ _ _ _) (by kernel_rfl) (n := 2) (by kernel_rfl) rfl ?_
 simp (disch := first | exact xD | fail) [-Option.bind_some, -Aa, -Ab]
 refine Ag.bind (Al (k := 3) (by omega) (by omega) (by omega) (hr.ext xE)) ?_
 rintro ⟨_, w1⟩ ⟨m1, rfl, hm1, R1, K1⟩
 try dsimp only at R1 K1
 have zK1 := K1.size
 simp only [World.size_alloc] at zK1
 simp (disch := first | exact xD | fail) [-Option.bind_some, -Aa, -Ab]
 refine Ag.bind (Al (k := 20) (by omega) (by omega) (by omega) R1) ?_
 rintro ⟨_, w2⟩ ⟨m2, rfl, hm2, R2, K2⟩
 try dsimp only at R2 K2
 have zK2 := K2.size
 have V3 : hp w2 w.heap.size = some (.cells #[.slice pa st.places.length pc, .slice sa st.Az.length sc, .slice na st.net.length nc, .slice ha st.AF.length hc] 77 (0, 0)) := (K2.Ah _ (by omega) (by omega)).trans ((K1.Ah _ xB (by omega)).trans (by first | assumption | rfl | (simp (disch := first | exact xD | fail) [-Option.bind_some, qs, -Aa, -Ab]; done)))
 have V4 : hp w2 (w.heap.size + 1) = some (.cells #[i64 0, i64 0, i64 0, i64 0, .string ⟨#[]⟩, .bool false] 137 (0, 0)) := (K2.Ah _ (by omega) (by omega)).trans ((K1.Ah _ xB (by omega)).trans (by first | assumption | rfl | (simp (disch := first | exact xD | fail) [-Option.bind_some, qs, -Aa, -Ab]; done)))
 have N2 : Mod (fun b => b = g) w w2 := (Mod.tr xM K1).tr K2
 have go : ∀ (e' : Env) (q : Bool), e' 0 = pt g 0 → e' 3 = pt w.heap.size 0 → e' 4 = pt (w.heap.size + 1) 0 → e' 5 = i64 m1 → e' 10 = i64 m2 → e' 11 = .bool q → Ag (Bx e' w2) Q := by
  intro e' q g0 g3 g4 g5 g10 g11
  refine Ag.mono (Of (m := m2) (a := m1) (p := p + 1 + 1) hst hgot ho hT (by omega) hm1 (Nat.le_refl _) (by omega) (by omega) hl.2 R2 N2 g0 g3 g4 g5 g10 V3 V4 g11) hQ
 cases h0 : ((m2 : Int) == 0)
 case true =>
  simp (disch := first | exact xD | fail) [-Option.bind_some, -Aa, -Ab, h0]
  exact go _ _ xA xA xA xA xA rfl
 cases h1 : ((m2 : Int) == 1)
 case true =>
  simp (disch := first | exact xD | fail) [-Option.bind_some, -Aa, -Ab, h0, h1]
  exact go _ _ xA xA xA xA xA rfl
 cases h2 : ((m2 : Int) == 2)
 ·simp (disch := first | exact xD | fail) [-Option.bind_some, -Aa, -Ab, h0, h1, h2]
  exact go _ _ xA xA xA xA xA rfl
 ·simp (disch := first | exact xD | fail) [-Option.bind_some, -Aa, -Ab, h0, h1, h2]
  exact go _ _ xA xA xA xA xA rfl
end Go.Proofs.YtjhhommnkaemlaaGreat.X
namespace Go.Proofs.YtjhhommnkaemlaaGreat.X
open Go Go.Ev Go.RowKit
attribute [local irreducible] World.alloc World.setRow Go.Ev.dw
theorem BG.Bs {M : Nat} {st : WorldD} (h : BG M st) : ∀ p ∈ st.places, p.Bs.length = 3 := fun p hp' => (h.2.1 p hp').2.2.2.1
theorem Og {B g b9 : Nat} {w0 : World} (hb9 : w0.heap.size ≤ b9) (hg0 : g < w0.heap.size) (n : Nat) (hn : n ≤ 120) :
  ∀ (d k : Nat) (e : Env) (W : World) (p c : Nat) (a : Option Addr) (cs : List Value) (st : WorldD) (evs : List EventD) (T Te : Nat → Prop), k + d = n → e 0 = pt g 0 → e 3 = i64 n → e 9 = pt b9 0 → e 10 = .slice a evs.length c → e 11 = i64 k →
   hp W b9 = some (.cells cs.toArray 77 (0, 0)) → BG (16 * k) st → O tW T W cs st → (∀ b, T b → w0.heap.size ≤ b ∧ b < W.heap.size ∧ b ≠ b9 ∧ ¬ Te b) → O Li Te W [.slice a evs.length c] evs → (∀ b, Te b → w0.heap.size ≤ b ∧ b < W.heap.size ∧ b ≠ b9) → evs.length ≤ k → (∀ x ∈ evs, x.text.size ≤ 1000) →
   p ≤ 600000000000 + 100 * k → R W B g p → Mod (fun b => b = g) w0 W →
   Ag (Cf e W) fun r => ∃ (a' : Option Addr) (c' p' : Nat) (evs' : List EventD), r.1 = .slice a' evs'.length c' ∧ O Li (fun b => w0.heap.size ≤ b) r.2 [.slice a' evs'.length c'] evs' ∧ (∀ x ∈ evs', x.text.size ≤ 1000) ∧ p' ≤ 600000000000 + 100 * n ∧ R r.2 B g p' ∧ Mod (fun b => b = g) w0 r.2 := by
 intro d
 induction d with
 | zero =>
  intro k e W p c a cs st evs T Te hd e0 e3 e9 e10 e11 X9 hf ho hT oe hTe hev hx hp0 hr hM
  rw [Ec]
  obtain rfl : k = n := by omega
  refine Ag.post fun Q hQ => ?_
  simp (disch := first | exact xD | fail) [-Option.bind_some, -Aa, -Ab, e3, e10, e11]
  exact hQ _ ⟨a, c, p, evs, rfl, oe.wide (fun b h _ => (hTe b h).1), hx, hp0, hr, hM⟩
 | succ d ih =>
  intro k e W p c a cs st evs T Te hd e0 e3 e9 e10 e11 X9 hf ho hT oe hTe hev hx hp0 hr hM
  rw [Ec]
  have hkn : k < n := by omega
  have y9 := Aq X9
  have zM0 := hM.size
  obtain ⟨u1, l1, d1, u2, l2, d2, u3, l3, d3, u4, l4, d4, rfl⟩ := ho.B6
  have jn : ∀ (e' : Env) (W' : World) (p' c' : Nat) (a' : Option Addr) (cs' : List Value) (st' : WorldD) (evs' : List EventD) (T' Te' : Nat → Prop) (Q : Value × World → Prop), e' 0 = pt g 0 → e' 3 = i64 n → e' 9 = pt b9 0 → e' 10 = .slice a' evs'.length c' → e' 11 = i64 k →
    hp W' b9 = some (.cells cs'.toArray 77 (0, 0)) → BG (16 * k + 16) st' → O tW T' W' cs' st' → (∀ b, T' b → w0.heap.size ≤ b ∧ b < W'.heap.size ∧ b ≠ b9 ∧ ¬ Te' b) → O Li Te' W' [.slice a' evs'.length c'] evs' → (∀ b, Te' b → w0.heap.size ≤ b ∧ b < W'.heap.size ∧ b ≠ b9) → evs'.length ≤ k + 1 → (∀ x ∈ evs', x.text.size ≤ 1000) →
    p' ≤ 600000000000 + 100 * k + 100 → R W' B g p' → Mod (fun b => b = g) w0 W' → (∀ r, (∃ (a' : Option Addr) (c' p' : Nat) (evs' : List EventD), r.1 = .slice a' evs'.length c' ∧ O Li (fun b => w0.heap.size ≤ b) r.2 [.slice a' evs'.length c'] evs' ∧ (∀ x ∈ evs', x.text.size ≤ 1000) ∧ p' ≤ 600000000000 + 100 * n ∧ R r.2 B g p' ∧ Mod (fun b => b = g) w0 r.2) → Q r) → Ag (Cg e' W') Q := by
   intro e' W' p' c' a' cs' st' evs' T' Te' Q g0 g3 g9 g10 g11 q1 q2 q3 q4 q5 q6 q7 q8 q9 q10 q11 hQ
   rw [GK]
   simp (disch := first | exact xD | fail) [-Option.bind_some, qs, -Aa, -Ab, g11]
   exact Ag.mono (ih (k + 1) _ W' p' c' a' cs' st' evs' T' Te' (by omega) xA xA xA xA xA q1 (q2.up (by omega)) q3 q4 q5 q6 q7 q8 (by omega) q10 q11) hQ
  refine Ag.post fun Q hQ => ?_
  simp (disch := first | exact xD | fail) [-Option.bind_some, qs, -Aa, -Ab, e0, e3, e9, e10, e11, X9, show (k : Int) < n by omega]
  refine Ag.bind (O5 (T := T) hf.1 hf.Bs ho.d (fun b h => by have := hT b h; omega) (by omega) hr) ?_
  rintro ⟨_, w1⟩ ⟨kd, at', nm, ky, tx, gn, p1, rfl, htx, hp1, R1, M1⟩
  have zM1 := M1.size
  try simp only [] at zM1
  try dsimp only at R1 M1
  have zM1 := M1.size
  have N9 := (M1.Ah b9 (by omega) (by omega)).trans X9
  simp (disch := first | exact xD | fail) [-Option.bind_some, qs, -Aa, -Ab, qm, N9]
  have hT1 : ∀ b, T b → b < W.heap.size → b ≠ g := fun b h _ => by have := hT b h; omega
  refine Ag.bind (O4 (S := T) hf (by omega) htx (ho.Ak fun b hb hbl => ?_)) ?_
  ·refine Eq.trans ?_ (M1.Ah b hbl (hT1 b hb hbl))
   simp (disch := (first | omega | (simp only [World.size_alloc, size_setRow]; omega))) only [Ad, Ae]
  rintro ⟨v2, w2⟩ ⟨cs', st', q, hv2, hq, f2, o2, M2⟩
  have zM2 := M2.size
  try simp only [qz] at zM2
  try dsimp only at hv2 o2 M2
  subst hv2
  have zM2 := M2.size
  simp only [World.size_alloc, size_setRow] at zM2 o2
  obtain ⟨u5, l5, d5, u6, l6, d6, u7, l7, d7, u8, l8, d8, rfl⟩ := o2.B6
  have nT : ∀ b, b < w0.heap.size ∨ b = b9 ∨ Te b ∨ W.heap.size ≤ b → ¬ T b := fun b h h' => by
   have := hT b h'
   rcases h with h | h | h | h
   ·omega
   ·exact this.2.2.1 h
   ·exact this.2.2.2 h
   ·omega
  have k2 : ∀ b, b < W.heap.size → b ≠ g → ¬ T b → hp w2 b = hp W b := fun b hb h1 h2 => (M2.Ah b (by simp only [World.size_alloc, size_setRow]; omega) h2).trans ((by simp (disch := (first | omega | (simp only [World.size_alloc, size_setRow]; omega))) only [Ad, Ae] : _ = hp w1 b).trans (M1.Ah b hb h1))
  have k1 : ∀ b, b < w1.heap.size → ¬ T b → hp w2 b = hp w1 b := fun b hb h2 => (M2.Ah b (by simp only [World.size_alloc, size_setRow]; omega) h2).trans (by simp (disch := (first | omega | (simp only [World.size_alloc, size_setRow]; omega))) only [Ad, Ae])
  have C9 := (k1 b9 (by omega) (nT _ (.inr (.inl rfl)))).trans N9
  have CE : hp w2 w1.heap.size = some (.cells #[i64 kd, i64 at', i64 nm, i64 ky, .string tx, .bool gn] 137 (0, 0)) := (M2.Ah _ (by simp only [World.size_alloc, size_setRow]; omega) (nT _ (.inr (.inr (.inr (by omega)))))).trans (by first | assumption | rfl | (simp (disch := first | exact xD | fail) [-Option.bind_some, qs, -Aa, -Ab]; done))
  have R2 : R w2 B g p1 := R1.Ak fun b h hb => k1 b hb (nT _ (.inl (by have := R1.lt; omega)))
  have oe2 : O Li Te w2 [.slice a evs.length c] evs := oe.Ak fun b hb hbl => k2 b hbl (by have := hTe b hb; omega) (nT _ (.inr (.inr (.inl hb))))
  have NM : Mod (fun b => b = g) w0 w2 := Mod.A8 (by
   first | exact ((hM.tr M1).al _).AE (.inl (by omega)) _ | exact (hM.tr M1).al _) M2 (fun b hb h => absurd h (nT _ (.inl hb)))
  cases q
  ·have hcs := hq rfl
   simp only [List.cons.injEq, Value.slice.injEq, and_true] at hcs
   obtain ⟨⟨rfl, rfl, rfl⟩, ⟨rfl, rfl, rfl⟩, ⟨rfl, rfl, rfl⟩, rfl, rfl, rfl⟩ := hcs
   simp (disch := first | exact xD | fail) [-Option.bind_some, qs, -Aa, -Ab, qm]
   refine Ag.bind (Al (k := 6) (by omega) (by omega) (by omega) (R2.ext xE)) ?_
   rintro ⟨_, w3⟩ ⟨m, rfl, hm, RR3, K3⟩
   try dsimp only at RR3 K3
   have zK3 := K3.size
   simp only [World.size_alloc, size_setRow] at zK3
   have k3 : ∀ b, b < w2.heap.size → b ≠ g → hp w3 b = hp w2 b := fun b hb h => (K3.Ah b (by simp only [World.size_alloc, size_setRow]; omega) h).trans ((Ad (by omega)).trans (Ae hb))
   have B93 := (k3 b9 (by omega) (by omega)).trans C9
   have BE3 := (k3 w1.heap.size (by omega) (by omega)).trans CE
   have BX3 : hp w3 w2.heap.size = some (.cells #[.slice u5 l5 d5, .slice u6 l6 d6, .slice u7 l7 d7, .slice u8 l8 d8] 77 (0, 0)) := (K3.Ah _ (by simp only [World.size_alloc, size_setRow]; omega) (by omega)).trans (by first | assumption | rfl | (simp (disch := first | exact xD | fail) [-Option.bind_some, qs, -Aa, -Ab]; done))
   have OE3 : O Li Te w3 [.slice a evs.length c] evs := oe2.Ak fun b hb hbl => k3 b hbl (by have := hTe b hb; omega)
   have OW3 : O tW (fun b => T b ∨ In (w1.heap.size + 1) w2.heap.size b) w3 [.slice u5 l5 d5, .slice u6 l6 d6, .slice u7 l7 d7, .slice u8 l8 d8] st' := o2.Ak fun b hb hbl => k3 b hbl (by rcases hb with h | h; have := hT b h; omega; simp only [In] at h; omega)
   have NN3 : Mod (fun b => b = g) w0 w3 := ((NM.al _).AE (.inl (by omega)) _).tr K3
   by_cases hm0 : 0 < m
   ·simp (disch := first | exact xD | fail) [-Option.bind_some, -Aa, -Ab, hm0]
    refine jn _ w3 (p1 + 1) c a [.slice u5 l5 d5, .slice u6 l6 d6, .slice u7 l7 d7, .slice u8 l8 d8] st' evs (fun b => T b ∨ In (w1.heap.size + 1) w2.heap.size b) Te Q xA xA xA xA xA B93 f2 OW3 ?_ OE3 (fun b h => by have := hTe b h; exact ⟨this.1, by omega, this.2.2⟩) (by omega) hx (by omega) RR3 NN3 hQ
    intro b hb
    rcases hb with h | h
    ·have := hT b h
     exact ⟨this.1, by omega, this.2.2⟩
    ·simp only [In] at h
     exact ⟨by omega, by omega, by omega, fun h' => by have := hTe b h'; omega⟩
   ·obtain rfl : m = 0 := by omega
    simp (disch := first | exact xD | fail) [-Option.bind_some, qs, -Aa, -Ab, qm, B93, BE3, BX3]
    have alk3 : ∀ b, b < w3.heap.size → b ≠ b9 → hp ((w3.setRow b9 #[.slice u5 l5 d5, .slice u6 l6 d6, .slice u7 l7 d7, .slice u8 l8 d8]).alloc (.cells #[i64 kd, i64 at', i64 nm, i64 ky, .string tx, .bool gn] 137)) b = hp w3 b := fun b hb hn => (Ae (by simp only [size_setRow]; omega)).trans (Ad hn)
    refine Ag.bind (O.app (L := Gg) (mx := 2513169434916) (xs := evs) (S1 := fun _ => False) (x := ⟨kd, at', nm, ky, tx, gn⟩) (cs := Nw ⟨kd, at', nm, ky, tx, gn⟩) Pf Rg rfl (by decide) (OE3.Ak fun b hb hbl => alk3 b hbl (hTe b hb).2.2) (O.event (by show tx.size ≤ _; omega)) (fun _ _ _ h => h) (At.nw (by simp)) (by omega) (by decide) (by decide)) ?_
    rintro ⟨_, w9⟩ ⟨a7, c7, rfl, o7, M7⟩
    have zM7 := M7.size
    try simp only [qz] at zM7
    try dsimp only at o7 M7
    have zM7 := M7.size
    simp only [World.size_alloc, size_setRow] at zM7 o7
    have lW3 : W.heap.size ≤ w3.heap.size := by omega
    have nTe : ∀ b, b < w0.heap.size ∨ b = b9 → ¬ Te b := fun b h h' => by have := hTe b h'; omega
    simp (disch := first | exact xD | fail) [-Option.bind_some, -Aa, -Ab]
    refine jn _ w9 (p1 + 1) c7 a7 [.slice u5 l5 d5, .slice u6 l6 d6, .slice u7 l7 d7, .slice u8 l8 d8] st' (evs ++ [⟨kd, at', nm, ky, tx, gn⟩]) (fun b => T b ∨ In (w1.heap.size + 1) w2.heap.size b) (fun b => Te b ∨ In w3.heap.size w9.heap.size b) Q xA xA xA ?_ xA ?_ f2 ?_ ?_ ?_ ?_ (by simp; omega) ?_ (by omega) ?_ ?_ hQ
    ·simp (disch := first | exact xD | fail) [-Option.bind_some, qs, -Aa, -Ab, List.length_append, List.length_cons, List.length_nil]
    ·refine (M7.Ah b9 (by simp only [World.size_alloc, size_setRow]; omega) (nTe _ (.inr rfl))).trans ((Ae (by simp only [size_setRow]; omega)).trans (by first | assumption | rfl | (simp (disch := first | exact xD | fail) [-Option.bind_some, -Aa, -Ab, B93]; done)))
    ·refine OW3.Ak fun b hb hbl => (M7.Ah b (by simp only [World.size_alloc, size_setRow]; omega) ?_).trans (alk3 b hbl ?_)
     ·rcases hb with h | h
      ·exact (hT b h).2.2.2
      ·intro h'
       have := hTe b h'
       simp only [In] at h; omega
     ·rcases hb with h | h
      ·exact (hT b h).2.2.1
      ·simp only [In] at h; omega
    ·intro b hb
     rcases hb with h | h
     ·have := hT b h
      exact ⟨this.1, by omega, this.2.2.1, fun h' => by rcases h' with h' | h'; exact this.2.2.2 h'; simp only [In] at h'; omega⟩
     ·simp only [In] at h
      exact ⟨by omega, by omega, by omega, fun h' => by rcases h' with h' | h'; have := hTe b h'; omega; simp only [In] at h'; omega⟩
    ·have hle : (evs ++ [(⟨kd, at', nm, ky, tx, gn⟩ : EventD)]).length = evs.length + 1 := by simp
     rw [hle]
     refine o7.wide fun b hb hbl => ?_
     rcases hb with h | h | h
     ·exact .inl h
     ·exact h.elim
     ·exact .inr (by simp only [In]; omega)
    ·intro b hb
     rcases hb with h | h
     ·have := hTe b h
      exact ⟨this.1, by omega, this.2.2⟩
     ·simp only [In] at h
      exact ⟨by omega, by omega, by omega⟩
    ·intro x hx'
     rcases List.mem_append.1 hx' with h | h
     ·exact hx x h
     ·rw [List.mem_singleton.1 h]; exact htx
    ·exact RR3.Ak fun b h hb => (M7.Ah b (by simp only [World.size_alloc, size_setRow]; omega) (nTe _ (.inl (by have := RR3.lt; omega)))).trans (alk3 b hb (by have := RR3.lt; omega))
    ·exact Mod.A8 ((NN3.AE (.inl hb9) _).al _) M7 (fun b hb h => by have := hTe b h; omega)
  ·simp (disch := first | exact xD | fail) [-Option.bind_some, qs, -Aa, -Ab, qm]
   generalize hW4 : World.setRow _ w2.heap.size _ = W4
   have sW4 : W4.heap.size = w2.heap.size + 1 := by rw [← hW4]; simp
   have k4 : ∀ b, b < w2.heap.size → hp W4 b = hp w2 b := fun b hb => by
    rw [← hW4]
    exact (Ad (by omega)).trans (Ae hb)
   have B94 := (k4 b9 (by omega)).trans C9
   have BE4 := (k4 w1.heap.size (by omega)).trans CE
   have BX4 : hp W4 w2.heap.size = some (.cells #[.slice u5 l5 d5, .slice u6 l6 d6, .slice u7 l7 d7, .slice u8 l8 d8] 77 (0, 0)) := by
    rw [← hW4]
    exact (by first | assumption | rfl | (simp (disch := first | exact xD | fail) [-Option.bind_some, qs, -Aa, -Ab]; done))
   have RR4 : R W4 B g p1 := R2.Ak fun b h hb => k4 b hb
   have OE4 : O Li Te W4 [.slice a evs.length c] evs := oe2.Ak fun b hb hbl => k4 b hbl
   have OW4 : O tW (fun b => T b ∨ In (w1.heap.size + 1) w2.heap.size b) W4 [.slice u5 l5 d5, .slice u6 l6 d6, .slice u7 l7 d7, .slice u8 l8 d8] st' := o2.Ak fun b hb hbl => k4 b hbl
   have NN4 : Mod (fun b => b = g) w0 W4 := by
    rw [← hW4]
    exact (NM.al _).AE (.inl (by omega)) _
   simp (disch := first | exact xD | fail) [-Option.bind_some, qs, -Aa, -Ab, qm, BE4, C9]
   have alk4 : ∀ b, b < W4.heap.size → b ≠ b9 → hp ((W4.setRow b9 #[.slice u5 l5 d5, .slice u6 l6 d6, .slice u7 l7 d7, .slice u8 l8 d8]).alloc (.cells #[i64 kd, i64 at', i64 nm, i64 ky, .string tx, .bool gn] 137)) b = hp W4 b := fun b hb hn => (Ae (by simp only [size_setRow]; omega)).trans (Ad hn)
   refine Ag.bind (O.app (L := Gg) (mx := 2513169434916) (xs := evs) (S1 := fun _ => False) (x := ⟨kd, at', nm, ky, tx, gn⟩) (cs := Nw ⟨kd, at', nm, ky, tx, gn⟩) Pf Rg rfl (by decide) (OE4.Ak fun b hb hbl => alk4 b hbl (hTe b hb).2.2) (O.event (by show tx.size ≤ _; omega)) (fun _ _ _ h => h) (At.nw (by simp)) (by omega) (by decide) (by decide)) ?_
   rintro ⟨_, w9⟩ ⟨a7, c7, rfl, o7, M7⟩
   have zM7 := M7.size
   try simp only [qz] at zM7
   try dsimp only at o7 M7
   have zM7 := M7.size
   simp only [World.size_alloc, size_setRow] at zM7 o7
   have lW4 : W.heap.size ≤ W4.heap.size := by omega
   have nTe : ∀ b, b < w0.heap.size ∨ b = b9 → ¬ Te b := fun b h h' => by have := hTe b h'; omega
   simp (disch := first | exact xD | fail) [-Option.bind_some, -Aa, -Ab]
   refine jn _ w9 p1 c7 a7 [.slice u5 l5 d5, .slice u6 l6 d6, .slice u7 l7 d7, .slice u8 l8 d8] st' (evs ++ [⟨kd, at', nm, ky, tx, gn⟩]) (fun b => T b ∨ In (w1.heap.size + 1) w2.heap.size b) (fun b => Te b ∨ In W4.heap.size w9.heap.size b) Q xA xA xA ?_ xA ?_ f2 ?_ ?_ ?_ ?_ (by simp; omega) ?_ (by omega) ?_ ?_ hQ
   ·simp (disch := first | exact xD | fail) [-Option.bind_some, qs, -Aa, -Ab, List.length_append, List.length_cons, List.length_nil]
   ·refine (M7.Ah b9 (by simp only [World.size_alloc, size_setRow]; omega) (nTe _ (.inr rfl))).trans ((Ae (by simp only [size_setRow]; omega)).trans (by first | assumption | rfl | (simp (disch := first | exact xD | fail) [-Option.bind_some, -Aa, -Ab, B94]; done)))
   ·refine OW4.Ak fun b hb hbl => (M7.Ah b (by simp only [World.size_alloc, size_setRow]; omega) ?_).trans (alk4 b hbl ?_)
    ·rcases hb with h | h
     ·exact (hT b h).2.2.2
     ·intro h'
      have := hTe b h'
      simp only [In] at h; omega
    ·rcases hb with h | h
     ·exact (hT b h).2.2.1
     ·simp only [In] at h; omega
   ·intro b hb
    rcases hb with h | h
    ·have := hT b h
     exact ⟨this.1, by omega, this.2.2.1, fun h' => by rcases h' with h' | h'; exact this.2.2.2 h'; simp only [In] at h'; omega⟩
    ·simp only [In] at h
     exact ⟨by omega, by omega, by omega, fun h' => by rcases h' with h' | h'; have := hTe b h'; omega; simp only [In] at h'; omega⟩
   ·have hle : (evs ++ [(⟨kd, at', nm, ky, tx, gn⟩ : EventD)]).length = evs.length + 1 := by simp
    rw [hle]
    refine o7.wide fun b hb hbl => ?_
    rcases hb with h | h | h
    ·exact .inl h
    ·exact h.elim
    ·exact .inr (by simp only [In]; omega)
   ·intro b hb
    rcases hb with h | h
    ·have := hTe b h
     exact ⟨this.1, by omega, this.2.2⟩
    ·simp only [In] at h
     exact ⟨by omega, by omega, by omega⟩
   ·intro x hx'
    rcases List.mem_append.1 hx' with h | h
    ·exact hx x h
    ·rw [List.mem_singleton.1 h]; exact htx
   ·exact RR4.Ak fun b h hb => (M7.Ah b (by simp only [World.size_alloc, size_setRow]; omega) (nTe _ (.inl (by have := RR4.lt; omega)))).trans (alk4 b hb (by have := RR4.lt; omega))
   ·exact Mod.A8 ((NN4.AE (.inl hb9) _).al _) M7 (fun b hb h => by have := hTe b h; omega)
end Go.Proofs.YtjhhommnkaemlaaGreat.X
