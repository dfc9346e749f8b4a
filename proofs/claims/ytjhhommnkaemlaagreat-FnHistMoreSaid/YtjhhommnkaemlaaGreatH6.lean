/- A part of the proof, without conditions. -/
import Derived.Test.YtjhhommnkaemlaaGreatD6
import Derived.Test.YtjhhommnkaemlaaGreatEvHi
import Derived.Test.YtjhhommnkaemlaaGreatS34
set_option linter.unusedVariables false
set_option linter.unusedSimpArgs false
set_option linter.deprecated false
set_option maxRecDepth 100000
set_option maxHeartbeats 1000000
namespace Go.Proofs.YtjhhommnkaemlaaGreat.X
open Go Go.Ev Go.RowKit
theorem OI {M i : Nat} {at' : Int} {S Sv : Nat → Prop} {cs vcs : List Value} {p : PlaceD} {v : Ver} {w : World} (hf : CK M p) (hi : i < 3) (hv : Oi v) (dv : D BW Sv w vcs v) (ho : O Jf S w cs p) :
  Ae (EV P 133 #[.agg cs.toArray, i64 i, i64 at', .agg vcs.toArray] w) fun r => ∃ (cs' : List Value) (p' : PlaceD) (ok : Bool), r.1 = .tuple #[.agg cs'.toArray, .bool ok] ∧ (ok = false → Ext w r.2) ∧ CK M p' ∧ O Jf (fun b => S b ∨ In w.heap.size r.2.heap.size b) r.2 cs' p' ∧ Mod S w r.2 := by
 obtain ⟨av, cv, rfl, dv1, dv2⟩ := D.BV.1 dv
 have dv : D BW Sv w [i64 v.key, i64 v.tag.t, i64 v.tag.p, .slice av v.past.length cv, .string v.text, .bool v.gone] v := dv
 have ho0 := ho
 obtain ⟨a, c, a1, c1, a2, c2, S1, S2, S3, rfl, q1, q2, q3, k1, k2, k3⟩ := O.He ho
 have hf' := hf
 obtain ⟨hI, hl, hlp, gl3, hgl⟩ := hf'
 obtain ⟨l, hgi, _⟩ := Ak (l := p.Bu) (k := i) (by omega)
 have hl60 := hgl l (List.mem_of_getElem? hgi)
 obtain ⟨g, cur, ds, S4, rfl, hSg, hgL, hgr, hle, hx1, hS4, put⟩ := q3.OA (by decide) hgi
 obtain ⟨a4, c4, rfl, ol⟩ := hx1.Gn
 simp only [Gx, Nat.mul_one] at hgr hle put
 have hip : i < p.Bu.length := by omega
 have fail : ∀ (Q : Value × World → Prop) (w' : World), (∀ r, (∃ (cs' : List Value) (p' : PlaceD) (ok : Bool), r.1 = .tuple #[.agg cs'.toArray, .bool ok] ∧ (ok = false → Ext w r.2) ∧ CK M p' ∧ O Jf (fun b => S b ∨ In w.heap.size r.2.heap.size b) r.2 cs' p' ∧ Mod S w r.2) → Q r) → Ext w w' → Q (.tuple #[.agg #[i64 p.me, i64 p.clock, .slice a p.chain.length c, .slice a1 p.log.length c1, .slice (some ⟨g, 0, none⟩) p.Bu.length c2, .bool p.fell], .bool false], w') :=
  fun Q w' hQ hE => hQ _ ⟨_, p, false, rfl, fun _ => hE, hf, (ho0.ext hE).wide fun b h _ => .inl h, Mod.of hE S⟩
 refine Ae.post fun Q hQ => ?_
 refine Ae.enter plain mixed (LO _ _ _ _ _) (by kernel_rfl) (n := 4) (by kernel_rfl) rfl ?_
 cases hme : ((i : Int) == p.me)
 ·cases hat : (at' != (l.length : Int))
  ·have hat' : at' = (l.length : Int) := by simpa using hat
   subst hat'
   by_cases h60 : l.length < 60
   ·simp (disch := first | exact xD | fail) [-Option.bind_some, qs, -Aa, -Ab, qm, hme, hgr, HM, show ¬ (60 : Int) ≤ l.length by omega]
    refine Ae.bind (Ln (t := v.tag) (ol.d.ext xE) (by omega)) ?_
    rintro ⟨_, w1⟩ ⟨lg, rfl, E1⟩
    try dsimp only at lg E1
    have zE1 := E1.size
    try simp only [qz] at zE1
    cases lg
    ·have G1 : hp w1 g = _ := (E1.Ai (by simp only [World.size_alloc, Ad]; omega)).trans ((by first | assumption | rfl | (simp (disch := first | exact xD | fail) [-Option.bind_some, qs, -Aa, -Ab]; done)) : _ = hp w g) |>.trans hgr
     have P1 : hp w1 w.heap.size = some (.cells #[i64 p.me, i64 p.clock, .slice a p.chain.length c, .slice a1 p.log.length c1, .slice (some ⟨g, 0, none⟩) p.Bu.length c2, .bool p.fell] 84 (0, 0)) := (E1.Ai (by simp only [World.size_alloc, Ad]; omega)).trans (by first | assumption | rfl | (simp (disch := first | exact xD | fail) [-Option.bind_some, qs, -Aa, -Ab]; done))
     have R1 : hp w1 (w.heap.size + 1 + 1) = some (.cells #[i64 0, i64 0, .slice none 0 0, .slice none 0 0, .slice none 0 0, .bool false] 84 (0, 0)) := (E1.Ai (by simp only [World.size_alloc, Ad]; omega)).trans (by first | assumption | rfl | (simp (disch := first | exact xD | fail) [-Option.bind_some, qs, -Aa, -Ab]; done))
     have F1 : Ext w w1 := xE
     simp (disch := first | exact xD | fail) [-Option.bind_some, qs, -Aa, -Ab, qm, G1, P1, HM, E1.Ai]
     refine Ae.bind (AX (dv.ext xE)) ?_
     rintro ⟨_, w2⟩ ⟨ds, rfl, o2, E2⟩
     try dsimp only at ds o2 E2
     have zE2 := E2.size
     try simp only [qz] at zE2
     have zo2 := O.BV.1 o2
     obtain ⟨a5, c5, rfl, _, _⟩ := zo2
     simp only [Ad] at zE2 o2
     have G2 := (E2.Ai (b := g) (by simp only [Ad]; omega)).trans ((BB _ _).trans G1)
     have P2 := (E2.Ai (b := w.heap.size) (by simp only [Ad]; omega)).trans ((BB _ _).trans P1)
     have R2 := (E2.Ai (b := w.heap.size + 1 + 1) (by simp only [Ad]; omega)).trans ((BB _ _).trans R1)
     have F2 : Ext w w2 := xE
     have zF2 := F2.size
     simp (disch := first | exact xD | fail) [-Option.bind_some, qs, -Aa, -Ab, qm, G2, P2]
     have ol2 : O AQ S4 (w2.alloc (.cells #[i64 v.key, i64 v.tag.t, i64 v.tag.p, .slice a5 v.past.length c5, .string v.text, .bool v.gone] 49)) [.slice a4 l.length c4] l := ol.ext (F2.al _)
     refine Ae.bind (O.app (L := BW) (mx := 1954687338211) (xs := l) (x := v) CP Fw rfl (by decide) ol2 (o2.Aj (by intro b hS hb; (try dsimp only at hS); (try simp only [In] at hS hb); first | rfl | (simp (disch := first | exact xF | fail) only [qk]; done))) ?_ At.new (by omega) (by decide) (by decide)) ?_
     ·intro b hb q1 q2
      simp only [In] at q2
      have := (hS4 b q1).2.2
      omega
     rintro ⟨_, w3⟩ ⟨a7, c7, rfl, o7, M7⟩
     have zM7 := M7.size
     try simp only [qz] at zM7
     try dsimp only at o7 M7
     have zM7 := M7.size
     try simp only [World.size_alloc] at zM7
     have G3 := (M7.Ai g (by simp only [World.size_alloc]; omega) (fun h => (hS4 _ h).2.1 rfl)).trans ((Ag (by omega)).trans G2)
     have P3 := (M7.Ai w.heap.size (by simp only [World.size_alloc]; omega) (fun h => by have := (hS4 _ h).2.2; omega)).trans ((Ag (by omega)).trans P2)
     have R3 := (M7.Ai (w.heap.size + 1 + 1) (by simp only [World.size_alloc]; omega) (fun h => by have := (hS4 _ h).2.2; omega)).trans ((Ag (by omega)).trans R2)
     simp (disch := first | exact xD | fail) [-Option.bind_some, qs, -Aa, -Ab, qm, G3, P3, R3]
     have kS : ∀ b, S1 b ∨ S2 b ∨ S3 b → S b ∧ b < w.heap.size := by
      rintro b (h | h | h)
      ·exact ⟨(k1 b h).1, (k1 b h).2.2.2⟩
      ·exact ⟨(k2 b h).1, (k2 b h).2.2.2⟩
      ·exact ⟨(k3 b h).1, (k3 b h).2.2.2⟩
     have hle' : (l ++ [v]).length = l.length + 1 := by simp
     obtain ⟨W, hW⟩ : ∃ W : World, W = w3.setRow g (Bh cur i [.slice a7 (l.length + 1) c7]).toArray := ⟨_, rfl⟩
     rw [← hW]
     have sW : W.heap.size = w3.heap.size := by rw [hW, size_setRow]
     have kW : ∀ b, b ≠ g → hp W b = hp w3 b := fun b h => by rw [hW, Ac h]
     have k7 : ∀ b, b < w.heap.size → ¬ S4 b → hp w3 b = hp w b := fun b hb h => (M7.Ai b (by simp only [World.size_alloc]; omega) h).trans ((Ag (by omega)).trans (F2.Ai hb))
     have o7' : O AQ (fun b => (S4 b ∨ In w.heap.size w3.heap.size b) ∧ b ≠ g ∧ b ≠ w.heap.size ∧ b ≠ w.heap.size + 1 + 1) w3 [.slice a7 (l ++ [v]).length c7] (l ++ [v]) := by
      rw [hle']
      refine o7.wide fun b hb hbl => ?_
      simp only [In, World.size_alloc] at hb ⊢
      rcases hb with h | h | h
      ·have := hS4 b h
       exact ⟨.inl h, by omega, by omega, by omega⟩
      ·exact ⟨.inr (by omega), by omega, by omega, by omega⟩
      ·exact ⟨.inr (by omega), by omega, by omega, by omega⟩
     have oW := put (W.setRow (w.heap.size + 1 + 1) #[i64 p.me, i64 p.clock, .slice a p.chain.length c, .slice a1 p.log.length c1, .slice (some ⟨g, 0, none⟩) p.Bu.length c2, .bool p.fell]) [.slice a7 (l.length + 1) c7] (l ++ [v]) _ (by rw [← hle']; exact o7'.Aj fun b hb hbl => (Ac hb.2.2.2).trans (kW b hb.2.1)) ((Ac (by omega)).trans (by rw [hW]; exact (by first | assumption | rfl | (simp (disch := first | exact xD | fail) [-Option.bind_some, -Aa, -Ab, G3]; done)))) (fun b hb h3 hne h4 => (Ac (by omega)).trans ((kW b hne).trans (k7 b hb h4))) (fun b hb h => by rcases h.1 with h' | h'; exact .inl h'; exact .inr (fun hh => by simp only [In] at h'; omega))
     have hne2 : ∀ b, S1 b ∨ S2 b → b ≠ g ∧ ¬ S4 b ∧ b < w.heap.size := by
      rintro b (h | h)
      ·exact ⟨fun hh => (k1 b h).2.2.1 (hh ▸ hSg), fun hh => (k1 b h).2.2.1 (hS4 b hh).1, (k1 b h).2.2.2⟩
      ·exact ⟨fun hh => (k2 b h).2.2.1 (hh ▸ hSg), fun hh => (k2 b h).2.2.1 (hS4 b hh).1, (k2 b h).2.2.2⟩
     obtain ⟨p1, hp1⟩ : ∃ p1 : PlaceD, p1 = { p with Bu := p.Bu.set i (l ++ [v]) } := ⟨_, rfl⟩
     have kk : ∀ b, S1 b ∨ S2 b → hp (W.setRow (w.heap.size + 1 + 1) #[i64 p.me, i64 p.clock, .slice a p.chain.length c, .slice a1 p.log.length c1, .slice (some ⟨g, 0, none⟩) p.Bu.length c2, .bool p.fell]) b = hp w b := fun b hb => by
      have := hne2 b hb
      exact (Ac (by omega)).trans ((kW b this.1).trans (k7 b this.2.2 this.2.1))
     have oP := O.DY (p := p1) (S1 := S1) (S2 := S2) (s := .slice a p.chain.length c) (t := .slice a1 p.log.length c1) (by rw [hp1]; exact q1.Aj fun b hb _ => kk b (.inl hb)) (by rw [hp1]; exact q2.Aj fun b hb _ => kk b (.inr hb)) (by rw [hp1]; exact oW) (fun b _ h h' => (k1 b h).2.1 h')
      (fun b _ h h' => by
       rcases h' with h' | h'
       ·exact (k1 b h).2.2.1 h'.1
       ·rcases h'.1 with h'' | h''
        ·exact (hne2 b (.inl h)).2.1 h''
        ·have := (k1 b h).2.2.2; simp only [In] at h''; omega)
      (fun b _ h h' => by
       rcases h' with h' | h'
       ·exact (k2 b h).2.2.1 h'.1
       ·rcases h'.1 with h'' | h''
        ·exact (hne2 b (.inr h)).2.1 h''
        ·have := (k2 b h).2.2.2; simp only [In] at h''; omega)
     have ecs : [i64 p1.me, i64 p1.clock, .slice a p.chain.length c, .slice a1 p.log.length c1, .slice (some ⟨g, 0, none⟩) p.Bu.length c2, .bool p1.fell] = [i64 p.me, i64 p.clock, .slice a p.chain.length c, .slice a1 p.log.length c1, .slice (some ⟨g, 0, none⟩) p.Bu.length c2, .bool p.fell] := by rw [hp1]
     rw [ecs] at oP
     have PW := (kW w.heap.size (by omega)).trans P3
     have RW := (kW (w.heap.size + 1 + 1) (by omega)).trans R3
     refine hQ _ ⟨_, p1, true, rfl, by simp, ?_, oP.wide ?_, ?_⟩
     ·rw [hp1]
      refine ⟨hI, hl, hlp, by simpa using gl3, fun l' hl' => ?_⟩
      rcases List.mem_or_eq_of_mem_set hl' with h | rfl
      ·exact hgl l' h
      ·refine ⟨by omega, fun u hu => ?_⟩
       rcases List.mem_append.1 hu with h | h
       ·exact hl60.2 u h
       ·rw [List.mem_singleton.1 h]; exact hv
     ·intro b hb hbl
      try simp only [size_setRow] at hbl
      rcases hb with h | h | h | h
      ·exact .inl (kS b (.inl h)).1
      ·exact .inl (kS b (.inr (.inl h))).1
      ·exact .inl (kS b (.inr (.inr h.1))).1
      ·rcases h.1 with h' | h'
       ·exact .inl (kS b (.inr (.inr (hS4 b h').1))).1
       ·refine .inr ?_
        simp only [In, size_setRow] at h' ⊢
        omega
     ·have Mb : Mod S w w3 := Mod.AW (Mod.of (F2.al _) S) M7 fun b hb h => (kS b (.inr (.inr (hS4 b h).1))).1
      rw [hW]
      exact (Mb.AL (.inr (kS g (.inr (.inr hSg))).1) _).AL (.inl (by omega)) _
    ·have P1 : hp w1 w.heap.size = some (.cells #[i64 p.me, i64 p.clock, .slice a p.chain.length c, .slice a1 p.log.length c1, .slice (some ⟨g, 0, none⟩) p.Bu.length c2, .bool p.fell] 84 (0, 0)) := (E1.Ai (by simp only [World.size_alloc, Ad]; omega)).trans (by first | assumption | rfl | (simp (disch := first | exact xD | fail) [-Option.bind_some, qs, -Aa, -Ab]; done))
     have R1 : hp w1 (w.heap.size + 1 + 1) = some (.cells #[i64 0, i64 0, .slice none 0 0, .slice none 0 0, .slice none 0 0, .bool false] 84 (0, 0)) := (E1.Ai (by simp only [World.size_alloc, Ad]; omega)).trans (by first | assumption | rfl | (simp (disch := first | exact xD | fail) [-Option.bind_some, qs, -Aa, -Ab]; done))
     simp (disch := first | exact xD | fail) [-Option.bind_some, -Aa, -Ab, qm, P1, R1]
     exact fail Q _ hQ xE
   ·simp (disch := first | exact xD | fail) [-Option.bind_some, qs, -Aa, -Ab, qm, hme, hgr, HM, show (60 : Int) ≤ l.length by omega]
    exact fail Q _ hQ xE
  ·simp (disch := first | exact xD | fail) [-Option.bind_some, qs, -Aa, -Ab, qm, hme, hat, hgr, HM]
   exact fail Q _ hQ xE
 ·simp (disch := first | exact xD | fail) [-Option.bind_some, qs, -Aa, -Ab, qm, hme]
  exact fail Q _ hQ xE
abbrev AO : Lay (List Done) := Hg 38
theorem Ms (d : Done) (w : World) : Ae (EV P 60 #[.agg (Bp d).toArray] w) fun r => r.1 = .bool (Cw d) ∧ Ext w r.2 := by
 refine Ae.post fun Q hQ => ?_
 refine Ae.enter plain mixed (KE _ _) (by kernel_rfl) (n := 1) (by kernel_rfl) rfl ?_
 simp (disch := first | exact xD | fail) [-Option.bind_some, qs, -Aa, -Ab]
 refine Ae.bind (AD _ _ _ _) ?_
 rintro _ rfl
 unfold Cw at hQ
 cases b1 : (decide (0 ≤ d.Ar) && decide (d.Ar ≤ 3))
 ·rw [b1] at hQ
  simp (disch := first | exact xD | fail) [-Option.bind_some, -Aa, -Ab]
  exact hQ _ ⟨by simp, xE⟩
 simp (disch := first | exact xD | fail) [-Option.bind_some, qs, -Aa, -Ab]
 refine Ae.bind (AD _ _ _ _) ?_
 rintro _ rfl
 cases b2 : (decide (1 ≤ d.kind) && decide (d.kind ≤ 3))
 ·rw [b2] at hQ
  simp (disch := first | exact xD | fail) [-Option.bind_some, -Aa, -Ab]
  exact hQ _ ⟨by simp, xE⟩
 simp (disch := first | exact xD | fail) [-Option.bind_some, qs, -Aa, -Ab]
 refine Ae.bind (AD _ _ _ _) ?_
 rintro _ rfl
 cases b3 : (decide (0 ≤ d.key) && decide (d.key ≤ 3))
 ·rw [b3] at hQ
  simp (disch := first | exact xD | fail) [-Option.bind_some, -Aa, -Ab]
  exact hQ _ ⟨by simp, xE⟩
 simp (disch := first | exact xD | fail) [-Option.bind_some, qs, -Aa, -Ab]
 refine Ae.bind (KY d.tag _) ?_
 rintro ⟨_, w1⟩ ⟨rfl, E1⟩
 try dsimp only at E1
 have zE1 := E1.size
 try simp only [qz] at zE1
 cases b4 : DC d.tag
 ·rw [b4] at hQ
  simp (disch := first | exact xD | fail) [-Option.bind_some, -Aa, -Ab]
  exact hQ _ ⟨by simp, xE⟩
 rw [b1, b2, b3, b4] at hQ
 cases b5 : (d.kind == 2)
 ·rw [b5] at hQ
  simp (disch := first | exact xD | fail) [-Option.bind_some, qs, -Aa, -Ab, b5, E1.Ai]
  exact hQ _ ⟨by simp, xE⟩
 ·rw [b5] at hQ
  simp (disch := first | exact xD | fail) [-Option.bind_some, qs, -Aa, -Ab, b5, E1.Ai]
  exact hQ _ ⟨by simp, xE⟩
theorem J9 (d : Done) (w : World) : Ae (EV P 55 #[.agg (Bp d).toArray] w) fun r => r.1 = .bool (!Cw d) ∧ Ext w r.2 := by
 refine Ae.post fun Q hQ => ?_
 refine Ae.enter plain mixed (Jh _ _) (by kernel_rfl) (n := 1) (by kernel_rfl) rfl ?_
 simp (disch := first | exact xD | fail) [-Option.bind_some, qs, -Aa, -Ab]
 refine Ae.bind (BI _ _ _ _) ?_
 rintro _ rfl
 unfold Cw at hQ
 cases b1 : (decide (0 ≤ d.Ar) && decide (d.Ar ≤ 3))
 ·rw [b1] at hQ
  simp (disch := first | exact xD | fail) [-Option.bind_some, -Aa, -Ab]
  exact hQ _ ⟨by simp, xE⟩
 simp (disch := first | exact xD | fail) [-Option.bind_some, qs, -Aa, -Ab]
 refine Ae.bind (BI _ _ _ _) ?_
 rintro _ rfl
 cases b2 : (decide (1 ≤ d.kind) && decide (d.kind ≤ 3))
 ·rw [b2] at hQ
  simp (disch := first | exact xD | fail) [-Option.bind_some, -Aa, -Ab]
  exact hQ _ ⟨by simp, xE⟩
 simp (disch := first | exact xD | fail) [-Option.bind_some, qs, -Aa, -Ab]
 refine Ae.bind (Oe _ _) ?_
 rintro _ rfl
 cases b3 : TE d.key
 ·rw [show (decide (0 ≤ d.key) && decide (d.key ≤ 3)) = false from b3] at hQ
  simp (disch := first | exact xD | fail) [-Option.bind_some, -Aa, -Ab]
  exact hQ _ ⟨by simp, xE⟩
 simp (disch := first | exact xD | fail) [-Option.bind_some, qs, -Aa, -Ab]
 refine Ae.bind (Oc d.tag _) ?_
 rintro ⟨_, w1⟩ ⟨rfl, E1⟩
 try dsimp only at E1
 have zE1 := E1.size
 try simp only [qz] at zE1
 cases b4 : DC d.tag
 ·rw [b4] at hQ
  simp (disch := first | exact xD | fail) [-Option.bind_some, -Aa, -Ab]
  exact hQ _ ⟨by simp, xE⟩
 rw [b1, b2, b4, show (decide (0 ≤ d.key) && decide (d.key ≤ 3)) = true from b3] at hQ
 have hz : ((d.tag.t == 0) && (d.tag.p == 0)) = !decide (0 < d.tag.t) := by
  rw [Bool.eq_iff_iff]
  simp only [DC, Bool.or_eq_true, Bool.and_eq_true, beq_iff_eq, decide_eq_true_eq] at b4
  simp only [Bool.and_eq_true, beq_iff_eq, Bool.not_eq_true', decide_eq_false_iff_not]
  omega
 cases b6 : decide (0 < d.tag.t)
 ·rw [b6] at hQ hz
  cases b5 : (d.kind == 2)
  ·rw [b5] at hQ
   have b5' : (d.kind != 2) = true := by rw [bne, b5]; rfl
   simp (disch := first | exact xD | fail) [-Option.bind_some, qs, -Aa, -Ab, b5', hz, E1.Ai]
   exact hQ _ ⟨by simp, xE⟩
  ·rw [b5] at hQ
   have b5' : (d.kind != 2) = false := by rw [bne, b5]; rfl
   simp (disch := first | exact xD | fail) [-Option.bind_some, qs, -Aa, -Ab, b5', hz, E1.Ai]
   exact hQ _ ⟨by simp, xE⟩
 ·rw [b6] at hQ hz
  simp (disch := first | exact xD | fail) [-Option.bind_some, qs, -Aa, -Ab, hz, E1.Ai]
  exact hQ _ ⟨by simp, xE⟩
abbrev NW : Lay (List (List Tag)) := AP 32 5864062014805 AJ
theorem OJ : AJ.n = 1 := rfl
theorem Mt {a : Option Addr} {c : Nat} {S : Nat → Prop} {xs : List Done} {w0 : World} :
  ∀ (d k : Nat) (e : Env) (w : World), k + d = xs.length → e 0 = .slice a xs.length c → e 3 = i64 k → D AO S w0 [.slice a xs.length c] xs → Ext w0 w →
  Ae (Dx e w) fun r => r.1 = .bool ((xs.drop k).all Cw && decide (xs.length ≤ 80)) ∧ Ext w0 r.2 := by
 intro d
 induction d with
 | zero =>
  intro k e w hd e0 e3 ha E0
  have zE0 := E0.size
  try simp only [qz] at zE0
  rw [FF]
  obtain rfl : k = xs.length := by omega
  rw [List.drop_of_length_le (by omega), List.all_nil, Bool.true_and]
  have hq : decide ((xs.length : Int) ≤ 80) = decide (xs.length ≤ 80) := by rw [Bool.eq_iff_iff]; simp only [decide_eq_true_eq]; omega
  refine Ae.post fun Q hQ => ?_
  simp (disch := first | exact xD | fail) [-Option.bind_some, -Aa, -Ab, e0, e3, hq]
  exact hQ _ ⟨by simp, xE⟩
 | succ d ih =>
  intro k e w hd e0 e3 ha E0
  have zE0 := E0.size
  try simp only [qz] at zE0
  rw [FF]
  have hlt : k < xs.length := by omega
  obtain ⟨x, hx, hdx⟩ := Ak hlt
  have hn := ha.n
  obtain ⟨b1, o1, cs1, rfl, A1, D1, _, l1⟩ := (ha.ext E0).at (by decide) hx
  obtain rfl := D.done.1 D1
  have p0 := A1 0 _ rfl
  have p1 := A1 1 _ rfl
  have p2 := A1 2 _ rfl
  have p3 := A1 3 _ rfl
  have p4 := A1 4 _ rfl
  simp only [Nat.add_zero] at p0 p1 p2 p3 p4
  simp only [FG] at p0 p1 p2 p3 p4
  rw [hdx, List.all_cons]
  refine Ae.post fun Q hQ => ?_
  simp (disch := first | exact xD | fail) [-Option.bind_some, qs, -Aa, -Ab, e0, e3, hlt, CC, p0, p1, p2, p3, p4]
  refine Ae.bind (Ms x _) ?_
  rintro ⟨_, w1⟩ ⟨rfl, E1⟩
  try dsimp only at E1
  have zE1 := E1.size
  try simp only [qz] at zE1
  cases ho : Cw x
  ·rw [ho] at hQ
   simp (disch := first | exact xD | fail) [-Option.bind_some, -Aa, -Ab]
   exact hQ _ ⟨by simp, xE⟩
  ·rw [ho] at hQ
   simp (disch := first | exact xD | fail) [-Option.bind_some, -Aa, -Ab]
   exact Ae.mono (ih (k + 1) _ _ (by omega) xA xA ha xE) (fun r h => hQ r ⟨by rw [h.1]; simp, h.2⟩)
theorem Mu {a : Option Addr} {n c : Nat} {S : Nat → Prop} {xs : List Done} {w : World} (ha : D AO S w [.slice a n c] xs) :
  Ae (EV P 30 #[.slice a n c] w) fun r => r.1 = .bool (Dy xs) ∧ Ext w r.2 := by
 obtain ⟨rfl, hm, _⟩ := ha.n
 refine Ae.post fun Q hQ => ?_
 refine Ae.enter plain mixed (L9 _ _) (by kernel_rfl) (n := 1) (by kernel_rfl) rfl ?_
 simp (disch := first | exact xD | fail) [-Option.bind_some, -Aa, -Ab]
 exact Ae.mono (Mt xs.length 0 _ w (by omega) rfl rfl ha Ext.rfl) hQ
theorem FT {a : Option Addr} {c : Nat} {S : Nat → Prop} {f : Value} {xs : List Done} {p : Done → Bool} {w0 : World} (hf : ∀ x ∈ xs, ∀ w, Ext w0 w → Ae (SM P f #[.agg (Bp x).toArray] w) fun r => r.1 = .bool (p x) ∧ Ext w r.2) :
  ∀ (d k : Nat) (e : Env) (w : World), k + d = xs.length → e 0 = .slice a xs.length c → e 1 = f → e 7 = i64 xs.length → e 8 = i64 k → D AO S w0 [.slice a xs.length c] xs → Ext w0 w →
  Ae (Bo e w) fun r => ∃ i : Int, r.1 = i64 i ∧ decide (0 ≤ i) = (xs.drop k).any p ∧ Ext w0 r.2 := by
 intro d
 induction d with
 | zero =>
  intro k e w hd e0 e1 e7 e8 ha E0
  have zE0 := E0.size
  try simp only [qz] at zE0
  rw [Cc]
  obtain rfl : k = xs.length := by omega
  rw [List.drop_eq_nil_of_le (by omega)]
  refine Ae.post fun Q hQ => ?_
  simp (disch := first | exact xD | fail) [-Option.bind_some, -Aa, -Ab, e7, e8]
  exact hQ _ ⟨_, rfl, by simp, E0⟩
 | succ d ih =>
  intro k e w hd e0 e1 e7 e8 ha E0
  have zE0 := E0.size
  try simp only [qz] at zE0
  rw [Cc]
  have hlt : k < xs.length := by omega
  obtain ⟨x, hx, hdx⟩ := Ak hlt
  have hn := ha.n
  obtain ⟨b1, o1, cs1, rfl, A1, D1, _, l1⟩ := (ha.ext E0).at (by decide) hx
  obtain rfl := D.done.1 D1
  have p0 := A1 0 _ rfl
  have p1 := A1 1 _ rfl
  have p2 := A1 2 _ rfl
  have p3 := A1 3 _ rfl
  have p4 := A1 4 _ rfl
  simp only [Nat.add_zero] at p0 p1 p2 p3 p4
  simp only [FG] at p0 p1 p2 p3 p4
  rw [hdx, List.any_cons]
  refine Ae.post fun Q hQ => ?_
  simp (disch := first | exact xD | fail) [-Option.bind_some, qs, -Aa, -Ab, e0, e1, e7, e8, hlt, CC, p0, p1, p2, p3, p4]
  refine Ae.bind (hf x (List.mem_of_getElem? hx) _ E0) ?_
  rintro ⟨_, w1⟩ ⟨rfl, E1⟩
  try dsimp only at E1
  have zE1 := E1.size
  try simp only [qz] at zE1
  cases ho : p x
  ·rw [ho] at hQ
   simp (disch := first | exact xD | fail) [-Option.bind_some, -Aa, -Ab]
   exact Ae.mono (ih (k + 1) _ _ (by omega) xA xA xA xA ha xE) (fun r h => hQ r (by simpa using h))
  ·rw [ho] at hQ
   simp (disch := first | exact xD | fail) [-Option.bind_some, -Aa, -Ab]
   exact hQ _ ⟨_, rfl, by simp, xE⟩
theorem EK {a : Option Addr} {n c : Nat} {S : Nat → Prop} {f : Value} {xs : List Done} {p : Done → Bool} {w : World} (ha : D AO S w [.slice a n c] xs) (hf : ∀ x ∈ xs, ∀ w', Ext w w' → Ae (SM P f #[.agg (Bp x).toArray] w') fun r => r.1 = .bool (p x) ∧ Ext w' r.2) :
  Ae (EV P 54 #[.slice a n c, f] w) fun r => r.1 = .bool (xs.any p) ∧ Ext w r.2 := by
 obtain ⟨rfl, hm, _⟩ := ha.n
 have hi : Ae (EV P 87 #[.slice a xs.length c, f] w) fun r => ∃ i : Int, r.1 = i64 i ∧ decide (0 ≤ i) = xs.any p ∧ Ext w r.2 := by
  refine Ae.enter plain mixed (FM _ _ _) (by kernel_rfl) (n := 2) (by kernel_rfl) rfl ?_
  simp (disch := first | exact xD | fail) [-Option.bind_some]
  exact FT hf xs.length 0 _ w (by omega) rfl rfl rfl rfl ha Ext.rfl
 refine Ae.enter plain mixed (Eo _ _ _) (by kernel_rfl) (n := 2) (by kernel_rfl) rfl ?_
 simp (disch := first | exact xD | fail) [-Option.bind_some]
 refine Ae.bind hi ?_
 rintro ⟨_, w1⟩ ⟨i, rfl, h2, hE⟩
 simp (disch := first | exact xD | fail) [-Option.bind_some, h2]
 exact hE
theorem Mv {a : Option Addr} {n c : Nat} {S : Nat → Prop} {xs : List Done} {w : World} (ha : D AO S w [.slice a n c] xs) :
  Ae (EV P 28 #[.slice a n c] w) fun r => r.1 = .bool (Dy xs) ∧ Ext w r.2 := by
 obtain ⟨rfl, hm, _⟩ := ha.n
 have hq : decide ((xs.length : Int) ≤ 80) = decide (xs.length ≤ 80) := by rw [Bool.eq_iff_iff]; simp only [decide_eq_true_eq]; omega
 refine Ae.post fun Q hQ => ?_
 refine Ae.enter plain mixed (L6 _ _) (by kernel_rfl) (n := 1) (by kernel_rfl) rfl ?_
 cases h : decide (xs.length ≤ 80)
 ·simp (disch := first | exact xD | fail) [-Option.bind_some, -Aa, -Ab, hq, h]
  exact hQ _ ⟨by simp [Dy, h], xE⟩
 ·simp (disch := first | exact xD | fail) [-Option.bind_some, -Aa, -Ab, hq, h]
  refine Ae.bind (EK (p := fun x => !Cw x) (ha.ext xE) (fun x _ w' E' => by have := Uz (P := P) (g := 55) (by kernel_rfl) [] [] [.agg (Bp x).toArray] w'; exact (by simpa using this : SM P (.func (.func 55) #[] #[]) #[.agg (Bp x).toArray] w' = _) ▸ J9 x w')) ?_
  rintro ⟨_, w1⟩ ⟨rfl, E1⟩
  try dsimp only at E1
  have zE1 := E1.size
  try simp only [qz] at zE1
  simp (disch := first | exact xD | fail) [-Option.bind_some, -Aa, -Ab]
  refine hQ _ ⟨?_, xE⟩
  rw [Dy, h, Bool.and_true]
  congr 1
  rw [List.all_eq_not_any_not]
theorem KQ {g2 g3 : Nat} {a : Option Addr} {c : Nat} {S : Nat → Prop} {xs : List Tag} {t : Tag} {w0 : World} (hl : xs.length = 4) (X2 : hp w0 g2 = some (.cells #[.slice a 4 c] 32 (0, 0))) (X3 : hp w0 g3 = some (.cells #[i64 t.t, i64 t.p] 36 (0, 0))) (ha : D AJ S w0 [.slice a 4 c] xs) :
  ∀ (d k : Nat) (e : Env) (w : World), k + d = 4 → e 2 = pt g2 0 → e 3 = pt g3 0 → e 5 = i64 k → Ext w0 w →
  Ae (CH e w) fun r => r.1 = .bool (Hh (xs.drop k) t) ∧ Ext w0 r.2 := by
 have y2 := Aq X2
 have y3 := Aq X3
 intro d
 induction d with
 | zero =>
  intro k e w hd e2 e3 e5 E0
  have zE0 := E0.size
  try simp only [qz] at zE0
  rw [EG]
  obtain rfl : k = 4 := by omega
  rw [List.drop_eq_nil_of_le (by omega)]
  refine Ae.post fun Q hQ => ?_
  simp (disch := first | exact xD | fail) [-Option.bind_some, -Aa, -Ab, e5]
  exact hQ _ ⟨rfl, xE⟩
 | succ d ih =>
  intro k e w hd e2 e3 e5 E0
  have zE0 := E0.size
  try simp only [qz] at zE0
  rw [EG]
  have hlt : k < 4 := by omega
  have hk40 : (k : Int) < 4 := by omega
  obtain ⟨x, hx, hdx⟩ := Ak (l := xs) (k := k) (by omega)
  have X2' := (E0.Ai y2).trans X2
  have X3' := (E0.Ai y3).trans X3
  obtain ⟨b1, o1, cs1, rfl, A1, D1, _, l1⟩ := (ha.ext E0).at (by decide) hx
  obtain rfl := D.tag.1 D1
  have p0 := A1 0 _ rfl
  have p1 := A1 1 _ rfl
  simp only [DK, Nat.add_zero] at p0 p1
  rw [hdx, Hh, List.all_cons]
  refine Ae.post fun Q hQ => ?_
  cases h : decide (t.t ≤ x.t)
  ·rw [h] at hQ
   simp only [decide_eq_false_iff_not] at h
   simp (disch := first | exact xD | fail) [-Option.bind_some, qs, -Aa, -Ab, e2, e3, e5, hk40, Em, X2', X3', h, p0]
   exact Ae.mono (ih (k + 1) _ _ (by omega) xA xA xA xE) (fun r h => hQ r ⟨by rw [h.1]; simp [Hh], h.2⟩)
  ·rw [h] at hQ
   simp only [decide_eq_true_eq] at h
   simp (disch := first | exact xD | fail) [-Option.bind_some, -Aa, -Ab, e2, e3, e5, hk40, Em, X2', X3', h, p0]
   exact hQ _ ⟨by simp, xE⟩
theorem KR {a : Option Addr} {c : Nat} {S : Nat → Prop} {xs : List Tag} {t : Tag} {w : World} (hl : xs.length = 4) (ha : D AJ S w [.slice a 4 c] xs) :
  Ae (EV P 62 #[.agg #[.slice a 4 c], .agg #[i64 t.t, i64 t.p]] w) fun r => r.1 = .bool (Hh xs t) ∧ Ext w r.2 := by
 refine Ae.post fun Q hQ => ?_
 refine Ae.enter plain mixed (J4 _ _ _) (by kernel_rfl) (n := 2) (by kernel_rfl) rfl ?_
 simp (disch := first | exact xD | fail) [-Option.bind_some, -Aa, -Ab]
 have E0 : Ext w ((w.alloc (.cells #[.slice a 4 c] 32)).alloc (.cells #[i64 t.t, i64 t.p] 36)) := xE
 have zE0 := E0.size
 try simp only [qz] at zE0
 refine Ae.mono (KQ (g2 := w.heap.size) (g3 := w.heap.size + 1) hl (by first | assumption | rfl | (simp (disch := first | exact xD | fail) [-Option.bind_some, qs]; done)) (by first | assumption | rfl | (simp (disch := first | exact xD | fail) [-Option.bind_some, qs]; done)) (ha.ext E0) 4 0 _ _ (by omega) xA xA xA Ext.rfl) (fun r h => hQ r ⟨h.1, E0.tr h.2⟩)
theorem KS {a a2 : Option Addr} {c c2 g5 g6 n2 : Nat} {S S2 : Nat → Prop} {xs : List Done} {sn : List (List Tag)} {t : Tag} {w0 : World} (hle : sn.length = xs.length) (hg56 : g5 ≠ g6) (hg6 : w0.heap.size ≤ g6) (hS2 : ∀ b, S2 b → b < w0.heap.size)
  (ha : D AO S w0 [.slice a xs.length c] xs) (hb : D NW S2 w0 [.slice a2 n2 c2] sn) :
  ∀ (d k : Nat) (e : Env) (w : World), k + d = xs.length → e 0 = .slice a xs.length c → e 1 = .slice a2 n2 c2 → e 5 = pt g5 0 → e 6 = pt g6 0 → e 8 = i64 k → Ext w0 w →
  hp w g5 = some (.cells #[i64 t.t, i64 t.p] 36 (0, 0)) → (∃ v, hp w g6 = some (.cells #[v] 32 (0, 0))) →
  Ae (CG e w) fun r => ((Gl (xs.drop k) (sn.drop k) t = none ∧ r.1 = .tuple #[.agg #[.slice none 0 0], .bool false]) ∨ ∃ p a3 c3, Gl (xs.drop k) (sn.drop k) t = some p ∧ p ∈ sn ∧ r.1 = .tuple #[.agg #[.slice a3 p.length c3], .bool true] ∧ D AJ S2 r.2 [.slice a3 p.length c3] p) ∧ Ext w0 r.2 := by
 obtain ⟨rfl, hm2, _⟩ := hb.n
 intro d
 induction d with
 | zero =>
  intro k e w hd e0 e1 e5 e6 e8 E0 X5 X6
  have zE0 := E0.size
  try simp only [qz] at zE0
  rw [EF]
  obtain rfl : k = xs.length := by omega
  obtain ⟨v, X6⟩ := X6
  have y5 := Aq X5
  have y6 := Aq X6
  rw [List.drop_eq_nil_of_le (by omega)]
  refine Ae.post fun Q hQ => ?_
  simp (disch := first | exact xD | fail) [-Option.bind_some, -Aa, -Ab, qm, e0, e6, e8, X6]
  exact hQ _ ⟨.inl ⟨rfl, rfl⟩, xE⟩
 | succ d ih =>
  intro k e w hd e0 e1 e5 e6 e8 E0 X5 X6
  have zE0 := E0.size
  try simp only [qz] at zE0
  rw [EF]
  obtain ⟨v, X6⟩ := X6
  have y5 := Aq X5
  have y6 := Aq X6
  have hlt : k < xs.length := by omega
  obtain ⟨x, hx, hdx⟩ := Ak hlt
  obtain ⟨p, hp', hdp⟩ := Ak (l := sn) (k := k) (by omega)
  have hn := ha.n
  obtain ⟨b1, o1, cs1, rfl, A1, D1, _, l1⟩ := (ha.ext E0).at (by decide) hx
  obtain rfl := D.done.1 D1
  have p0 := A1 0 _ rfl
  have p1 := A1 1 _ rfl
  have p2 := A1 2 _ rfl
  have p3 := A1 3 _ rfl
  have p4 := A1 4 _ rfl
  simp only [Nat.add_zero] at p0 p1 p2 p3 p4
  simp only [FG] at p0 p1 p2 p3 p4
  obtain ⟨b2, o2, cs2, rfl, A2, D2, _, l2⟩ := (hb.ext E0).at (by decide) hp'
  obtain ⟨a3, c3, rfl, D3⟩ := D2.Gn
  have q0 : Bn (hp w b2) (o2 + k) = some (.slice a3 p.length c3) := by have := A2 0 _ rfl; simpa only [OJ, Nat.mul_one, Nat.add_zero] using this
  have hlt2 : k < sn.length := by omega
  rw [hdx, hdp, Gl]
  refine Ae.post fun Q hQ => ?_
  cases h1 : (x.kind == 1)
  ·rw [h1, Bool.false_and] at hQ
   simp (disch := first | exact xD | fail) [-Option.bind_some, qs, -Aa, -Ab, e0, e5, e8, hlt, CC, X5, h1, p1]
   exact Ae.mono (ih (k + 1) _ _ (by omega) xA xA xA xA xA xE (by first | assumption | rfl | (simp (disch := first | exact xD | fail) [-Option.bind_some, qs, -Aa, -Ab, qm, X5, e0, e1, e5, e6, e8, E0.Ai, X6, hlt, p0, p1, p2, p3, p4, hlt2]; done)) ⟨_, (by first | assumption | rfl | (simp (disch := first | exact xD | fail) [-Option.bind_some, qs, -Aa, -Ab, qm, X6, e0, e1, e5, e6, e8, E0.Ai, X5, hlt, p0, p1, p2, p3, p4, hlt2]; done))⟩) (fun r h => hQ r (by simpa using h))
  ·cases h2 : ((x.tag.t == t.t) && (x.tag.p == t.p))
   ·rw [h1, h2] at hQ
    simp (disch := first | exact xD | fail) [-Option.bind_some, qs, -Aa, -Ab, e0, e5, e8, hlt, CC, X5, h1, h2, p1, p3, p4]
    exact Ae.mono (ih (k + 1) _ _ (by omega) xA xA xA xA xA xE (by first | assumption | rfl | (simp (disch := first | exact xD | fail) [-Option.bind_some, qs, -Aa, -Ab, qm, X5, e0, e1, e5, e6, e8, E0.Ai, X6, hlt, p0, p1, p2, p3, p4, hlt2]; done)) ⟨_, (by first | assumption | rfl | (simp (disch := first | exact xD | fail) [-Option.bind_some, qs, -Aa, -Ab, qm, X6, e0, e1, e5, e6, e8, E0.Ai, X5, hlt, p0, p1, p2, p3, p4, hlt2]; done))⟩) (fun r h => hQ r (by simpa using h))
   ·rw [h1, h2] at hQ
    simp (disch := first | exact xD | fail) [-Option.bind_some, -Aa, -Ab, qm, e0, e1, e5, e6, e8, hlt, CC, OZ, q0, X5, X6, h1, h2, p1, p3, p4]
    refine hQ _ ⟨.inr ⟨p, a3, c3, rfl, List.mem_of_getElem? hp', rfl, D3.Aj (fun b hb hl => ?_)⟩, Ext.set (E0.tr (BJ w)) hg6 _⟩
    ·exact Ac (by intro e; subst e; exact absurd (hS2 _ hb) (by omega))
theorem GN {a a2 : Option Addr} {n n2 c c2 : Nat} {S S2 : Nat → Prop} {xs : List Done} {sn : List (List Tag)} {t : Tag} {w : World} (hle : sn.length = xs.length) (hS2 : ∀ b, S2 b → b < w.heap.size)
  (ha : D AO S w [.slice a n c] xs) (hb : D NW S2 w [.slice a2 n2 c2] sn) :
  Ae (EV P 61 #[.slice a n c, .slice a2 n2 c2, .agg #[i64 t.t, i64 t.p]] w) fun r => ((Gl xs sn t = none ∧ r.1 = .tuple #[.agg #[.slice none 0 0], .bool false]) ∨ ∃ p a3 c3, Gl xs sn t = some p ∧ p ∈ sn ∧ r.1 = .tuple #[.agg #[.slice a3 p.length c3], .bool true] ∧ D AJ S2 r.2 [.slice a3 p.length c3] p) ∧ Ext w r.2 := by
 obtain ⟨rfl, hm, _⟩ := ha.n
 refine Ae.post fun Q hQ => ?_
 refine Ae.enter plain mixed (J3 _ _ _ _) (by kernel_rfl) (n := 3) (by kernel_rfl) rfl ?_
 simp (disch := first | exact xD | fail) [-Option.bind_some, -Aa, -Ab]
 exact Ae.mono (KS (g5 := w.heap.size) (g6 := w.heap.size + 1) hle (by omega) (by omega) hS2 ha hb xs.length 0 _ _ (by omega) xA xA xA xA xA xE (by first | assumption | rfl | (simp (disch := first | exact xD | fail) [-Option.bind_some, qs]; done)) ⟨.slice none 0 0, (by first | assumption | rfl | (simp (disch := first | exact xD | fail) [-Option.bind_some, qs]; done))⟩) hQ
theorem OK {a : Option Addr} {c g3 : Nat} {S : Nat → Prop} {xs : List Done} {d0 : Done} {w0 : World} (ha : D AO S w0 [.slice a xs.length c] xs) (X3 : hp w0 g3 = some (.cells (Bp d0).toArray 38 (0, 0))) :
  ∀ (d k : Nat) (e : Env) (w : World), k + d = xs.length → e 0 = .slice a xs.length c → e 3 = pt g3 0 → e 5 = i64 k → Ext w0 w →
  Ae (Ep e w) fun r => r.1 = .bool (match GF (xs.drop k) d0.tag with | some x => x.key == d0.key | none => false) ∧ Ext w0 r.2 := by
 have y3 := Aq X3
 intro d
 induction d with
 | zero =>
  intro k e w hd e0 e3 e5 E0
  have zE0 := E0.size
  try simp only [qz] at zE0
  rw [Gz]
  obtain rfl : k = xs.length := by omega
  rw [List.drop_eq_nil_of_le (by omega)]
  refine Ae.post fun Q hQ => ?_
  simp (disch := first | exact xD | fail) [-Option.bind_some, -Aa, -Ab, e0, e5]
  exact hQ _ ⟨rfl, xE⟩
 | succ d ih =>
  intro k e w hd e0 e3 e5 E0
  have zE0 := E0.size
  try simp only [qz] at zE0
  rw [Gz]
  have X3' := (E0.Ai y3).trans X3
  have hlt : k < xs.length := by omega
  obtain ⟨x, hx, hdx⟩ := Ak hlt
  have hn := ha.n
  obtain ⟨b1, o1, cs1, rfl, A1, D1, _, l1⟩ := (ha.ext E0).at (by decide) hx
  obtain rfl := D.done.1 D1
  have p0 := A1 0 _ rfl
  have p1 := A1 1 _ rfl
  have p2 := A1 2 _ rfl
  have p3 := A1 3 _ rfl
  have p4 := A1 4 _ rfl
  simp only [Nat.add_zero] at p0 p1 p2 p3 p4
  simp only [FG] at p0 p1 p2 p3 p4
  rw [hdx, GF]
  refine Ae.post fun Q hQ => ?_
  cases h1 : (x.kind == 1)
  ·rw [h1, Bool.false_and] at hQ
   simp (disch := first | exact xD | fail) [-Option.bind_some, qs, -Aa, -Ab, e0, e3, e5, hlt, CC, h1, p1]
   exact Ae.mono (ih (k + 1) _ _ (by omega) xA xA xA xE) (fun r h => hQ r (by simpa using h))
  ·cases h2 : ((x.tag.t == d0.tag.t) && (x.tag.p == d0.tag.p))
   ·rw [h1, h2] at hQ
    simp (disch := first | exact xD | fail) [-Option.bind_some, qs, -Aa, -Ab, e0, e3, e5, hlt, CC, X3', h1, h2, p1, p3, p4]
    exact Ae.mono (ih (k + 1) _ _ (by omega) xA xA xA xE) (fun r h => hQ r (by simpa using h))
   ·rw [h1, h2] at hQ
    simp (disch := first | exact xD | fail) [-Option.bind_some, -Aa, -Ab, e0, e3, e5, hlt, CC, X3', h1, h2, p1, p2, p3, p4]
    exact hQ _ ⟨rfl, xE⟩
theorem OL {a : Option Addr} {n c : Nat} {S : Nat → Prop} {xs : List Done} {d0 : Done} {w : World} (ha : D AO S w [.slice a n c] xs) :
  Ae (EV P 64 #[.slice a n c, .agg (Bp d0).toArray] w) fun r => r.1 = .bool (match GF xs d0.tag with | some x => x.key == d0.key | none => false) ∧ Ext w r.2 := by
 obtain ⟨rfl, hm, _⟩ := ha.n
 refine Ae.post fun Q hQ => ?_
 refine Ae.enter plain mixed (NN _ _ _) (by kernel_rfl) (n := 2) (by kernel_rfl) rfl ?_
 simp (disch := first | exact xD | fail) [-Option.bind_some, -Aa, -Ab]
 have E0 : Ext w (w.alloc (.cells (Bp d0).toArray 38)) := xE
 have zE0 := E0.size
 try simp only [qz] at zE0
 exact Ae.mono (OK (g3 := w.heap.size) (ha.ext E0) (by first | assumption | rfl | (simp (disch := first | exact xD | fail) [-Option.bind_some, qs]; done)) xs.length 0 _ _ (by omega) xA xA xA Ext.rfl) (fun r h => hQ r ⟨h.1, E0.tr h.2⟩)
theorem NX {a : Option Addr} {c g3 : Nat} {S : Nat → Prop} {xs : List Done} {d0 : Done} {w0 : World} (ha : D AO S w0 [.slice a xs.length c] xs) (X3 : hp w0 g3 = some (.cells (Bp d0).toArray 38 (0, 0))) :
  ∀ (d k : Nat) (e : Env) (w : World), k + d = xs.length → e 0 = .slice a xs.length c → e 3 = pt g3 0 → e 5 = i64 k → Ext w0 w →
  Ae (DQ e w) fun r => r.1 = .bool (match GF (xs.drop k) d0.tag with | some x => x.Ar == d0.Ar | none => false) ∧ Ext w0 r.2 := by
 have y3 := Aq X3
 intro d
 induction d with
 | zero =>
  intro k e w hd e0 e3 e5 E0
  have zE0 := E0.size
  try simp only [qz] at zE0
  rw [FV]
  obtain rfl : k = xs.length := by omega
  rw [List.drop_eq_nil_of_le (by omega)]
  refine Ae.post fun Q hQ => ?_
  simp (disch := first | exact xD | fail) [-Option.bind_some, -Aa, -Ab, e0, e5]
  exact hQ _ ⟨rfl, xE⟩
 | succ d ih =>
  intro k e w hd e0 e3 e5 E0
  have zE0 := E0.size
  try simp only [qz] at zE0
  rw [FV]
  have X3' := (E0.Ai y3).trans X3
  have hlt : k < xs.length := by omega
  obtain ⟨x, hx, hdx⟩ := Ak hlt
  have hn := ha.n
  obtain ⟨b1, o1, cs1, rfl, A1, D1, _, l1⟩ := (ha.ext E0).at (by decide) hx
  obtain rfl := D.done.1 D1
  have p0 := A1 0 _ rfl
  have p1 := A1 1 _ rfl
  have p2 := A1 2 _ rfl
  have p3 := A1 3 _ rfl
  have p4 := A1 4 _ rfl
  simp only [Nat.add_zero] at p0 p1 p2 p3 p4
  simp only [FG] at p0 p1 p2 p3 p4
  rw [hdx, GF]
  refine Ae.post fun Q hQ => ?_
  cases h1 : (x.kind == 1)
  ·rw [h1, Bool.false_and] at hQ
   simp (disch := first | exact xD | fail) [-Option.bind_some, qs, -Aa, -Ab, e0, e3, e5, hlt, CC, h1, p1]
   exact Ae.mono (ih (k + 1) _ _ (by omega) xA xA xA xE) (fun r h => hQ r (by simpa using h))
  ·cases h2 : ((x.tag.t == d0.tag.t) && (x.tag.p == d0.tag.p))
   ·rw [h1, h2] at hQ
    simp (disch := first | exact xD | fail) [-Option.bind_some, qs, -Aa, -Ab, e0, e3, e5, hlt, CC, X3', h1, h2, p1, p3, p4]
    exact Ae.mono (ih (k + 1) _ _ (by omega) xA xA xA xE) (fun r h => hQ r (by simpa using h))
   ·rw [h1, h2] at hQ
    simp (disch := first | exact xD | fail) [-Option.bind_some, -Aa, -Ab, e0, e3, e5, hlt, CC, X3', h1, h2, p0, p1, p3, p4]
    exact hQ _ ⟨rfl, xE⟩
theorem Iz {a : Option Addr} {n c : Nat} {S : Nat → Prop} {xs : List Done} {d0 : Done} {w : World} (ha : D AO S w [.slice a n c] xs) :
  Ae (EV P 65 #[.slice a n c, .agg (Bp d0).toArray] w) fun r => r.1 = .bool (match GF xs d0.tag with | some x => x.Ar == d0.Ar | none => false) ∧ Ext w r.2 := by
 obtain ⟨rfl, hm, _⟩ := ha.n
 refine Ae.post fun Q hQ => ?_
 refine Ae.enter plain mixed (MJ _ _ _) (by kernel_rfl) (n := 2) (by kernel_rfl) rfl ?_
 simp (disch := first | exact xD | fail) [-Option.bind_some, -Aa, -Ab]
 have E0 : Ext w (w.alloc (.cells (Bp d0).toArray 38)) := xE
 have zE0 := E0.size
 try simp only [qz] at zE0
 exact Ae.mono (NX (g3 := w.heap.size) (ha.ext E0) (by first | assumption | rfl | (simp (disch := first | exact xD | fail) [-Option.bind_some, qs]; done)) xs.length 0 _ _ (by omega) xA xA xA Ext.rfl) (fun r h => hQ r ⟨h.1, E0.tr h.2⟩)
theorem HF {a b : Option Addr} {c c' : Nat} {S S' : Nat → Prop} {xs ys : List Tag} {w : World} (hx : xs.length = 4) (hy : ys.length = 4) (ha : D AJ S w [.slice a xs.length c] xs) (hb : D AJ S' w [.slice b ys.length c'] ys) :
  Ae (EV P 67 #[.agg #[.slice a xs.length c], .agg #[.slice b ys.length c']] w) fun r => ∃ a2 c2, r.1 = .agg #[.slice a2 (AF xs ys).length c2] ∧ O AJ (In w.heap.size r.2.heap.size) r.2 [.slice a2 (AF xs ys).length c2] (AF xs ys) ∧ Ext w r.2 := by
 refine Ae.mono (MF hx hy ha.A0 hb.A0) ?_
 rintro r ⟨s', h1, h2, h3⟩
 obtain ⟨a2, c2, hs, h4⟩ := (Ow h2).Gn
 simp only [List.cons.injEq, and_true] at hs
 subst hs
 exact ⟨a2, c2, h1, h4, h3⟩
theorem Jv {a b : Option Addr} {c c' : Nat} {S S' : Nat → Prop} {xs ys : List Tag} {w : World} (hl : xs.length = ys.length) (ha : D AJ S w [.slice a xs.length c] xs) (hb : D AJ S' w [.slice b ys.length c'] ys) :
  Ae (EV P 90 #[.agg #[.slice a xs.length c], .agg #[.slice b ys.length c']] w) fun r => ∃ a2 c2, r.1 = .agg #[.slice a2 (AF xs ys).length c2] ∧ O AJ (In w.heap.size r.2.heap.size) r.2 [.slice a2 (AF xs ys).length c2] (AF xs ys) ∧ Ext w r.2 := by
 refine Ae.mono (Jz hl ha.A0 hb.A0) ?_
 rintro r ⟨s', h1, h2, h3⟩
 obtain ⟨a2, c2, hs, h4⟩ := (Ow h2).Gn
 simp only [List.cons.injEq, and_true] at hs
 subst hs
 exact ⟨a2, c2, h1, h4, h3⟩
theorem FK {a : Option Addr} {c : Nat} {S : Nat → Prop} {xs : List Tag} {t : Tag} {k : Nat} {w : World} (hk : k < xs.length) (ha : D AJ S w [.slice a xs.length c] xs) :
  Ae (EV P 66 #[.agg #[.slice a xs.length c], i64 k, .agg #[i64 t.t, i64 t.p]] w) fun r => ∃ a2 c2, r.1 = .agg #[.slice a2 (Bb xs k t).length c2] ∧ O AJ (In w.heap.size r.2.heap.size) r.2 [.slice a2 (Bb xs k t).length c2] (Bb xs k t) ∧ Ext w r.2 := by
 have hn := ha.n
 rw [DN]
 refine Ae.post fun Q hQ => ?_
 refine Ae.enter plain mixed (K7 _ _ _ _) (by kernel_rfl) (n := 3) (by kernel_rfl) rfl ?_
 simp (disch := first | exact xD | fail) [-Option.bind_some, qs, -Aa, -Ab]
 refine Ae.bind (O.IZ (L := Ey) (mx := 8796093021952) BH CD F9 rfl (by decide) (O.empty (g := w.heap.size + 1 + 1 + 1) (by first | assumption | rfl | (simp (disch := first | exact xD | fail) [-Option.bind_some, qs]; done))) (ha.ext xE) (by simp; omega) (by decide) (by decide)) ?_
 rintro ⟨_, w1⟩ ⟨a1, c1, rfl, o1, M1⟩
 have zM1 := M1.size
 try simp only [qz] at zM1
 try dsimp only at o1 M1
 have zM1 := M1.size
 simp only [World.size_alloc, List.nil_append, List.length_nil, Nat.zero_add] at o1 zM1
 have X1 := M1.Ai w.heap.size (by simp only [World.size_alloc]; omega) (by omega)
 have X2 := M1.Ai (w.heap.size + 1) (by simp only [World.size_alloc]; omega) (by omega)
 have X3 := M1.Ai (w.heap.size + 1 + 1) (by simp only [World.size_alloc]; omega) (by omega)
 have F1 : Ext w w1 := Mod.after (a := w) xE M1 (by intro x hx h; omega)
 obtain ⟨x, hx, _⟩ := Ak hk
 have hgd : xs.getD k ⟨0, 0⟩ = x := by rw [List.getD_eq_getElem?_getD, hx]; rfl
 obtain ⟨g, cur, cs, S1, rfl, hSg, hgl, hg, hle, hx1, hS1, put⟩ := o1.row (by decide) hx
 obtain rfl := O.tag.1 hx1
 simp only [DK] at hg hle put
 have hg3 : w.heap.size + 1 + 1 + 1 ≤ g := by rcases hSg with h | h <;> omega
 have hk0 : (k : Int) < xs.length := by omega
 simp (disch := first | exact xD | fail) [-Option.bind_some, qs, -Aa, -Ab, qm, Em, hg, M1.Ai]
 refine Ae.bind (IE x t _) ?_
 rintro ⟨_, w2⟩ ⟨rfl, E2⟩
 try dsimp only at E2
 have zE2 := E2.size
 try simp only [qz] at zE2
 simp (disch := first | exact xD | fail) [-Option.bind_some, qs, -Aa, -Ab, qm, hg, M1.Ai, E2.Ai]
 have hset : Bb xs k t = xs.set k (Bl x t) := by unfold Bb; rw [hgd]
 have E12 : Ext w w2 := xE
 have zE12 := E12.size
 try simp only [qz] at zE12
 refine hQ _ ⟨_, _, rfl, ?_, Ext.set (Ext.set E12 (by omega) _) (by omega) _⟩
 rw [hset]
 refine O.wide (put _ _ (Bl x t) (fun _ => False) (O.tag.2 rfl) (by first | assumption | rfl | (simp (disch := first | exact xD | fail) [-Option.bind_some, qs, -Aa, -Ab, hg, E2.Ai]; done)) (by intro b _ _ _ _; first | rfl | (simp (disch := first | exact xF | fail) only [E2.Ai, qk]; done)) (fun _ _ h => h.elim)) ?_
 intro b h hb
 (try dsimp only at hb)
 simp only [size_setRow, In] at *
 rcases h with (h | h) | h
 ·omega
 ·omega
 ·exact h.elim
theorem DF {a : Option Addr} {c : Nat} {S : Nat → Prop} {xs : List Tag} {t : Tag} {k : Nat} {w : World} (hk : k < xs.length) (ha : D AJ S w [.slice a xs.length c] xs) :
  Ae (EV P 91 #[.agg #[.slice a xs.length c], i64 k, .agg #[i64 t.t, i64 t.p]] w) fun r => ∃ a2 c2, r.1 = .agg #[.slice a2 (Bb xs k t).length c2] ∧ O AJ (In w.heap.size r.2.heap.size) r.2 [.slice a2 (Bb xs k t).length c2] (Bb xs k t) ∧ Ext w r.2 := by
 have hn := ha.n
 rw [DN]
 refine Ae.post fun Q hQ => ?_
 refine Ae.enter plain mixed (IJ _ _ _ _) (by kernel_rfl) (n := 3) (by kernel_rfl) rfl ?_
 simp (disch := first | exact xD | fail) [-Option.bind_some, qs, -Aa, -Ab]
 refine Ae.bind (EL (ha.ext xE)) ?_
 rintro ⟨_, w1⟩ ⟨a1, c1, rfl, o1, E1⟩
 try dsimp only at a1 c1 o1 E1
 have zE1 := E1.size
 try simp only [qz] at zE1
 have F1 : Ext w w1 := xE
 obtain ⟨x, hx, _⟩ := Ak hk
 have hgd : xs.getD k ⟨0, 0⟩ = x := by rw [List.getD_eq_getElem?_getD, hx]; rfl
 obtain ⟨g, cur, cs, S1, rfl, hSg, hgl, hg, hle, hx1, hS1, put⟩ := o1.row (by decide) hx
 obtain rfl := O.tag.1 hx1
 simp only [DK] at hg hle put
 simp only [In, World.size_alloc] at hSg
 have hk0 : (k : Int) < xs.length := by omega
 simp (disch := first | exact xD | fail) [-Option.bind_some, qs, -Aa, -Ab, qm, Em, hg, E1.Ai]
 refine Ae.bind (HI x t _) ?_
 rintro ⟨_, w2⟩ ⟨rfl, E2⟩
 try dsimp only at E2
 have zE2 := E2.size
 try simp only [qz] at zE2
 simp (disch := first | exact xD | fail) [-Option.bind_some, qs, -Aa, -Ab, qm, hg, E1.Ai, E2.Ai]
 have hset : Bb xs k t = xs.set k (Bl x t) := by unfold Bb; rw [hgd]
 have E12 : Ext w w2 := xE
 have zE12 := E12.size
 try simp only [qz] at zE12
 refine hQ _ ⟨_, _, rfl, ?_, Ext.set (Ext.set E12 (by omega) _) (by omega) _⟩
 rw [hset]
 refine O.wide (put _ _ (Bl x t) (fun _ => False) (O.tag.2 rfl) (by first | assumption | rfl | (simp (disch := first | exact xD | fail) [-Option.bind_some, qs, -Aa, -Ab, hg, E2.Ai]; done)) ?_ (fun _ _ h => h.elim)) ?_
 ·intro b h1 h2 h3 h4
  simp only [World.size_alloc, In] at h2
  simp (disch := (first | assumption | omega | (simp only [World.size_alloc, size_setRow, Ad] <;> omega))) only [E2.Ai, Ag, Ac, BB]
 intro b h hb
 (try dsimp only at hb)
 simp only [size_setRow, World.size_alloc, In] at *
 rcases h with h | h
 ·omega
 ·exact h.elim
abbrev Rk : TagM P 67 36 119 (.agg #[i64 0, i64 0, .slice none 0 0]) := ⟨Tryz.underlying67, ⟨_, _, Tryz.underlying36, by kernel_rfl, by kernel_rfl, ⟨by simp, by simp, rfl, rfl⟩⟩, by kernel_rfl, by kernel_rfl⟩
def Bk (w : World) (S : Nat → Prop) (g m : Nat) (cur : List Value) (b : Book) : Prop :=
 Vw AJ w S 69 g cur b.vs ∧ cur.length = 5 ∧ cur[4]? = some (.map (some m)) ∧ Mp AJ w S m b.wr ∧ g ≠ m ∧ g < w.heap.size ∧ m < w.heap.size ∧ ¬ S g ∧ ¬ S m ∧ ∀ x, S x → x < w.heap.size
theorem Bk.Aj {w w' : World} {S : Nat → Prop} {g m : Nat} {cur : List Value} {b : Book} (h : Bk w S g m cur b) (k : Ext w w') : Bk w' S g m cur b := by
 obtain ⟨h1, h2, h3, h4, h5, h6, h7, h8, h9, h10⟩ := h
 have hs := k.size
 exact ⟨h1.Aj (k.Ai h6) (fun x hx hl => k.Ai hl) (fun x hx _ => hx), h2, h3, h4.Aj (k.Ai h7) (fun x hx hl => k.Ai hl) (fun x hx _ => hx), h5, by omega, by omega, h8, h9, fun x hx => by have := h10 x hx; omega⟩
theorem KT {g : Nat} {w0 : World} (hg0 : w0.heap.size ≤ g) : ∀ (d k : Nat) (e : Env) (w : World) (S : Nat → Prop) (m : Nat) (cur : List Value) (vs : List (List Tag)), k + d = 4 → vs.length = k → (∀ v ∈ vs, v = List.replicate 4 ⟨0, 0⟩) → e 1 = pt g 0 → e 6 = i64 k → w0.heap.size ≤ m → (∀ x, S x → w0.heap.size ≤ x) → Ext w0 w → Bk w S g m cur ⟨vs, []⟩ →
  Ae (CF e w) fun r => r.1 = pt g 0 ∧ Ext w0 r.2 ∧ ∃ S m cur, w0.heap.size ≤ m ∧ (∀ x, S x → w0.heap.size ≤ x) ∧ Bk r.2 S g m cur AU := by
 intro d
 induction d with
 | zero =>
  intro k e w S m cur vs hd hv hz e1 e6 hm hS E0 hb
  have zE0 := E0.size
  try simp only [qz] at zE0
  rw [EE]
  obtain rfl : k = 4 := by omega
  have hvs : vs = List.replicate 4 (List.replicate 4 ⟨0, 0⟩) := List.eq_replicate_iff.2 ⟨hv, hz⟩
  subst hvs
  refine Ae.post fun Q hQ => ?_
  simp (disch := first | exact xD | fail) [-Option.bind_some, -Aa, -Ab, e1, e6]
  exact hQ _ ⟨rfl, E0, S, m, cur, hm, hS, hb⟩
 | succ d ih =>
  intro k e w S m cur vs hd hv hz e1 e6 hm hS E0 hb
  have zE0 := E0.size
  try simp only [qz] at zE0
  rw [EE]
  have hlt : k < 4 := by omega
  have hk0 : (k : Int) < 4 := by omega
  obtain ⟨⟨X1, hc4, hvs⟩, hc5, hc, hmp, hgm, hgl, hml, hSg, hSm, hSl⟩ := hb
  refine Ae.post fun Q hQ => ?_
  simp (disch := first | exact xD | fail) [-Option.bind_some, qs, -Aa, -Ab, e1, e6, hk0]
  refine Ae.bind (Kj) ?_
  rintro ⟨_, w1⟩ ⟨a1, c1, rfl, o1, E1⟩
  try dsimp only at a1 c1 o1 E1
  have zE1 := E1.size
  try simp only [qz] at zE1
  have zE1' := E1.size
  have hl1 : (List.replicate 4 (⟨0, 0⟩ : Tag)).length = 4 := rfl
  have hXg : hp w1 g = some (.cells cur.toArray 69 (0, 0)) := (E1.Ai hgl).trans X1
  have F1 : Ext w w1 := (BJ w).tr E1
  have hfl : AH cur k [.slice a1 4 c1] = cur.set k (.slice a1 4 c1) := by
   unfold AH
   rw [List.set_eq_take_append_cons_drop, if_pos (by omega)]
   rfl
  simp (disch := first | exact xD | fail) [-Option.bind_some, -Aa, -Ab, Gy (P := P) Tryz.underlying66 (by kernel_rfl : OC P 32 = some 1), hXg, Jd]
  have y1 : m < w1.heap.size := by have := F1.size; omega
  have y2 : g < w1.heap.size := by have := F1.size; omega
  have oD := o1.d
  have V1 : Vw AJ w1 (fun x => S x ∨ In (dw w).heap.size w1.heap.size x) 69 g cur vs :=
   Vw.Aj (w := w) (S := S) ⟨X1, by omega, hvs⟩ (F1.Ai hgl) (fun b _ hb => F1.Ai hb) (fun b hb _ => .inl hb)
  have hg1 : ¬ (S g ∨ In (dw w).heap.size w1.heap.size g) := by
   rintro (h | h)
   ·exact hSg h
   ·simp only [In, Ad] at h; omega
  have hm1 : ¬ (S m ∨ In (dw w).heap.size w1.heap.size m) := by
   rintro (h | h)
   ·exact hSm h
   ·simp only [In, Ad] at h; omega
  have happ : Vw AJ (w1.setRow g (AH cur k [.slice a1 4 c1]).toArray) (fun x => S x ∨ In (dw w).heap.size w1.heap.size x) 69 g (AH cur k [.slice a1 4 c1]) (vs ++ [List.replicate 4 ⟨0, 0⟩]) := by
   obtain ⟨k1, k2, k3⟩ := V1
   have kk : ∀ b, (S b ∨ In (dw w).heap.size w1.heap.size b) → b < w1.heap.size → hp (w1.setRow g (AH cur k [.slice a1 4 c1]).toArray) b = hp w1 b := fun b hb _ => Ac (fun e => hg1 (e ▸ hb))
   refine ⟨by rw [B8, k1]; rfl, by rw [hfl]; simp; omega, fun j v hj' => ?_⟩
   by_cases hj : j = k
   ·rw [hj, ← hv, List.getElem?_append_right (by omega), Nat.sub_self] at hj'
    obtain rfl := Option.some.inj hj'
    refine ⟨a1, c1, by rw [hfl, hj, List.getElem?_set_self (by omega)]; rfl, (oD.wide (fun b hb _ => .inr hb)).Aj kk⟩
   ·have hj2 : j < vs.length := by
     have := (List.getElem?_eq_some_iff.1 hj').1
     simp only [List.length_append, List.length_cons, List.length_nil] at this
     omega
    rw [List.getElem?_append_left hj2] at hj'
    obtain ⟨a', c', h4, h5⟩ := k3 j v hj'
    exact ⟨a', c', by rw [hfl, List.getElem?_set_ne (Ne.symm hj)]; exact h4, h5.Aj kk⟩
  refine Ae.mono (ih (k + 1) _ _ (fun x => S x ∨ In (dw w).heap.size w1.heap.size x) m (AH cur k [.slice a1 4 c1]) (vs ++ [List.replicate 4 ⟨0, 0⟩]) (by omega) (by simp; omega) ?_ xA xA hm ?_ (Ext.set (E0.tr F1) hg0 _) ⟨happ, ?_, ?_, ?_, hgm, by simpa using y2, by simpa using y1, hg1, hm1, ?_⟩) hQ
  ·intro v hvm
   rcases List.mem_append.1 hvm with h | h
   ·exact hz v h
   ·simpa using h
  ·rintro x (h | h)
   ·exact hS x h
   ·have := E0.size
    simp only [In, Ad] at h
    omega
  ·rw [hfl, List.length_set]; exact hc5
  ·rw [hfl, List.getElem?_set_ne (by omega)]; exact hc
  ·refine hmp.Aj ((Ac (Ne.symm hgm)).trans (F1.Ai hml)) (fun b hb hl => (Ac (by intro e; subst e; exact hSg hb)).trans (F1.Ai hl)) (fun b hb _ => .inl hb)
  ·rintro x (h | h)
   ·have := hSl x h
    have := F1.size
    simp only [size_setRow]
    omega
   ·simp only [In, Ad, size_setRow] at *
    omega
theorem KU {w : World} : Ae (EV P 58 #[] w) fun r => ∃ g S m cur, r.1 = pt g 0 ∧ Ext w r.2 ∧ w.heap.size ≤ g ∧ w.heap.size ≤ m ∧ (∀ x, S x → w.heap.size ≤ x) ∧ Bk r.2 S g m cur AU := by
 refine Ae.post fun Q hQ => ?_
 refine Ae.enter plain mixed (J1 _) (by kernel_rfl) (n := 0) (by kernel_rfl) rfl ?_
 simp (disch := first | exact xD | fail) [-Option.bind_some, -Aa, -Ab, UJ]
 refine Ae.mono (KT (w0 := w) (g := w.heap.size + 1) (by omega) 4 0 _ _ (fun _ => False) w.heap.size [.slice none 0 0, .slice none 0 0, .slice none 0 0, .slice none 0 0, .map (some w.heap.size)] [] (by omega) rfl (by simp) xA xA (Nat.le_refl _) (fun _ h => h.elim) xE ⟨⟨(by first | assumption | rfl | (simp (disch := first | exact xD | fail) [-Option.bind_some, qs, -Aa, -Ab]; done)), by simp, by simp⟩, rfl, rfl, ⟨[], (by first | assumption | rfl | (simp (disch := first | exact xD | fail) [-Option.bind_some, qs, -Aa, -Ab]; done)), trivial⟩, by omega, by simp, by simp; omega, id, id, fun _ h => h.elim⟩) ?_
 rintro r ⟨h1, h2, S, m, cur, h3, h4, h5⟩
 exact hQ _ ⟨_, S, m, cur, h1, h2, by omega, h3, h4, h5⟩
theorem Bk.Qa {w w3 : World} {S : Nat → Prop} {g m i lo : Nat} {cur : List Value} {b : Book} (h : Bk w S g m cur b) (F : Ext w w3) (hi : i < b.vs.length) (hi4 : i < 4) (hlo : w.heap.size ≤ lo) {a : Option Addr} {c : Nat} {x : List Tag}
  (hx : D AJ (In lo w3.heap.size) w3 [.slice a x.length c] x) : Bk (w3.setRow g (AH cur i [.slice a x.length c]).toArray) (fun y => S y ∨ In lo w3.heap.size y) g m (AH cur i [.slice a x.length c]) ⟨b.vs.set i x, b.wr⟩ := by
 obtain ⟨k1, k2, k3, k4, k5, k6, k7, k8, k9, k10⟩ := h
 have hs := F.size
 have hfl : AH cur i [.slice a x.length c] = cur.set i (.slice a x.length c) := by
  have := k1.2.1
  unfold AH
  rw [List.set_eq_take_append_cons_drop, if_pos (by omega)]
  rfl
 have hg1 : ¬ (S g ∨ In lo w3.heap.size g) := by
  rintro (h | h)
  ·exact k8 h
  ·simp only [In] at h; omega
 have V := Vw.Aj (S' := fun y => S y ∨ In lo w3.heap.size y) k1 (F.Ai k6) (fun b _ hb => F.Ai hb) (fun b hb _ => .inl hb)
 refine ⟨V.put hg1 hi (hx.wide fun b hb _ => .inr hb) rfl, by rw [hfl, List.length_set]; exact k2, ?_, ?_, k5, by simp; omega, by simp; omega, hg1, ?_, ?_⟩
 ·rw [hfl, List.getElem?_set_ne (by omega)]
  exact k3
 ·exact k4.Aj ((Ac (Ne.symm k5)).trans (F.Ai k7)) (fun b hb hl => (Ac (by intro e; subst e; exact k8 hb)).trans (F.Ai hl)) (fun b hb _ => .inl hb)
 ·rintro (h | h)
  ·exact k9 h
  ·simp only [In] at h; omega
 ·rintro y (h | h)
  ·have := k10 y h
   simp; omega
  ·simp only [In] at h
   simp; omega
theorem Bk.wrote {w w3 : World} {S : Nat → Prop} {g m : Nat} {cur : List Value} {b : Book} {l : List (Tag × Value)} (h : Bk w S g m cur b) (F : Ext w w3) (hl : hp w m = some (EY l)) {t : Tag} {s k : Int} {a : Option Addr} {c : Nat} {x : List Tag}
  (hx : D AJ S w [.slice a x.length c] x) : Bk (Ij w3 m (EY (l ++ [(t, .agg #[i64 s, i64 k, .slice a x.length c])]))) S g m cur ⟨b.vs, b.wr ++ [(t, s, k, x)]⟩ := by
 obtain ⟨k1, k2, k3, ⟨l', k4, k4'⟩, k5, k6, k7, k8, k9, k10⟩ := h
 have hs := F.size
 obtain rfl : l = l' := Mi (Option.some.inj (hl.symm.trans k4))
 have hne : ∀ b, S b → b ≠ m := fun b hb e => k9 (e ▸ hb)
 have kk : ∀ b, S b → b < w.heap.size → hp (Ij w3 m (EY (l ++ [(t, .agg #[i64 s, i64 k, .slice a x.length c])]))) b = hp w b := fun b hb hb' => (Ik (hne b hb)).trans (F.Ai hb')
 refine ⟨k1.Aj ((Ik k5).trans (F.Ai k6)) kk (fun b hb _ => hb), k2, k3, ⟨_, P0 (by omega), ?_⟩, k5, by rw [Hn]; omega, by rw [Hn]; omega, k8, k9, fun y hy => by have := k10 y hy; rw [Hn]; omega⟩
 refine BU.app (k4'.imp fun p q h => ?_) ⟨rfl, a, c, rfl, hx.Aj kk⟩
 obtain ⟨h3, a', c', h4, h5⟩ := h
 exact ⟨h3, a', c', h4, h5.Aj kk⟩
set_option maxHeartbeats 6000000 in
theorem Ka {w : World} {S : Nat → Prop} {g m : Nat} {cur : List Value} {b : Book} {d : Done} (hb : Bk w S g m cur b) (hok : b.Ok) (hd : Cw d = true) :
  Ae (EV P 59 #[pt g 0, .agg (Bp d).toArray] w) fun r => r.1 = .bool (AZ b d).isSome ∧ (AZ b d = none → Ext w r.2) ∧ Ev.Mod (fun x => x = g ∨ x = m) w r.2 ∧ ∀ b', AZ b d = some b' → ∃ S' cur', Bk r.2 S' g m cur' b' ∧ ∀ x, S' x → S x ∨ w.heap.size ≤ x := by
 have hb' := hb
 obtain ⟨⟨X1, hc4, hvs⟩, hc5, hc, ⟨l, Xm, hrel⟩, hgm, hgl, hml, hSg, hSm, hSl⟩ := hb
 obtain ⟨⟨hs0, hs3⟩, ⟨hk1, hk3⟩, ⟨hy0, hy3⟩, htag, hkt⟩ := BS.1 hd
 have hvl := Gj hok hd
 obtain ⟨a, c, hcell, hD⟩ := hvs _ _ (Je hok hd)
 have q0 : nth cur d.Ar.toNat = some (.slice a (view b d).length c) := by rw [← BQ]; exact hcell
 have q4 : nth cur 4 = some (.map (some m)) := by rw [← BQ]; exact hc
 have hD' := hD
 rw [hvl] at q0 hD
 have hs4 : d.Ar < 4 := by omega
 have hy4 : d.key < 4 := by omega
 have hz : ((d.tag.t == 0) && (d.tag.p == 0)) = !decide (0 < d.tag.t) := by
  rw [Bool.eq_iff_iff]
  simp only [DC, Bool.or_eq_true, Bool.and_eq_true, beq_iff_eq, decide_eq_true_eq] at htag
  simp only [Bool.and_eq_true, beq_iff_eq, Bool.not_eq_true', decide_eq_false_iff_not]
  omega
 refine Ae.post fun Q hQ => ?_
 refine Ae.enter plain mixed (Ji _ _ _) (by kernel_rfl) (n := 2) (by kernel_rfl) rfl ?_
 cases hkind : (d.kind == 1)
 ·have hlt : d.key.toNat < (view b d).length := by omega
  obtain ⟨x, hx, _⟩ := Ak hlt
  have hgd : (view b d).getD d.key.toNat ⟨0, 0⟩ = x := by rw [List.getD_eq_getElem?_getD, hx]; rfl
  obtain ⟨b1, o1, cs1, rfl, A1, D1, hSb1, l1⟩ := hD.at (by decide) hx
  obtain rfl := D.tag.1 D1
  have p0 := A1 0 _ rfl
  have p1 := A1 1 _ rfl
  simp only [DK, Nat.add_zero] at p0 p1
  have hk2 : ¬ d.kind = 1 := by simpa using hkind
  have hst : AZ b d = if AG d.tag x then none else if decide (0 < d.tag.t) then (match BE b.wr d.tag with
   | none => none
   | some (s, k, past) => if k != d.key || ((d.kind == 3) && (s != d.Ar)) then none else some ⟨b.vs.set d.Ar.toNat (Bb (AF (view b d) past) d.key.toNat d.tag), b.wr⟩) else some b := by
   unfold AZ
   rw [hkind, hgd]
   rfl
  rw [hst] at hQ
  rcases JU hrel d.tag with ⟨m1, m2⟩ | ⟨s, k, past, a2, c2, m1, m2, D2⟩
  ·simp (disch := first | exact xD | fail) [-Option.bind_some, qs, -Aa, -Ab, qm, hkind, Gy (P := P) Tryz.underlying66 (by kernel_rfl : OC P 32 = some 1), X1, Xm, q0, q4, Ox Rk, KA, m1, Em, p0, p1]
   refine Ae.bind (EN d.tag x _) ?_
   rintro ⟨_, w1⟩ ⟨rfl, E1⟩
   try dsimp only at E1
   have zE1 := E1.size
   try simp only [qz] at zE1
   have F1 : Ext w w1 := xE
   simp only [m2] at hQ
   cases hless : AG d.tag x
   ·cases hpos : decide (0 < d.tag.t)
    ·rw [hpos] at hz
     simp (disch := first | exact xD | fail) [-Option.bind_some, qs, -Aa, -Ab, hz, E1.Ai]
     refine hQ _ ⟨by simp [hless, hpos], fun hn2 => by first | (simp [hless, hpos] at hn2; done) | exact xE, xM, fun b' hb2 => ?_⟩
     simp [hless, hpos] at hb2
     subst hb2
     exact ⟨S, cur, hb'.Aj xE, fun x hx => .inl hx⟩
    ·rw [hpos] at hz
     simp (disch := first | exact xD | fail) [-Option.bind_some, qs, -Aa, -Ab, hz, E1.Ai]
     refine hQ _ ⟨by simp [hless, hpos], fun hn2 => by first | (simp [hless, hpos] at hn2; done) | exact xE, xM, fun b' hb2 => ?_⟩
     simp [hless, hpos] at hb2
   ·simp (disch := first | exact xD | fail) [-Option.bind_some, -Aa, -Ab]
    refine hQ _ ⟨by simp [hless], fun hn2 => by first | (simp [hless] at hn2; done) | exact xE, xM, fun b' hb2 => ?_⟩
    simp [hless] at hb2
  ·have hpl : past.length = 4 := hok.2.2 _ (EB m2)
   simp (disch := first | exact xD | fail) [-Option.bind_some, qs, -Aa, -Ab, qm, hkind, Gy (P := P) Tryz.underlying66 (by kernel_rfl : OC P 32 = some 1), X1, Xm, q0, q4, Ox Rk, KA, m1, Em, p0, p1]
   refine Ae.bind (EN d.tag x _) ?_
   rintro ⟨_, w1⟩ ⟨rfl, E1⟩
   try dsimp only at E1
   have zE1 := E1.size
   try simp only [qz] at zE1
   have F1 : Ext w w1 := xE
   simp only [m2] at hQ
   cases hless : AG d.tag x
   ·cases hpos : decide (0 < d.tag.t)
    ·rw [hpos] at hz
     simp (disch := first | exact xD | fail) [-Option.bind_some, qs, -Aa, -Ab, hz, E1.Ai]
     refine hQ _ ⟨by simp [hless, hpos], fun hn2 => by first | (simp [hless, hpos] at hn2; done) | exact xE, xM, fun b' hb2 => ?_⟩
     simp [hless, hpos] at hb2
     subst hb2
     exact ⟨S, cur, hb'.Aj xE, fun x hx => .inl hx⟩
    ·rw [hpos] at hz
     cases h1 : (k != d.key)
     ·cases hcan : ((d.kind == 3) && (s != d.Ar))
      ·have J := fun w' (h : Ext w w') => Jv (xs := view b d) (ys := past) (by omega) (hD'.ext h) (D2.ext h)
       simp only [hvl] at J
       have hcan' := hcan
       simp only [Bool.and_eq_false_iff] at hcan'
       have hkn : ((d.key.toNat : Nat) : Int) = d.key := Int.toNat_of_nonneg hy0
       have hsl : d.Ar.toNat < cur.length := by omega
       have hsl4 : d.Ar.toNat < b.vs.length := by have := hok.1; omega
       rcases hcan' with h3 | h4
       ·simp (disch := first | exact xD | fail) [-Option.bind_some, qs, -Aa, -Ab, hz, h1, h3, Gy (P := P) Tryz.underlying66 (by kernel_rfl : OC P 32 = some 1), E1.Ai]
        refine Ae.bind (J _ xE) ?_
        rintro ⟨_, w2⟩ ⟨a1, c1, rfl, o1', E2⟩
        try dsimp only at a1 c1 o1' E2
        have zE2 := E2.size
        try simp only [qz] at zE2
        have o1d := o1'.d
        have Wt := DF (k := d.key.toNat) (t := d.tag) (w := w2) (by rw [DM _ _ (by omega)]; omega) o1d
        rw [hkn] at Wt
        simp (disch := first | exact xD | fail) [-Option.bind_some, qs, -Aa, -Ab, E1.Ai, E2.Ai]
        refine Ae.bind (Wt) ?_
        rintro ⟨_, w3⟩ ⟨a3, c3, rfl, o3, E3⟩
        try dsimp only at a3 c3 o3 E3
        have zE3 := E3.size
        try simp only [qz] at zE3
        have F3 : Ext w w3 := xE
        simp (disch := first | exact xD | fail) [-Option.bind_some, qs, -Aa, -Ab, X1, Jd, E1.Ai, E2.Ai, E3.Ai]
        have o3d := o3.d
        refine hQ _ ⟨by simp [hless, hpos, h1, hcan], fun hn2 => by first | (simp [hless, hpos, h1, hcan] at hn2; done) | exact xE, Mod.AL (Mod.of F3 _) (.inr (.inl rfl)) _, fun b' hb2 => ?_⟩
        simp [hless, hpos, h1, hcan] at hb2
        subst hb2
        exact ⟨fun x => S x ∨ In w2.heap.size w3.heap.size x, _, Bk.Qa hb' F3 hsl4 (by omega) (by have := F3.size; have := E2.size; simp only [Ad] at *; omega) o3d, fun x hx => hx.imp id fun h => by simp only [In] at h; omega⟩
       ·cases h3 : (d.kind == 3)
        ·simp (disch := first | exact xD | fail) [-Option.bind_some, qs, -Aa, -Ab, hz, h1, h3, Gy (P := P) Tryz.underlying66 (by kernel_rfl : OC P 32 = some 1), E1.Ai]
         refine Ae.bind (J _ xE) ?_
         rintro ⟨_, w2⟩ ⟨a1, c1, rfl, o1', E2⟩
         try dsimp only at a1 c1 o1' E2
         have zE2 := E2.size
         try simp only [qz] at zE2
         have o1d := o1'.d
         have Wt := DF (k := d.key.toNat) (t := d.tag) (w := w2) (by rw [DM _ _ (by omega)]; omega) o1d
         rw [hkn] at Wt
         simp (disch := first | exact xD | fail) [-Option.bind_some, qs, -Aa, -Ab, E1.Ai, E2.Ai]
         refine Ae.bind (Wt) ?_
         rintro ⟨_, w3⟩ ⟨a3, c3, rfl, o3, E3⟩
         try dsimp only at a3 c3 o3 E3
         have zE3 := E3.size
         try simp only [qz] at zE3
         have F3 : Ext w w3 := xE
         simp (disch := first | exact xD | fail) [-Option.bind_some, qs, -Aa, -Ab, X1, Jd, E1.Ai, E2.Ai, E3.Ai]
         have o3d := o3.d
         refine hQ _ ⟨by simp [hless, hpos, h1, hcan], fun hn2 => by first | (simp [hless, hpos, h1, hcan] at hn2; done) | exact xE, Mod.AL (Mod.of F3 _) (.inr (.inl rfl)) _, fun b' hb2 => ?_⟩
         simp [hless, hpos, h1, hcan] at hb2
         subst hb2
         exact ⟨fun x => S x ∨ In w2.heap.size w3.heap.size x, _, Bk.Qa hb' F3 hsl4 (by omega) (by have := F3.size; have := E2.size; simp only [Ad] at *; omega) o3d, fun x hx => hx.imp id fun h => by simp only [In] at h; omega⟩
        ·simp (disch := first | exact xD | fail) [-Option.bind_some, qs, -Aa, -Ab, hz, h1, h3, h4, Gy (P := P) Tryz.underlying66 (by kernel_rfl : OC P 32 = some 1), E1.Ai]
         refine Ae.bind (J _ xE) ?_
         rintro ⟨_, w2⟩ ⟨a1, c1, rfl, o1', E2⟩
         try dsimp only at a1 c1 o1' E2
         have zE2 := E2.size
         try simp only [qz] at zE2
         have o1d := o1'.d
         have Wt := DF (k := d.key.toNat) (t := d.tag) (w := w2) (by rw [DM _ _ (by omega)]; omega) o1d
         rw [hkn] at Wt
         simp (disch := first | exact xD | fail) [-Option.bind_some, qs, -Aa, -Ab, E1.Ai, E2.Ai]
         refine Ae.bind (Wt) ?_
         rintro ⟨_, w3⟩ ⟨a3, c3, rfl, o3, E3⟩
         try dsimp only at a3 c3 o3 E3
         have zE3 := E3.size
         try simp only [qz] at zE3
         have F3 : Ext w w3 := xE
         simp (disch := first | exact xD | fail) [-Option.bind_some, qs, -Aa, -Ab, X1, Jd, E1.Ai, E2.Ai, E3.Ai]
         have o3d := o3.d
         refine hQ _ ⟨by simp [hless, hpos, h1, hcan], fun hn2 => by first | (simp [hless, hpos, h1, hcan] at hn2; done) | exact xE, Mod.AL (Mod.of F3 _) (.inr (.inl rfl)) _, fun b' hb2 => ?_⟩
         simp [hless, hpos, h1, hcan] at hb2
         subst hb2
         exact ⟨fun x => S x ∨ In w2.heap.size w3.heap.size x, _, Bk.Qa hb' F3 hsl4 (by omega) (by have := F3.size; have := E2.size; simp only [Ad] at *; omega) o3d, fun x hx => hx.imp id fun h => by simp only [In] at h; omega⟩
      ·have hcan' := hcan
       simp only [Bool.and_eq_true] at hcan'
       obtain ⟨h3, h4⟩ := hcan'
       simp (disch := first | exact xD | fail) [-Option.bind_some, qs, -Aa, -Ab, hz, h1, h3, h4, E1.Ai]
       refine hQ _ ⟨by simp [hless, hpos, h1, hcan], fun hn2 => by first | (simp [hless, hpos, h1, hcan] at hn2; done) | exact xE, xM, fun b' hb2 => ?_⟩
       simp [hless, hpos, h1, hcan] at hb2
     ·simp (disch := first | exact xD | fail) [-Option.bind_some, qs, -Aa, -Ab, hz, h1, E1.Ai]
      refine hQ _ ⟨by simp [hless, hpos, h1], fun hn2 => by first | (simp [hless, hpos, h1] at hn2; done) | exact xE, xM, fun b' hb2 => ?_⟩
      simp [hless, hpos, h1] at hb2
   ·simp (disch := first | exact xD | fail) [-Option.bind_some, -Aa, -Ab]
    refine hQ _ ⟨by simp [hless], fun hn2 => by first | (simp [hless] at hn2; done) | exact xE, xM, fun b' hb2 => ?_⟩
    simp [hless] at hb2
 ·have hst : AZ b d = if (BE b.wr d.tag).isSome || decide (d.tag.t ≤ EP 0 (view b d)) then none else some ⟨b.vs, b.wr ++ [(d.tag, d.Ar, d.key, view b d)]⟩ := by
   unfold AZ
   rw [hkind]
   rfl
  rw [hst] at hQ
  rcases JU hrel d.tag with ⟨m1, m2⟩ | ⟨s, k, past, a2, c2, m1, m2, D2⟩
  ·simp only [m2] at hQ
   simp (disch := first | exact xD | fail) [-Option.bind_some, qs, -Aa, -Ab, qm, hkind, Gy (P := P) Tryz.underlying66 (by kernel_rfl : OC P 32 = some 1), X1, Xm, q0, q4, Ox Rk, KA, m1]
   refine Ae.bind (HX ((hD.ext xE).A0)) ?_
   rintro ⟨_, w1⟩ ⟨rfl, E1⟩
   try dsimp only at E1
   have zE1 := E1.size
   try simp only [qz] at zE1
   have F1 : Ext w w1 := xE
   cases hlat : decide (d.tag.t ≤ EP 0 (view b d))
   ·simp (disch := first | exact xD | fail) [-Option.bind_some, qs, -Aa, -Ab, X1, Xm, q4, UL Rk, Tx, hlat, E1.Ai]
    refine hQ _ ⟨by simp [hlat], fun hn2 => by first | (simp [hlat] at hn2; done) | exact xE, ?_, fun b' hb2 => ?_⟩
    ·exact (Mod.of F1.dw (fun x => x = g ∨ x = m)).AW (Mod.Ij _ m _) (fun x _ h => .inr h)
    ·simp [hlat] at hb2
     subst hb2
     have := Bk.wrote hb' F1.dw Xm (t := d.tag) (s := d.Ar) (k := d.key) hD'
     rw [hvl] at this
     exact ⟨S, cur, this, fun x hx => .inl hx⟩
   ·simp (disch := first | exact xD | fail) [-Option.bind_some, qs, -Aa, -Ab, hlat, E1.Ai]
    refine hQ _ ⟨by simp [hlat], fun hn2 => by first | (simp [hlat] at hn2; done) | exact xE, xM, fun b' hb2 => ?_⟩
    simp [hlat] at hb2
  ·simp only [m2] at hQ
   simp (disch := first | exact xD | fail) [-Option.bind_some, qs, -Aa, -Ab, qm, hkind, Gy (P := P) Tryz.underlying66 (by kernel_rfl : OC P 32 = some 1), X1, Xm, q0, q4, Ox Rk, KA, m1]
   refine hQ _ ⟨by simp, fun hn2 => by first | (simp at hn2; done) | exact xE, xM, fun b' hb2 => ?_⟩
   simp at hb2
theorem Hj {xs : List Done} (h : Dy xs = true) : xs.all Cw = true ∧ xs.length ≤ 80 := by
 simpa only [Dy, Bool.and_eq_true, decide_eq_true_eq] using h
theorem Mw {a : Option Addr} {c g m : Nat} {Sx : Nat → Prop} {xs : List Done} {w0 : World} (ha : D AO Sx w0 [.slice a xs.length c] xs) (hf : xs.all Cw = true) (hg0 : w0.heap.size ≤ g) (hm0 : w0.heap.size ≤ m) :
  ∀ (d k : Nat) (e : Env) (w : World) (S : Nat → Prop) (cur : List Value) (b : Book), k + d = xs.length → e 0 = .slice a xs.length c → e 4 = pt g 0 → e 8 = .slice a xs.length c → e 9 = i64 xs.length → e 10 = i64 k → b.Ok → (∀ x, S x → w0.heap.size ≤ x) → Bk w S g m cur b → Ext w0 w →
  Ae (Dw e w) fun r => r.1 = .tuple #[pt g 0, i64 ((k + (DB b (xs.drop k)).2 : Nat))] ∧ Ext w0 r.2 ∧ (DB b (xs.drop k)).1.Ok ∧ ∃ S cur, (∀ x, S x → w0.heap.size ≤ x) ∧ Bk r.2 S g m cur (DB b (xs.drop k)).1 := by
 intro d
 induction d with
 | zero =>
  intro k e w S cur b hd e0 e4 e8 e9 e10 hok hS hb E0
  have zE0 := E0.size
  try simp only [qz] at zE0
  rw [FE]
  obtain rfl : k = xs.length := by omega
  rw [List.drop_eq_nil_of_le (by omega)]
  refine Ae.post fun Q hQ => ?_
  simp (disch := first | exact xD | fail) [-Option.bind_some, -Aa, -Ab, e0, e4, e9, e10]
  exact hQ _ ⟨rfl, E0, hok, S, cur, hS, hb⟩
 | succ d ih =>
  intro k e w S cur b hd e0 e4 e8 e9 e10 hok hS hb E0
  have zE0 := E0.size
  try simp only [qz] at zE0
  rw [FE]
  have hlt : k < xs.length := by omega
  obtain ⟨x, hx, hdx⟩ := Ak hlt
  have hn := ha.n
  have hxo : Cw x = true := List.all_eq_true.1 hf x (List.mem_of_getElem? hx)
  obtain ⟨b1, o1, cs1, rfl, A1, D1, _, l1⟩ := (ha.ext E0).at (by decide) hx
  obtain rfl := D.done.1 D1
  have p0 := A1 0 _ rfl
  have p1 := A1 1 _ rfl
  have p2 := A1 2 _ rfl
  have p3 := A1 3 _ rfl
  have p4 := A1 4 _ rfl
  simp only [Nat.add_zero] at p0 p1 p2 p3 p4
  simp only [FG] at p0 p1 p2 p3 p4
  rw [hdx]
  refine Ae.post fun Q hQ => ?_
  simp (disch := first | exact xD | fail) [-Option.bind_some, qs, -Aa, -Ab, qm, e4, e8, e9, e10, hlt, CC, p0, p1, p2, p3, p4]
  have hE2 : Ext w ((w.alloc (.cells #[i64 0, i64 0, i64 0, i64 0, i64 0] 38 (0, 0))).setRow w.heap.size (Bp x).toArray) := xE
  refine Ae.bind (Ka (hb.Aj hE2) hok hxo) ?_
  rintro ⟨_, w1⟩ ⟨rfl, hno, M1, hs⟩
  have zM1 := M1.size
  try simp only [qz] at zM1
  dsimp only at M1 hs hno
  have F1 : Ext w0 w1 := Mod.after (E0.tr hE2) M1 (by rintro y hy (h | h) <;> omega)
  cases h : AZ b x with
  | none =>
   rw [Dz h] at hQ
   simp (disch := first | exact xD | fail) [-Option.bind_some, -Aa, -Ab]
   exact hQ _ ⟨rfl, F1, hok, S, cur, hS, (hb.Aj hE2).Aj (hno h)⟩
  | some b' =>
   obtain ⟨S', cur', hb', hS'⟩ := hs b' h
   rw [BT h] at hQ
   simp (disch := first | exact xD | fail) [-Option.bind_some, -Aa, -Ab]
   refine Ae.mono (ih (k + 1) _ _ S' cur' b' (by omega) xA xA xA xA xA (Gk hok hxo h) (fun y hy => ?_) hb' F1) (fun r h => hQ r ⟨?_, h.2⟩)
   ·have := E0.size
    rcases hS' y hy with h | h
    ·exact hS y h
    ·simp only [size_setRow, World.size_alloc] at h; omega
   ·rw [h.1, show k + 1 + (DB b' (xs.drop (k + 1))).2 = k + ((DB b' (xs.drop (k + 1))).2 + 1) by omega]
theorem Mx {a : Option Addr} {n c : Nat} {Sx : Nat → Prop} {xs : List Done} {w : World} (ha : D AO Sx w [.slice a n c] xs) (hf : Dy xs = true) :
  Ae (EV P 29 #[.slice a n c] w) fun r => Ext w r.2 ∧ (DB AU xs).1.Ok ∧ ∃ g S m cur, r.1 = .tuple #[pt g 0, i64 (DB AU xs).2] ∧ w.heap.size ≤ g ∧ w.heap.size ≤ m ∧ (∀ x, S x → w.heap.size ≤ x) ∧ Bk r.2 S g m cur (DB AU xs).1 := by
 obtain ⟨rfl, hm, _⟩ := ha.n
 refine Ae.post fun Q hQ => ?_
 refine Ae.enter plain mixed (L7 _ _) (by kernel_rfl) (n := 1) (by kernel_rfl) rfl ?_
 simp (disch := first | exact xD | fail) [-Option.bind_some, -Aa, -Ab]
 refine Ae.bind (KU) ?_
 rintro ⟨_, w1⟩ ⟨g, S, m, cur, rfl, E1, hg, hm', hS, hb⟩
 have zE1 := E1.size
 try simp only [] at zE1
 dsimp only at E1 hb
 simp (disch := first | exact xD | fail) [-Option.bind_some, -Aa, -Ab]
 refine Ae.mono (Mw ha (Hj hf).1 hg hm' xs.length 0 _ _ S cur AU (by omega) rfl rfl rfl rfl rfl Gm hS hb E1) ?_
 rintro r ⟨h1, h2, h3, S', cur', h4, h5⟩
 rw [List.drop_zero, Nat.zero_add] at h1
 exact hQ _ ⟨h2, h3, g, S', m, cur', h1, hg, hm', h4, h5⟩
def Nl (xs : List Done) : Bool := Dy xs && decide ((DB AU xs).2 = xs.length)
theorem GO {a : Option Addr} {n c : Nat} {Sx : Nat → Prop} {xs : List Done} {w : World} (ha : D AO Sx w [.slice a n c] xs) :
  Ae (EV P 32 #[.slice a n c] w) fun r => Ext w r.2 ∧ ((Nl xs = false ∧ ∃ p, r.1 = .tuple #[p, .bool false]) ∨ (Nl xs = true ∧ Dy xs = true ∧ (DB AU xs).1.Ok ∧ ∃ g S m cur, r.1 = .tuple #[pt g 0, .bool true] ∧ w.heap.size ≤ g ∧ w.heap.size ≤ m ∧ (∀ x, S x → w.heap.size ≤ x) ∧ Bk r.2 S g m cur (DB AU xs).1)) := by
 obtain ⟨rfl, hm, _⟩ := ha.n
 refine Ae.post fun Q hQ => ?_
 refine Ae.enter plain mixed (J0 _ _) (by kernel_rfl) (n := 1) (by kernel_rfl) rfl ?_
 simp (disch := first | exact xD | fail) [-Option.bind_some, -Aa, -Ab]
 refine Ae.bind (Mv ha) ?_
 rintro ⟨_, w1⟩ ⟨rfl, E1⟩
 try dsimp only at E1
 have zE1 := E1.size
 try simp only [qz] at zE1
 cases hf : Dy xs
 ·simp (disch := first | exact xD | fail) [-Option.bind_some, -Aa, -Ab]
  exact hQ _ ⟨xE, .inl ⟨by simp [Nl, hf], _, rfl⟩⟩
 ·simp (disch := first | exact xD | fail) [-Option.bind_some, -Aa, -Ab]
  refine Ae.bind (Mx (ha.ext xE) hf) ?_
  rintro ⟨_, w2⟩ ⟨E2, hok, g, S, m, cur, rfl, hg, hm', hS, hb⟩
  have zE2 := E2.size
  try simp only [] at zE2
  dsimp only at E2 hb
  have hs := E1.size
  have hq : (((DB AU xs).2 : Int) == (xs.length : Int)) = decide ((DB AU xs).2 = xs.length) := by rw [Bool.eq_iff_iff]; simp only [beq_iff_eq, decide_eq_true_eq]; omega
  cases h : decide ((DB AU xs).2 = xs.length)
  ·simp (disch := first | exact xD | fail) [-Option.bind_some, qs, -Aa, -Ab, hq, h]
   exact hQ _ ⟨xE, .inl ⟨by simp [Nl, hf, h], _, rfl⟩⟩
  ·simp (disch := first | exact xD | fail) [-Option.bind_some, qs, -Aa, -Ab, hq, h]
   exact hQ _ ⟨xE, .inr ⟨by simp only [Nl, hf, h, Bool.and_self], hf, hok, g, S, m, cur, rfl, by omega, by omega, fun x hx => by have := hS x hx; omega, hb⟩⟩
theorem My {a : Option Addr} {n c : Nat} {Sx : Nat → Prop} {xs : List Done} {w : World} (ha : D AO Sx w [.slice a n c] xs) :
  Ae (EV P 11 #[.slice a n c] w) fun r => r.1 = .bool (Nl xs) ∧ Ext w r.2 := by
 refine Ae.post fun Q hQ => ?_
 refine Ae.enter plain mixed (LY _ _) (by kernel_rfl) (n := 1) (by kernel_rfl) rfl ?_
 simp (disch := first | exact xD | fail) [-Option.bind_some, -Aa, -Ab]
 refine Ae.bind (GO ha) ?_
 rintro ⟨_, w1⟩ ⟨E1, ⟨h, p, rfl⟩ | ⟨h, _, _, g, S, m, cur, rfl, _⟩⟩
 have zE1 := E1.size
 try simp only [] at zE1
 ·rw [h] at hQ
  simp (disch := first | exact xD | fail) [-Option.bind_some, qs, -Aa, -Ab]
  exact hQ _ ⟨rfl, E1⟩
 ·rw [h] at hQ
  simp (disch := first | exact xD | fail) [-Option.bind_some, qs, -Aa, -Ab]
  exact hQ _ ⟨rfl, E1⟩
def Bq (xs : List Done) (s : Int) : List Tag := if Nl xs && (decide (0 ≤ s) && decide (s ≤ 3)) then (DB AU xs).1.vs.getD s.toNat [] else []
theorem NY {b : Book} (h : b.Ok) {s : Int} (h0 : 0 ≤ s) (h3 : s ≤ 3) : b.vs[s.toNat]? = some (b.vs.getD s.toNat []) ∧ (b.vs.getD s.toNat []).length = 4 := by
 obtain ⟨h1, h2, _⟩ := h
 have : s.toNat < b.vs.length := by omega
 rw [List.getD_eq_getElem?_getD, List.getElem?_eq_getElem this, Option.getD_some]
 exact ⟨rfl, h2 _ (List.getElem_mem _)⟩
theorem GA {a : Option Addr} {n c : Nat} {Sx : Nat → Prop} {xs : List Done} {s : Int} {w : World} (ha : D AO Sx w [.slice a n c] xs) :
  Ae (EV P 14 #[.slice a n c, i64 s] w) fun r => ∃ a2 c2, r.1 = .agg #[.slice a2 (Bq xs s).length c2] ∧ O AJ (In w.heap.size r.2.heap.size) r.2 [.slice a2 (Bq xs s).length c2] (Bq xs s) ∧ Ext w r.2 := by
 refine Ae.post fun Q hQ => ?_
 refine Ae.enter plain mixed (JR _ _ _) (by kernel_rfl) (n := 2) (by kernel_rfl) rfl ?_
 simp (disch := first | exact xD | fail) [-Option.bind_some, -Aa, -Ab]
 refine Ae.bind (GO (ha.ext xE)) ?_
 rintro ⟨_, w1⟩ ⟨E1, ⟨h, p, rfl⟩ | ⟨h, hf, hok, g, S, m, cur, rfl, yg, ym, hS, hb⟩⟩
 have zE1 := E1.size
 try simp only [qz] at zE1
 ·rw [show Bq xs s = [] by simp [Bq, h]] at hQ
  dsimp only at E1
  have zE1' := E1.size
  simp only [World.size_alloc] at zE1'
  have X1 : hp w1 w.heap.size = some (.cells #[.slice none 0 0] 32 (0, 0)) := (E1.Ai (by simp)).trans (by first | assumption | rfl | (simp (disch := first | exact xD | fail) [-Option.bind_some, qs, -Aa, -Ab]; done))
  simp (disch := first | exact xD | fail) [-Option.bind_some, qs, -Aa, -Ab, qm, X1]
  exact hQ _ ⟨none, 0, rfl, O.nil, xE⟩
 ·dsimp only at E1 hb
  have zE1' := E1.size
  simp only [World.size_alloc] at zE1' yg
  have X1 : hp w1 w.heap.size = some (.cells #[.slice none 0 0] 32 (0, 0)) := (E1.Ai (by simp)).trans (by first | assumption | rfl | (simp (disch := first | exact xD | fail) [-Option.bind_some, qs, -Aa, -Ab]; done))
  cases hin : (decide (0 ≤ s) && decide (s ≤ 3))
  ·rw [show Bq xs s = [] by simp [Bq, hin]] at hQ
   simp (disch := first | exact xD | fail) [-Option.bind_some, qs, -Aa, -Ab]
   refine Ae.bind (BI s 0 3 _) ?_
   rintro ⟨_, w2⟩ h2
   try dsimp only at h2
   simp only [Prod.mk.injEq] at h2
   obtain ⟨rfl, rfl⟩ := h2
   simp (disch := first | exact xD | fail) [-Option.bind_some, -Aa, -Ab, qm, X1, hin]
   exact hQ _ ⟨none, 0, rfl, O.nil, xE⟩
  ·rw [show Bq xs s = (DB AU xs).1.vs.getD s.toNat [] by simp [Bq, hin, h]] at hQ
   have hin' := hin
   simp only [Bool.and_eq_true, decide_eq_true_eq] at hin'
   obtain ⟨hs0, hs3⟩ := hin'
   have hs4 : s < 4 := by omega
   obtain ⟨hv, hvl⟩ := NY hok hs0 hs3
   generalize (DB AU xs).1.vs.getD s.toNat [] = v at hv hvl hQ
   obtain ⟨⟨X2, hc4, hvs⟩, hc5, hc, hmp, hgm, hgl, hml, hSg, hSm, hSl⟩ := hb
   obtain ⟨a1, c1, hcell, hD⟩ := hvs _ _ hv
   have q0 : nth cur s.toNat = some (.slice a1 v.length c1) := by rw [← BQ]; exact hcell
   simp (disch := first | exact xD | fail) [-Option.bind_some, qs, -Aa, -Ab]
   refine Ae.bind (BI s 0 3 _) ?_
   rintro ⟨_, w2⟩ h2
   try dsimp only at h2
   simp only [Prod.mk.injEq] at h2
   obtain ⟨rfl, rfl⟩ := h2
   simp (disch := first | exact xD | fail) [-Option.bind_some, -Aa, -Ab, Gy (P := P) Tryz.underlying66 (by kernel_rfl : OC P 32 = some 1), X2, hs0, hs3, q0]
   refine Ae.bind (EL (hD.ext xE)) ?_
   rintro ⟨_, w3⟩ ⟨a2, c2, rfl, o3, E3⟩
   try dsimp only at a2 c2 o3 E3
   have zE3 := E3.size
   try simp only [qz] at zE3
   have X3 := (E3.Ai (b := w.heap.size) (by omega)).trans X1
   simp (disch := first | exact xD | fail) [-Option.bind_some, -Aa, -Ab, qm, X3]
   exact hQ _ ⟨a2, c2, rfl, O.wide (o3.Aj (by intro b hS hb; (try dsimp only at hS); (try simp only [In] at hS hb); first | rfl | (simp (disch := first | exact xF | fail) only [qk]; done))) xV, xE⟩
end Go.Proofs.YtjhhommnkaemlaaGreat.X
