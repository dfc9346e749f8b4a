/- A part of the proof, without conditions. -/
import Derived.Test.YtjhhommnkaemlaaGreatD6
import Derived.Test.YtjhhommnkaemlaaGreatEvWo
set_option linter.unusedVariables false
set_option linter.unusedSimpArgs false
set_option linter.deprecated false
set_option maxRecDepth 100000
set_option maxHeartbeats 1000000
namespace Go.Proofs.YtjhhommnkaemlaaGreat.X
open Go Go.Ev Go.RowKit
theorem Ou {M i : Nat} {at' : Int} {S Sv : Nat → Prop} {cs vcs : List Value} {p : PlaceD} {v : Ver} {w : World} (hf : CV M p) (hi : i < 3) (hv : Nz v) (dv : D Bz Sv w vcs v) (ho : O Il S w cs p) :
  Ag (EV P 133 #[.agg cs.toArray, i64 i, i64 at', .agg vcs.toArray] w) fun r => ∃ (cs' : List Value) (p' : PlaceD) (ok : Bool), r.1 = .tuple #[.agg cs'.toArray, .bool ok] ∧ (ok = false → Ext w r.2) ∧ CV M p' ∧ O Il (fun b => S b ∨ In w.heap.size r.2.heap.size b) r.2 cs' p' ∧ Mod S w r.2 := by
 obtain ⟨av, cv, rfl, dv1, dv2⟩ := D.Bv.1 dv
 have dv : D Bz Sv w [i64 v.key, i64 v.tag.t, i64 v.tag.p, .slice av v.past.length cv, .string v.text, .bool v.gone] v := dv
 have ho0 := ho
 obtain ⟨a, c, a1, c1, a2, c2, S1, S2, S3, rfl, q1, q2, q3, k1, k2, k3⟩ := O.Hj ho
 have hf' := hf
 obtain ⟨hI, hl, hlp, gl3, hgl⟩ := hf'
 obtain ⟨l, hgi, _⟩ := Am (l := p.Bs) (k := i) (by omega)
 have hl60 := hgl l (List.mem_of_getElem? hgi)
 obtain ⟨g, cur, ds, S4, rfl, hSg, hgL, hgr, hle, hx1, hS4, put⟩ := q3.NY (by decide) hgi
 obtain ⟨a4, c4, rfl, ol⟩ := hx1.GD
 simp only [Gq, Nat.mul_one] at hgr hle put
 have hip : i < p.Bs.length := by omega
 have fail : ∀ (Q : Value × World → Prop) (w' : World), (∀ r, (∃ (cs' : List Value) (p' : PlaceD) (ok : Bool), r.1 = .tuple #[.agg cs'.toArray, .bool ok] ∧ (ok = false → Ext w r.2) ∧ CV M p' ∧ O Il (fun b => S b ∨ In w.heap.size r.2.heap.size b) r.2 cs' p' ∧ Mod S w r.2) → Q r) → Ext w w' → Q (.tuple #[.agg #[i64 p.me, i64 p.clock, .slice a p.chain.length c, .slice a1 p.log.length c1, .slice (some ⟨g, 0, none⟩) p.Bs.length c2, .bool p.fell], .bool false], w') :=
  fun Q w' hQ hE => hQ _ ⟨_, p, false, rfl, fun _ => hE, hf, (ho0.ext hE).wide fun b h _ => .inl h, Mod.of hE S⟩
 refine Ag.post fun Q hQ => ?_
 refine Ag.enter plain mixed (KS _ _ _ _ _) (by kernel_rfl) (n := 4) (by kernel_rfl) rfl ?_
 cases hme : ((i : Int) == p.me)
 ·cases hat : (at' != (l.length : Int))
  ·have hat' : at' = (l.length : Int) := by simpa using hat
   subst hat'
   by_cases h60 : l.length < 60
   ·simp (disch := first | exact xD | fail) [-Option.bind_some, qs, -Aa, -Ab, qm, hme, hgr, HU, show ¬ (60 : Int) ≤ l.length by omega]
    refine Ag.bind (Lq (t := v.tag) (ol.d.ext xE) (by omega)) ?_
    rintro ⟨_, w1⟩ ⟨lg, rfl, E1⟩
    try dsimp only at lg E1
    have zE1 := E1.size
    try simp only [qz] at zE1
    cases lg
    ·have G1 : hp w1 g = _ := (E1.Ah (by simp only [World.size_alloc, Ac]; omega)).trans ((by first | assumption | rfl | (simp (disch := first | exact xD | fail) [-Option.bind_some, qs, -Aa, -Ab]; done)) : _ = hp w g) |>.trans hgr
     have P1 : hp w1 w.heap.size = some (.cells #[i64 p.me, i64 p.clock, .slice a p.chain.length c, .slice a1 p.log.length c1, .slice (some ⟨g, 0, none⟩) p.Bs.length c2, .bool p.fell] 84 (0, 0)) := (E1.Ah (by simp only [World.size_alloc, Ac]; omega)).trans (by first | assumption | rfl | (simp (disch := first | exact xD | fail) [-Option.bind_some, qs, -Aa, -Ab]; done))
     have R1 : hp w1 (w.heap.size + 1 + 1) = some (.cells #[i64 0, i64 0, .slice none 0 0, .slice none 0 0, .slice none 0 0, .bool false] 84 (0, 0)) := (E1.Ah (by simp only [World.size_alloc, Ac]; omega)).trans (by first | assumption | rfl | (simp (disch := first | exact xD | fail) [-Option.bind_some, qs, -Aa, -Ab]; done))
     have F1 : Ext w w1 := xE
     simp (disch := first | exact xD | fail) [-Option.bind_some, qs, -Aa, -Ab, qm, G1, P1, HU, E1.Ah]
     refine Ag.bind (AZ (dv.ext xE)) ?_
     rintro ⟨_, w2⟩ ⟨ds, rfl, o2, E2⟩
     try dsimp only at ds o2 E2
     have zE2 := E2.size
     try simp only [qz] at zE2
     have zo2 := O.Bv.1 o2
     obtain ⟨a5, c5, rfl, _, _⟩ := zo2
     simp only [Ac] at zE2 o2
     have G2 := (E2.Ah (b := g) (by simp only [Ac]; omega)).trans ((Bg _ _).trans G1)
     have P2 := (E2.Ah (b := w.heap.size) (by simp only [Ac]; omega)).trans ((Bg _ _).trans P1)
     have R2 := (E2.Ah (b := w.heap.size + 1 + 1) (by simp only [Ac]; omega)).trans ((Bg _ _).trans R1)
     have F2 : Ext w w2 := xE
     have zF2 := F2.size
     simp (disch := first | exact xD | fail) [-Option.bind_some, qs, -Aa, -Ab, qm, G2, P2]
     have ol2 : O AB S4 (w2.alloc (.cells #[i64 v.key, i64 v.tag.t, i64 v.tag.p, .slice a5 v.past.length c5, .string v.text, .bool v.gone] 49)) [.slice a4 l.length c4] l := ol.ext (F2.al _)
     refine Ag.bind (O.app (L := Bz) (mx := 1954687338211) (xs := l) (x := v) Cj Ed rfl (by decide) ol2 (o2.Ak (by intro b hS hb; (try dsimp only at hS); (try simp only [In] at hS hb); first | rfl | (simp (disch := first | exact xF | fail) only [qk]; done))) ?_ At.new (by omega) (by decide) (by decide)) ?_
     ·intro b hb q1 q2
      simp only [In] at q2
      have := (hS4 b q1).2.2
      omega
     rintro ⟨_, w3⟩ ⟨a7, c7, rfl, o7, M7⟩
     have zM7 := M7.size
     try simp only [qz] at zM7
     try dsimp only at o7 M7
     have zM7 := M7.size
     try simp only [World.size_alloc] at zM7
     have G3 := (M7.Ah g (by simp only [World.size_alloc]; omega) (fun h => (hS4 _ h).2.1 rfl)).trans ((Ae (by omega)).trans G2)
     have P3 := (M7.Ah w.heap.size (by simp only [World.size_alloc]; omega) (fun h => by have := (hS4 _ h).2.2; omega)).trans ((Ae (by omega)).trans P2)
     have R3 := (M7.Ah (w.heap.size + 1 + 1) (by simp only [World.size_alloc]; omega) (fun h => by have := (hS4 _ h).2.2; omega)).trans ((Ae (by omega)).trans R2)
     simp (disch := first | exact xD | fail) [-Option.bind_some, qs, -Aa, -Ab, qm, G3, P3, R3]
     have kS : ∀ b, S1 b ∨ S2 b ∨ S3 b → S b ∧ b < w.heap.size := by
      rintro b (h | h | h)
      ·exact ⟨(k1 b h).1, (k1 b h).2.2.2⟩
      ·exact ⟨(k2 b h).1, (k2 b h).2.2.2⟩
      ·exact ⟨(k3 b h).1, (k3 b h).2.2.2⟩
     have hle' : (l ++ [v]).length = l.length + 1 := by simp
     obtain ⟨W, hW⟩ : ∃ W : World, W = w3.setRow g (Ba cur i [.slice a7 (l.length + 1) c7]).toArray := ⟨_, rfl⟩
     rw [← hW]
     have sW : W.heap.size = w3.heap.size := by rw [hW, size_setRow]
     have kW : ∀ b, b ≠ g → hp W b = hp w3 b := fun b h => by rw [hW, Ad h]
     have k7 : ∀ b, b < w.heap.size → ¬ S4 b → hp w3 b = hp w b := fun b hb h => (M7.Ah b (by simp only [World.size_alloc]; omega) h).trans ((Ae (by omega)).trans (F2.Ah hb))
     have o7' : O AB (fun b => (S4 b ∨ In w.heap.size w3.heap.size b) ∧ b ≠ g ∧ b ≠ w.heap.size ∧ b ≠ w.heap.size + 1 + 1) w3 [.slice a7 (l ++ [v]).length c7] (l ++ [v]) := by
      rw [hle']
      refine o7.wide fun b hb hbl => ?_
      simp only [In, World.size_alloc] at hb ⊢
      rcases hb with h | h | h
      ·have := hS4 b h
       exact ⟨.inl h, by omega, by omega, by omega⟩
      ·exact ⟨.inr (by omega), by omega, by omega, by omega⟩
      ·exact ⟨.inr (by omega), by omega, by omega, by omega⟩
     have oW := put (W.setRow (w.heap.size + 1 + 1) #[i64 p.me, i64 p.clock, .slice a p.chain.length c, .slice a1 p.log.length c1, .slice (some ⟨g, 0, none⟩) p.Bs.length c2, .bool p.fell]) [.slice a7 (l.length + 1) c7] (l ++ [v]) _ (by rw [← hle']; exact o7'.Ak fun b hb hbl => (Ad hb.2.2.2).trans (kW b hb.2.1)) ((Ad (by omega)).trans (by rw [hW]; exact (by first | assumption | rfl | (simp (disch := first | exact xD | fail) [-Option.bind_some, -Aa, -Ab, G3]; done)))) (fun b hb h3 hne h4 => (Ad (by omega)).trans ((kW b hne).trans (k7 b hb h4))) (fun b hb h => by rcases h.1 with h' | h'; exact .inl h'; exact .inr (fun hh => by simp only [In] at h'; omega))
     have hne2 : ∀ b, S1 b ∨ S2 b → b ≠ g ∧ ¬ S4 b ∧ b < w.heap.size := by
      rintro b (h | h)
      ·exact ⟨fun hh => (k1 b h).2.2.1 (hh ▸ hSg), fun hh => (k1 b h).2.2.1 (hS4 b hh).1, (k1 b h).2.2.2⟩
      ·exact ⟨fun hh => (k2 b h).2.2.1 (hh ▸ hSg), fun hh => (k2 b h).2.2.1 (hS4 b hh).1, (k2 b h).2.2.2⟩
     obtain ⟨p1, hp1⟩ : ∃ p1 : PlaceD, p1 = { p with Bs := p.Bs.set i (l ++ [v]) } := ⟨_, rfl⟩
     have kk : ∀ b, S1 b ∨ S2 b → hp (W.setRow (w.heap.size + 1 + 1) #[i64 p.me, i64 p.clock, .slice a p.chain.length c, .slice a1 p.log.length c1, .slice (some ⟨g, 0, none⟩) p.Bs.length c2, .bool p.fell]) b = hp w b := fun b hb => by
      have := hne2 b hb
      exact (Ad (by omega)).trans ((kW b this.1).trans (k7 b this.2.2 this.2.1))
     have oP := O.Eg (p := p1) (S1 := S1) (S2 := S2) (s := .slice a p.chain.length c) (t := .slice a1 p.log.length c1) (by rw [hp1]; exact q1.Ak fun b hb _ => kk b (.inl hb)) (by rw [hp1]; exact q2.Ak fun b hb _ => kk b (.inr hb)) (by rw [hp1]; exact oW) (fun b _ h h' => (k1 b h).2.1 h')
      (fun b _ h h' => by
       rcases h' with h' | h'
       ·exact (k1 b h).2.2.1 h'.1
       ·rcases h'.1 with h'' | h''
        ·exact (hne2 b (.inl h)).2.1 h''
        ·have := (k1 b h).2.2.2; simp only [In] at h''; omega)
      (fun b _ h h' => by
       rcases h' with h' | h'
       ·exact (k2 b h).2.2.1 h'.1
       ·rcases h'.1 with h'' | h''
        ·exact (hne2 b (.inr h)).2.1 h''
        ·have := (k2 b h).2.2.2; simp only [In] at h''; omega)
     have ecs : [i64 p1.me, i64 p1.clock, .slice a p.chain.length c, .slice a1 p.log.length c1, .slice (some ⟨g, 0, none⟩) p.Bs.length c2, .bool p1.fell] = [i64 p.me, i64 p.clock, .slice a p.chain.length c, .slice a1 p.log.length c1, .slice (some ⟨g, 0, none⟩) p.Bs.length c2, .bool p.fell] := by rw [hp1]
     rw [ecs] at oP
     have PW := (kW w.heap.size (by omega)).trans P3
     have RW := (kW (w.heap.size + 1 + 1) (by omega)).trans R3
     refine hQ _ ⟨_, p1, true, rfl, by simp, ?_, oP.wide ?_, ?_⟩
     ·rw [hp1]
      refine ⟨hI, hl, hlp, by simpa using gl3, fun l' hl' => ?_⟩
      rcases List.mem_or_eq_of_mem_set hl' with h | rfl
      ·exact hgl l' h
      ·refine ⟨by omega, fun u hu => ?_⟩
       rcases List.mem_append.1 hu with h | h
       ·exact hl60.2 u h
       ·rw [List.mem_singleton.1 h]; exact hv
     ·intro b hb hbl
      try simp only [size_setRow] at hbl
      rcases hb with h | h | h | h
      ·exact .inl (kS b (.inl h)).1
      ·exact .inl (kS b (.inr (.inl h))).1
      ·exact .inl (kS b (.inr (.inr h.1))).1
      ·rcases h.1 with h' | h'
       ·exact .inl (kS b (.inr (.inr (hS4 b h').1))).1
       ·refine .inr ?_
        simp only [In, size_setRow] at h' ⊢
        omega
     ·have Mb : Mod S w w3 := Mod.A8 (Mod.of (F2.al _) S) M7 fun b hb h => (kS b (.inr (.inr (hS4 b h).1))).1
      rw [hW]
      exact (Mb.AE (.inr (kS g (.inr (.inr hSg))).1) _).AE (.inl (by omega)) _
    ·have P1 : hp w1 w.heap.size = some (.cells #[i64 p.me, i64 p.clock, .slice a p.chain.length c, .slice a1 p.log.length c1, .slice (some ⟨g, 0, none⟩) p.Bs.length c2, .bool p.fell] 84 (0, 0)) := (E1.Ah (by simp only [World.size_alloc, Ac]; omega)).trans (by first | assumption | rfl | (simp (disch := first | exact xD | fail) [-Option.bind_some, qs, -Aa, -Ab]; done))
     have R1 : hp w1 (w.heap.size + 1 + 1) = some (.cells #[i64 0, i64 0, .slice none 0 0, .slice none 0 0, .slice none 0 0, .bool false] 84 (0, 0)) := (E1.Ah (by simp only [World.size_alloc, Ac]; omega)).trans (by first | assumption | rfl | (simp (disch := first | exact xD | fail) [-Option.bind_some, qs, -Aa, -Ab]; done))
     simp (disch := first | exact xD | fail) [-Option.bind_some, -Aa, -Ab, qm, P1, R1]
     exact fail Q _ hQ xE
   ·simp (disch := first | exact xD | fail) [-Option.bind_some, qs, -Aa, -Ab, qm, hme, hgr, HU, show (60 : Int) ≤ l.length by omega]
    exact fail Q _ hQ xE
  ·simp (disch := first | exact xD | fail) [-Option.bind_some, qs, -Aa, -Ab, qm, hme, hat, hgr, HU]
   exact fail Q _ hQ xE
 ·simp (disch := first | exact xD | fail) [-Option.bind_some, qs, -Aa, -Ab, qm, hme]
  exact fail Q _ hQ xE
theorem Mz {a b : Option Addr} {c c' : Nat} {S S' : Nat → Prop} {xs ys : List Tag} {w : World} (hx : xs.length = 4) (hy : ys.length = 4) (ha : D Bj S w [.slice a xs.length c] xs) (hb : D Bj S' w [.slice b ys.length c'] ys) :
  Ag (EV P 67 #[.agg #[.slice a xs.length c], .agg #[.slice b ys.length c']] w) fun r => ∃ a2 c2, r.1 = .agg #[.slice a2 (BT xs ys).length c2] ∧ O Bj (In w.heap.size r.2.heap.size) r.2 [.slice a2 (BT xs ys).length c2] (BT xs ys) ∧ Ext w r.2 := by
 refine Ag.mono (ML hx hy ha.AM hb.AM) ?_
 rintro r ⟨s', h1, h2, h3⟩
 obtain ⟨a2, c2, hs, h4⟩ := (Pr h2).GD
 simp only [List.cons.injEq, and_true] at hs
 subst hs
 exact ⟨a2, c2, h1, h4, h3⟩
theorem MD {a : Option Addr} {c : Nat} {S : Nat → Prop} {xs : List Tag} {t : Tag} {k : Nat} {w : World} (hk : k < xs.length) (ha : D Bj S w [.slice a xs.length c] xs) :
  Ag (EV P 66 #[.agg #[.slice a xs.length c], i64 k, .agg #[i64 t.t, i64 t.p]] w) fun r => ∃ a2 c2, r.1 = .agg #[.slice a2 (C6 xs k t).length c2] ∧ O Bj (In w.heap.size r.2.heap.size) r.2 [.slice a2 (C6 xs k t).length c2] (C6 xs k t) ∧ Ext w r.2 := by
 have hn := ha.n
 rw [FZ]
 refine Ag.post fun Q hQ => ?_
 refine Ag.enter plain mixed (K0 _ _ _ _) (by kernel_rfl) (n := 3) (by kernel_rfl) rfl ?_
 simp (disch := first | exact xD | fail) [-Option.bind_some, qs, -Aa, -Ab]
 refine Ag.bind (O.KG (L := EN) (mx := 8796093021952) Cb CD Gt rfl (by decide) (O.empty (g := w.heap.size + 1 + 1 + 1) (by first | assumption | rfl | (simp (disch := first | exact xD | fail) [-Option.bind_some, qs]; done))) (ha.ext xE) (by simp; omega) (by decide) (by decide)) ?_
 rintro ⟨_, w1⟩ ⟨a1, c1, rfl, o1, M1⟩
 have zM1 := M1.size
 try simp only [qz] at zM1
 try dsimp only at o1 M1
 have zM1 := M1.size
 simp only [World.size_alloc, List.nil_append, List.length_nil, Nat.zero_add] at o1 zM1
 have X1 := M1.Ah w.heap.size (by simp only [World.size_alloc]; omega) (by omega)
 have X2 := M1.Ah (w.heap.size + 1) (by simp only [World.size_alloc]; omega) (by omega)
 have X3 := M1.Ah (w.heap.size + 1 + 1) (by simp only [World.size_alloc]; omega) (by omega)
 have F1 : Ext w w1 := Mod.after (a := w) xE M1 (by intro x hx h; omega)
 obtain ⟨x, hx, _⟩ := Am hk
 have hgd : xs.getD k ⟨0, 0⟩ = x := by rw [List.getD_eq_getElem?_getD, hx]; rfl
 obtain ⟨g, cur, cs, S1, rfl, hSg, hgl, hg, hle, hx1, hS1, put⟩ := o1.row (by decide) hx
 obtain rfl := O.tag.1 hx1
 simp only [Cs] at hg hle put
 have hg3 : w.heap.size + 1 + 1 + 1 ≤ g := by rcases hSg with h | h <;> omega
 have hk0 : (k : Int) < xs.length := by omega
 simp (disch := first | exact xD | fail) [-Option.bind_some, qs, -Aa, -Ab, qm, EJ, hg, M1.Ah]
 refine Ag.bind (Jb x t _) ?_
 rintro ⟨_, w2⟩ ⟨rfl, E2⟩
 try dsimp only at E2
 have zE2 := E2.size
 try simp only [qz] at zE2
 simp (disch := first | exact xD | fail) [-Option.bind_some, qs, -Aa, -Ab, qm, hg, M1.Ah, E2.Ah]
 have hset : C6 xs k t = xs.set k (CK x t) := by unfold C6; rw [hgd]
 have E12 : Ext w w2 := xE
 have zE12 := E12.size
 try simp only [qz] at zE12
 refine hQ _ ⟨_, _, rfl, ?_, Ext.set (Ext.set E12 (by omega) _) (by omega) _⟩
 rw [hset]
 refine O.wide (put _ _ (CK x t) (fun _ => False) (O.tag.2 rfl) (by first | assumption | rfl | (simp (disch := first | exact xD | fail) [-Option.bind_some, qs, -Aa, -Ab, hg, E2.Ah]; done)) (by intro b _ _ _ _; first | rfl | (simp (disch := first | exact xF | fail) only [E2.Ah, qk]; done)) (fun _ _ h => h.elim)) ?_
 intro b h hb
 (try dsimp only at hb)
 simp only [size_setRow, In] at *
 rcases h with (h | h) | h
 ·omega
 ·omega
 ·exact h.elim
end Go.Proofs.YtjhhommnkaemlaaGreat.X
