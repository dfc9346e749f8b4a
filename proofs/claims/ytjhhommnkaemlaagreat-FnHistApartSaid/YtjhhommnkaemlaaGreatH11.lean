/- A part of the proof: an evaluator of the model, its laws, and contracts of functions; no condition. -/
import Derived.Test.YtjhhommnkaemlaaGreatEvHj
import Derived.Test.YtjhhommnkaemlaaGreatH6
set_option linter.unusedVariables false
set_option linter.unusedSimpArgs false
set_option linter.deprecated false
set_option maxRecDepth 100000
set_option maxHeartbeats 1000000
namespace Go.Proofs.YtjhhommnkaemlaaGreat.X
open Go Go.Ev Go.RowKit
abbrev SC (w0 w : World) (S : Nat → Prop) (g : Nat) (cur : List Value) (b : Book) (s : Value) (sn : List (List Tag)) : Prop := Wk AH 32 w0 w S g cur b s sn
def KT (Q : Value × World → Prop) (w0 : World) (xs : List Done) (a : Option Addr) (c g c4 : Nat) (T : List (List Tag)) (N k : Nat) : Prop :=
 ∀ (e : Env) (w : World) (S : Nat → Prop) (cur : List Value) (b : Book) (a6 : Option Addr) (n6 c6 : Nat) (sn : List (List Tag)), e 0 = .slice a xs.length c → e 4 = .slice (some ⟨g, 0, none⟩) 4 c4 → e 6 = .slice a6 n6 c6 → e 7 = i64 k → n6 = sn.length → SC w0 w S g cur b (.slice a6 n6 c6) sn → b.Ok → sn.length = k → b.wr = Ot (xs.take k) sn → sn ++ B9 b (xs.drop k) = T → k + (Eg b (xs.drop k)).2 = N →
  Ae (CV e w) Q
section
variable {Q : Value × World → Prop} {w0 w : World} {xs : List Done} {a a6 am : Option Addr} {c g c4 n6 c6 cm k N g8 g9 : Nat} {T sn : List (List Tag)} {S : Nat → Prop} {cur : List Value} {b b' : Book} {e : Env} {d : Done} {m : List Tag}
theorem Qb (IH : KT Q w0 xs a c g c4 T N (k + 1)) (e0 : e 0 = .slice a xs.length c) (e4 : e 4 = .slice (some ⟨g, 0, none⟩) 4 c4) (e6 : e 6 = .slice a6 n6 c6) (e7 : e 7 = i64 k) (hn : n6 = sn.length) (hk80 : k < 80) (hw : SC w0 w S g cur b (.slice a6 n6 c6) sn) (hok : b.Ok) (hs : sn.length = k + 1) (hr : b.wr = Ot (xs.take (k + 1)) sn) (hT : sn ++ B9 b (xs.drop (k + 1)) = T) (hN : (k + 1) + (Eg b (xs.drop (k + 1))).2 = N) :
  Ae (CZ e w) Q := by
 rw [Iv]
 simp (disch := first | exact xD | fail) [-Option.bind_some, qs, -Aa, -Ab, e7]
 exact IH _ _ S cur b a6 n6 c6 sn xA xA xA xA hn hw hok hs hr hT hN
theorem NU (IH : KT Q w0 xs a c g c4 T N (k + 1)) (e0 : e 0 = .slice a xs.length c) (e4 : e 4 = .slice (some ⟨g, 0, none⟩) 4 c4) (e6 : e 6 = .slice a6 sn.length c6) (e7 : e 7 = i64 k) (e8 : e 8 = pt g8 0) (e9 : e 9 = pt g9 0) (hk80 : k < 80) (hw : SC w0 w S g cur b (.slice a6 sn.length c6) sn)
  (X8 : hp w g8 = some (.cells (BE d).toArray 38 (0, 0))) (X9 : hp w g9 = some (.cells #[.slice am m.length cm] 32 (0, 0))) (hm : D AH S w [.slice am m.length cm] m)
  (hd : CG d = true) (hok : b.Ok) (hdk : xs[k]? = some d) (hs : sn.length = k) (hr : b.wr = Ot (xs.take k) sn) (hb' : b' = ⟨b.vs.set d.Ao.toNat m, b.wr⟩) (hb2 : AZ b d = some b') (hk1 : ¬ d.kind = 1) (hgg : g8 ≠ g ∧ g9 ≠ g) (hT : sn ++ B9 b (xs.drop k) = T) (hN : k + (Eg b (xs.drop k)).2 = N) :
  Ae (CW e w) Q := by
 obtain ⟨hg8, hg9⟩ := hgg
 rw [Ir]
 obtain ⟨⟨hs0, hs3⟩, _⟩ := B6.1 hd
 have hs4 : d.Ao < 4 := by omega
 have hvl := hok.1
 have hw' := hw
 obtain ⟨⟨X1, hc4, hvs⟩, hown, hSg, hbg, hg0, hgl, hSl, E0⟩ := hw
 have zE0 := E0.size
 try simp only [qz] at zE0
 have hsl : d.Ao.toNat < cur.length := by omega
 have hdx : xs.drop k = d :: xs.drop (k + 1) := by
  obtain ⟨hlt, hx⟩ := List.getElem?_eq_some_iff.1 hdk
  rw [List.drop_eq_getElem_cons hlt, hx]
 have htk : xs.take (k + 1) = xs.take k ++ [d] := by rw [List.take_add_one, hdk]; rfl
 have hlt : k < xs.length := (List.getElem?_eq_some_iff.1 hdk).1
 simp (disch := first | exact xD | fail) [-Option.bind_some, qs, -Aa, -Ab, e4, e6, e8, e9, X8, X9, X1, OV, Jd]
 have hwS := hw'.set (i := d.Ao.toNat) (by omega) hm
 refine Ae.bind (Wk.push (P := P) (mx := 5864062014805) (ty := 58) rfl Qj RH rfl (hwS.ext (w' := (w.setRow g (AG cur d.Ao.toNat [.slice am m.length cm]).toArray).alloc (.cells #[.slice am m.length cm] 32)) (Ext.alloc _ _)) (v := .slice am m.length cm) (x := m) (g1 := w.heap.size) (E' := 32) ?_ ?_ (by omega) (by decide) (by decide)) ?_
 ·refine hm.Aj fun y hy hl => ?_
  have : y ≠ g := fun e => hSg (e ▸ hy)
  simp (disch := (first | assumption | (simp; omega))) only [Ag, Ac]
 ·exact (by first | assumption | rfl | (simp (disch := first | exact xD | fail) [-Option.bind_some, qs, -Aa, -Ab]; done))
 ·rintro ⟨_, w1⟩ ⟨a7, c7, rfl, hw1⟩
  dsimp only at hw1
  simp (disch := first | exact xD | fail) [-Option.bind_some, -Aa, -Ab]
  refine Qb (sn := sn ++ [m]) (b := b') IH xA xA (by simp; rfl) xA rfl hk80 (hb' ▸ hw1) (EU hok hd hb2) (by simp [hs]) ?_ ?_ ?_
  ·rw [Rb hok hd hb2, htk, Ou _ _ _ _ (by simp; omega), hr, hb', KE hok hd]
  ·rw [← hT, hdx, Gn hb2, List.append_assoc, hb', KE hok hd]
   rfl
  ·rw [← hN, hdx, DC hb2]
   omega
end
def Pu (Q : Value × World → Prop) (w0 : World) (T : List (List Tag)) (N : Nat) : Prop :=
 ∀ (w : World) (S : Nat → Prop) (g : Nat) (cur : List Value) (b : Book) (a6 : Option Addr) (c6 : Nat), SC w0 w S g cur b (.slice a6 T.length c6) T → Q (.tuple #[.slice a6 T.length c6, i64 N], w)
section
variable {Q : Value × World → Prop} {w0 w : World} {xs : List Done} {a a6 am : Option Addr} {c g c4 n6 c6 cm k N g8 g9 g12 : Nat} {T sn : List (List Tag)} {S : Nat → Prop} {cur : List Value} {b b' : Book} {e : Env} {d : Done} {m : List Tag}
theorem Ez (HE : Pu Q w0 T N) (hw : SC w0 w S g cur b (.slice a6 sn.length c6) sn) (hs : sn.length = k) (hdk : xs[k]? = some d) (hn : AZ b d = none) (hT : sn ++ B9 b (xs.drop k) = T) (hN : k + (Eg b (xs.drop k)).2 = N) :
  Q (.tuple #[.slice a6 sn.length c6, i64 k], w) := by
 have hdx : xs.drop k = d :: xs.drop (k + 1) := by
  obtain ⟨hlt, hx⟩ := List.getElem?_eq_some_iff.1 hdk
  rw [List.drop_eq_getElem_cons hlt, hx]
 rw [hdx, KD hn, List.append_nil] at hT
 rw [hdx, ET hn, Nat.add_zero] at hN
 subst hT hN
 exact HE _ _ _ _ _ _ _ hw
theorem Kp (IH : KT Q w0 xs a c g c4 T N (k + 1)) (HE : Pu Q w0 T N) (e0 : e 0 = .slice a xs.length c) (e4 : e 4 = .slice (some ⟨g, 0, none⟩) 4 c4) (e6 : e 6 = .slice a6 sn.length c6) (e7 : e 7 = i64 k) (e8 : e 8 = pt g8 0) (e9 : e 9 = pt g9 0) (e11 : e 11 = .bool (Bj b.wr d.tag).isSome) (hk80 : k < 80) (hw : SC w0 w S g cur b (.slice a6 sn.length c6) sn)
  (X8 : hp w g8 = some (.cells (BE d).toArray 38 (0, 0))) (X9 : hp w g9 = some (.cells #[.slice am 4 cm] 32 (0, 0))) (hm : D AH S w [.slice am 4 cm] (view b d))
  (hd : CG d = true) (hok : b.Ok) (hdk : xs[k]? = some d) (hs : sn.length = k) (hr : b.wr = Ot (xs.take k) sn) (hk1 : d.kind = 1) (hT : sn ++ B9 b (xs.drop k) = T) (hN : k + (Eg b (xs.drop k)).2 = N) :
  Ae (CX e w) Q := by
 rw [It]
 have hvl := Gj hok hd
 have y8 := Ar X8
 have y9 := Ar X9
 obtain ⟨_, _, _, _, ht⟩ := B6.1 hd
 have hlp := Q4 (view b d) d.tag (by omega)
 have hst : AZ b d = if (Bj b.wr d.tag).isSome || !Hj (view b d) d.tag then none else some ⟨b.vs, b.wr ++ [(d.tag, d.Ao, d.key, view b d)]⟩ := by
  unfold AZ
  rw [hk1, hlp, Bool.not_not]
  rfl
 have hdx : xs.drop k = d :: xs.drop (k + 1) := by
  obtain ⟨hlt, hx⟩ := List.getElem?_eq_some_iff.1 hdk
  rw [List.drop_eq_getElem_cons hlt, hx]
 have htk : xs.take (k + 1) = xs.take k ++ [d] := by rw [List.take_add_one, hdk]; rfl
 have hlt : k < xs.length := (List.getElem?_eq_some_iff.1 hdk).1
 cases hf : (Bj b.wr d.tag).isSome
 ·rw [hf] at e11
  simp (disch := first | exact xD | fail) [-Option.bind_some, -Aa, -Ab, e6, e7, e8, e9, e11, X8, X9]
  refine Ae.bind (KO (t := d.tag) hvl hm) ?_
  rintro ⟨_, w1⟩ ⟨rfl, E1⟩
  try dsimp only at E1
  have zE1 := E1.size
  try simp only [qz] at zE1
  cases hl : Hj (view b d) d.tag
  ·simp (disch := first | exact xD | fail) [-Option.bind_some, -Aa, -Ab]
   exact Ez HE (hw.ext E1) hs hdk (by rw [hst, hf, hl]; rfl) hT hN
  ·rw [hf, hl] at hst
   have hb2 : AZ b d = some ⟨b.vs, b.wr ++ [(d.tag, d.Ao, d.key, view b d)]⟩ := hst
   simp (disch := first | exact xD | fail) [-Option.bind_some, -Aa, -Ab, X9, E1.Ai]
   have hw1 := hw.ext (E1.tr (Ext.alloc w1 (.cells #[.slice am 4 cm] 32 (0, 0))))
   refine Ae.bind (Wk.push (P := P) (mx := 5864062014805) (ty := 58) rfl Qj RH rfl hw1 (v := .slice am 4 cm) (x := view b d) (g1 := w1.heap.size) (E' := 32) (hm.ext xE) (by first | assumption | rfl | (simp (disch := first | exact xD | fail) [-Option.bind_some, qs, -Aa, -Ab]; done)) (by omega) (by decide) (by decide)) ?_
   rintro ⟨_, w2⟩ ⟨a7, c7, rfl, hw2⟩
   dsimp only at hw2
   simp (disch := first | exact xD | fail) [-Option.bind_some, -Aa, -Ab]
   refine Qb (sn := sn ++ [view b d]) (b := ⟨b.vs, b.wr ++ [(d.tag, d.Ao, d.key, view b d)]⟩) IH xA xA (by simp; rfl) xA rfl hk80 hw2 (EU hok hd hb2) (by simp [hs]) ?_ ?_ ?_
   ·rw [htk, Ou _ _ _ _ (by simp; omega), hr, hk1]
    rfl
   ·rw [← hT, hdx, Gn hb2, List.append_assoc]
    rfl
   ·rw [← hN, hdx, DC hb2]
    omega
 ·rw [hf] at e11
  simp (disch := first | exact xD | fail) [-Option.bind_some, -Aa, -Ab, e6, e7, e8, e9, e11]
  exact Ez HE hw hs hdk (by rw [hst, hf]; rfl) hT hN
end
section
variable {Q : Value × World → Prop} {w0 w : World} {xs : List Done} {a a6 am a12 : Option Addr} {c g c4 n6 c6 cm k N g8 g9 g12 c12 : Nat} {T sn : List (List Tag)} {S Sx S12 : Nat → Prop} {cur : List Value} {b b' : Book} {e : Env} {d : Done} {m : List Tag} {ok : Bool} {v12 : Value}
theorem Rl (hr : b.wr = Ot (xs.take k) sn) (hs : sn.length = k) (hk : k < xs.length) (t : Tag) : (Bj b.wr t = none ∧ GH (xs.take k) t = none ∧ Gk (xs.take k) sn t = none) ∨ ∃ x p, Bj b.wr t = some (x.Ao, x.key, p) ∧ GH (xs.take k) t = some x ∧ Gk (xs.take k) sn t = some p := by
 rw [hr]
 exact Pn (xs.take k) sn t (by simp; omega)
theorem SI (IH : KT Q w0 xs a c g c4 T N (k + 1)) (HE : Pu Q w0 T N) (hx0 : D AP Sx w0 [.slice a xs.length c] xs) (hcap : xs.length ≤ c) (e0 : e 0 = .slice a xs.length c) (e4 : e 4 = .slice (some ⟨g, 0, none⟩) 4 c4) (e6 : e 6 = .slice a6 sn.length c6) (e7 : e 7 = i64 k) (e8 : e 8 = pt g8 0) (e9 : e 9 = pt g9 0) (hk80 : k < 80) (hw : SC w0 w S g cur b (.slice a6 sn.length c6) sn)
  (X8 : hp w g8 = some (.cells (BE d).toArray 38 (0, 0))) (X9 : hp w g9 = some (.cells #[.slice am 4 cm] 32 (0, 0))) (hm : D AH S w [.slice am 4 cm] (view b d))
  (hd : CG d = true) (hok : b.Ok) (hdk : xs[k]? = some d) (hs : sn.length = k) (hr : b.wr = Ot (xs.take k) sn) (hk1 : d.kind = 1) (hT : sn ++ B9 b (xs.drop k) = T) (hN : k + (Eg b (xs.drop k)).2 = N) :
  Ae (EA e w) Q := by
 have hn := hx0.n
 have hlt : k < xs.length := (List.getElem?_eq_some_iff.1 hdk).1
 have y8 := Ar X8
 have y9 := Ar X9
 have hlen : (xs.take k).length = k := by simp; omega
 have hsl : ∀ w, sl P 23 (.slice a xs.length c) none (some (i64 k)) none w = some (.slice a k c, w) := fun w => by
  simpa using PN (P := P) HO (a := a) (len := xs.length) (cap := c) (n := (k : Int)) (by omega) (by omega) w
 have E0 : Ext w0 w := hw.2.2.2.2.2.2.2
 have zE0 := E0.size
 try simp only [qz] at zE0
 have hS := hw.2.2.2.2.2.2.1
 have hown := hw.2.1
 have hxk : D AP Sx w0 [.slice a k c] (xs.take k) := hx0.take (by omega)
 have hsn := hown.d (mx := 5864062014805) (by omega)
 have hS2 : ∀ y, (S y ∨ y ∈ (Av (.slice a6 sn.length c6)).toList) → y < w.heap.size := by
  rintro y (h | h)
  ·exact (hS y h).2
  ·obtain ⟨_, _, _, hh⟩ := hown
   exact (hh y h).2
 have hle : sn.length = (xs.take k).length := by omega
 refine HS _ _ ?_
 simp (disch := first | exact xD | fail) [-Option.bind_some, qs, -Aa, -Ab, e0, e6, e7, e8, hsl, X8]
 have W1 := fun w' (h : Ext w w') => GO (t := d.tag) hle (fun y hy => Nat.lt_of_lt_of_le (hS2 y hy) h.size) (hxk.ext (E0.tr h)) (hsn.ext h)
 have Rw := Rl hr hs hlt d.tag
 constructor
 ·refine Ae.mono (W1 _ xE) ?_
  rintro ⟨_, w1⟩ ⟨h, E1⟩
  have zE1 := E1.size
  try simp only [qz] at zE1
  dsimp only at E1
  have F1 : Ext w w1 := xE
  have zF1 := F1.size
  have zE1' := E1.size
  try simp only [Ad] at zE1'
  rcases h with ⟨h1, rfl⟩ | ⟨p, a3, c3, h1, h2, rfl, h4⟩
  ·have hf : (Bj b.wr d.tag).isSome = false := by
    rcases Rw with ⟨r1, _⟩ | ⟨x, q, _, _, r3⟩
    ·rw [r1]; rfl
    ·rw [h1] at r3; cases r3
   simp (disch := first | exact xD | fail) [-Option.bind_some, qs, -Aa, -Ab, qm, X8, E1.Ai]
   refine Kp (am := am) (cm := cm) (g8 := g8) (g9 := g9) IH HE (by exact e0) (by exact e4) (by exact e6) (by exact e7) (by exact e8) (by exact e9) (by rw [hf]; rfl) hk80 (hw.ext xE) (by first | assumption | rfl | (simp (disch := first | exact xD | fail) [-Option.bind_some, qs, -Aa, -Ab, X8, E1.Ai]; done)) (by first | assumption | rfl | (simp (disch := first | exact xD | fail) [-Option.bind_some, qs, -Aa, -Ab, X9, E1.Ai]; done)) (hm.ext xE) hd hok hdk hs hr hk1 hT hN
  ·have hf : (Bj b.wr d.tag).isSome = true := by
    rcases Rw with ⟨_, _, r3⟩ | ⟨x, q, r1, _, _⟩
    ·rw [h1] at r3; cases r3
    ·rw [r1]; rfl
   simp (disch := first | exact xD | fail) [-Option.bind_some, qs, -Aa, -Ab, qm, X8, E1.Ai]
   refine Kp (am := am) (cm := cm) (g8 := g8) (g9 := g9) IH HE (by exact e0) (by exact e4) (by exact e6) (by exact e7) (by exact e8) (by exact e9) (by rw [hf]; rfl) hk80 (hw.ext xE) (by first | assumption | rfl | (simp (disch := first | exact xD | fail) [-Option.bind_some, qs, -Aa, -Ab, X8, E1.Ai]; done)) (by first | assumption | rfl | (simp (disch := first | exact xD | fail) [-Option.bind_some, qs, -Aa, -Ab, X9, E1.Ai]; done)) (hm.ext xE) hd hok hdk hs hr hk1 hT hN
 ·refine Ae.mono (W1 _ xE) ?_
  rintro ⟨_, w1⟩ ⟨h, E1⟩
  have zE1 := E1.size
  try simp only [qz] at zE1
  dsimp only at E1
  have F1 : Ext w w1 := xE
  have zF1 := F1.size
  have zE1' := E1.size
  try simp only [World.size_alloc, Ad] at zE1'
  have X5 : hp w1 w.heap.size = some (.cells #[.slice none 0 0] 32 (0, 0)) := (E1.Ai (by simp)).trans (by first | assumption | rfl | (simp (disch := first | exact xD | fail) [-Option.bind_some, qs, -Aa, -Ab]; done))
  rcases h with ⟨h1, rfl⟩ | ⟨p, a3, c3, h1, h2, rfl, h4⟩
  ·have hf : (Bj b.wr d.tag).isSome = false := by
    rcases Rw with ⟨r1, _⟩ | ⟨x, q, _, _, r3⟩
    ·rw [r1]; rfl
    ·rw [h1] at r3; cases r3
   simp (disch := first | exact xD | fail) [-Option.bind_some, qs, -Aa, -Ab, qm, X5]
   refine Kp (am := am) (cm := cm) (g8 := g8) (g9 := g9) IH HE (by exact e0) (by exact e4) (by exact e6) (by exact e7) (by exact e8) (by exact e9) (by rw [hf]; rfl) hk80 (hw.ext xE) (by first | assumption | rfl | (simp (disch := first | exact xD | fail) [-Option.bind_some, qs, -Aa, -Ab, X8, E1.Ai]; done)) (by first | assumption | rfl | (simp (disch := first | exact xD | fail) [-Option.bind_some, qs, -Aa, -Ab, X9, E1.Ai]; done)) (hm.ext xE) hd hok hdk hs hr hk1 hT hN
  ·have hf : (Bj b.wr d.tag).isSome = true := by
    rcases Rw with ⟨_, _, r3⟩ | ⟨x, q, r1, _, _⟩
    ·rw [h1] at r3; cases r3
    ·rw [r1]; rfl
   simp (disch := first | exact xD | fail) [-Option.bind_some, qs, -Aa, -Ab, qm, X5]
   refine Kp (am := am) (cm := cm) (g8 := g8) (g9 := g9) IH HE (by exact e0) (by exact e4) (by exact e6) (by exact e7) (by exact e8) (by exact e9) (by rw [hf]; rfl) hk80 (hw.ext xE) (by first | assumption | rfl | (simp (disch := first | exact xD | fail) [-Option.bind_some, qs, -Aa, -Ab, X8, E1.Ai]; done)) (by first | assumption | rfl | (simp (disch := first | exact xD | fail) [-Option.bind_some, qs, -Aa, -Ab, X9, E1.Ai]; done)) (hm.ext xE) hd hok hdk hs hr hk1 hT hN
end
section
variable {Q : Value × World → Prop} {w0 wq w : World} {xs : List Done} {a a6 am a12 : Option Addr} {c g c4 n6 c6 cm k N g8 g9 g12 c12 : Nat} {T sn : List (List Tag)} {S Sx S12 : Nat → Prop} {cur : List Value} {b b' : Book} {e : Env} {d : Done} {m p : List Tag} {ok : Bool} {v12 : Value}
theorem Kq (IH : KT Q w0 xs a c g c4 T N (k + 1)) (HE : Pu Q w0 T N) (hx0 : D AP Sx w0 [.slice a xs.length c] xs) (hcap : xs.length ≤ c) (e0 : e 0 = .slice a xs.length c) (e4 : e 4 = .slice (some ⟨g, 0, none⟩) 4 c4) (e6 : e 6 = .slice a6 sn.length c6) (e7 : e 7 = i64 k) (e8 : e 8 = pt g8 0) (e9 : e 9 = pt g9 0) (hk80 : k < 80) (hw : SC w0 wq S g cur b (.slice a6 sn.length c6) sn) (Eq : Ext wq w) (hq8 : wq.heap.size ≤ g8) (hq9 : wq.heap.size ≤ g9) (h89 : g8 ≠ g9)
  (X8 : hp w g8 = some (.cells (BE d).toArray 38 (0, 0))) (X9 : hp w g9 = some (.cells #[.slice am 4 cm] 32 (0, 0))) (hm : D AH S wq [.slice am 4 cm] (view b d))
  (e12 : e 12 = pt g12 0) (h12 : (Gk (xs.take k) sn d.tag = none ∧ e 13 = .bool false) ∨ ∃ p, Gk (xs.take k) sn d.tag = some p ∧ e 13 = .bool true ∧ p ∈ sn ∧ D AH S12 w [.slice a12 p.length c12] p ∧ hp w g12 = some (.cells #[.slice a12 p.length c12] 32 (0, 0)))
  (hd : CG d = true) (hok : b.Ok) (hdk : xs[k]? = some d) (hs : sn.length = k) (hr : b.wr = Ot (xs.take k) sn) (hk1 : ¬ d.kind = 1) (hless : AF d.tag ((view b d).getD d.key.toNat ⟨0, 0⟩) = false) (hpos : 0 < d.tag.t) (hT : sn ++ B9 b (xs.drop k) = T) (hN : k + (Eg b (xs.drop k)).2 = N) :
  Ae (CY e w) Q := by
 rw [Iu]
 have hn := hx0.n
 have hlt : k < xs.length := (List.getElem?_eq_some_iff.1 hdk).1
 have y8 := Ar X8
 have y9 := Ar X9
 have hvl := Gj hok hd
 obtain ⟨⟨hs0, hs3⟩, _, ⟨hy0, hy3⟩, _⟩ := B6.1 hd
 have hsl : ∀ w, sl P 23 (.slice a xs.length c) none (some (i64 k)) none w = some (.slice a k c, w) := fun w => by
  simpa using PN (P := P) HO (a := a) (len := xs.length) (cap := c) (n := (k : Int)) (by omega) (by omega) w
 have E0 : Ext w0 w := hw.2.2.2.2.2.2.2.tr Eq
 have zE0 := E0.size
 try simp only [qz] at zE0
 have hxk : D AP Sx w [.slice a k c] (xs.take k) := (hx0.take (by omega)).ext E0
 have hgq := hw.2.2.2.2.2.1
 have hSq := hw.2.2.2.2.2.2.1
 have hownq := hw.2.1
 have zq0 := hw.2.2.2.2.2.2.2.size
 have zq := Eq.size
 have hk2 : (d.kind == 1) = false := by simpa using hk1
 have hst : AZ b d = (match Bj b.wr d.tag with
   | none => none
   | some (s, k, past) => if k != d.key || ((d.kind == 3) && (s != d.Ao)) then none else some ⟨b.vs.set d.Ao.toNat (Bm (AQ (view b d) past) d.key.toNat d.tag), b.wr⟩) := by
  unfold AZ
  rw [hk2, hless, if_neg (by decide), if_neg (by decide), if_pos (by simpa using hpos)]
  rfl
 rcases Rl hr hs hlt d.tag with ⟨r1, r2, r3⟩ | ⟨x, p, r1, r2, r3⟩
 ·rw [r1] at hst
  rcases h12 with ⟨_, e13⟩ | ⟨p, h, _⟩
  ·simp (disch := first | exact xD | fail) [-Option.bind_some, -Aa, -Ab, e0, e6, e7, e8, e13]
   exact Ez HE ((hw.ext Eq).ext xE) hs hdk hst hT hN
  ·rw [r3] at h; cases h
 ·rw [r1] at hst
  rcases h12 with ⟨h, _⟩ | ⟨p', h, e13, hpm, D12, X12⟩
  ·rw [r3] at h; cases h
  ·obtain rfl : p = p' := by rw [r3] at h; exact Option.some.inj h
   have y12 := Ar X12
   have hpl : p.length = 4 := hok.2.2 _ (Ho r1)
   simp (disch := first | exact xD | fail) [-Option.bind_some, -Aa, -Ab, e0, e6, e7, e8, e9, e12, e13, hsl, X8]
   refine Ae.bind (OG (d0 := d) (hxk.ext xE)) ?_
   rintro ⟨_, w1⟩ ⟨rfl, E1⟩
   have zE1 := E1.size
   try simp only [qz] at zE1
   rw [r2]
   try dsimp only at E1
   have zE1 := E1.size
   have F1 : Ext w w1 := xE
   cases hkey : (x.key == d.key)
   ·have hkey' : (x.key != d.key) = true := by simp [bne, hkey]
    simp only [hkey', Bool.true_or, if_true] at hst
    simp (disch := first | exact xD | fail) [-Option.bind_some, -Aa, -Ab, X8, hkey, E1.Ai]
    exact Ez HE ((hw.ext Eq).ext xE) hs hdk hst hT hN
   ·have hkey' : (x.key != d.key) = false := by simp [bne, hkey]
    simp only [hkey', Bool.false_or] at hst
    have hmv : D AH S wq [.slice am (view b d).length cm] (view b d) := by rw [hvl]; exact hm
    have J := fun w' (h : Ext w w') => HH (xs := view b d) (ys := p) hvl hpl ((hmv.ext Eq).ext h) (D12.ext h)
    simp only [hvl] at J
    have hkn : ((d.key.toNat : Nat) : Int) = d.key := Int.toNat_of_nonneg hy0
    cases hk3 : (d.kind == 3)
    ·simp only [hk3, Bool.false_and, Bool.false_eq_true, if_false] at hst
     simp (disch := first | exact xD | fail) [-Option.bind_some, -Aa, -Ab, X8, X9, X12, hkey, hk3, E1.Ai]
     refine Ae.bind (J _ xE) ?_
     rintro ⟨_, w2⟩ ⟨a1, c1, rfl, o1', E2⟩
     try dsimp only at a1 c1 o1' E2
     have zE2 := E2.size
     try simp only [qz] at zE2
     have o1d := o1'.d
     have Wt := FK (k := d.key.toNat) (t := d.tag) (w := w2) (by rw [DM _ _ (by omega)]; omega) o1d
     rw [hkn] at Wt
     have zF2 := (F1.dw.tr E2).size
     simp (disch := first | exact xD | fail) [-Option.bind_some, -Aa, -Ab, X8, E1.Ai, E2.Ai]
     refine Ae.bind (Wt) ?_
     rintro ⟨_, w3⟩ ⟨a3, c3, rfl, o3, E3⟩
     try dsimp only at a3 c3 o3 E3
     have zE3 := E3.size
     try simp only [qz] at zE3
     have F3 : Ext w w3 := xE
     simp (disch := first | exact xD | fail) [-Option.bind_some, -Aa, -Ab, qm, X9, E1.Ai, E2.Ai, E3.Ai]
     have o3d := o3.d
     refine NU (cur := cur) (S := fun x => S x ∨ In w2.heap.size w3.heap.size x) (g8 := g8) (g9 := g9) (m := Bm (AQ (view b d) p) d.key.toNat d.tag) (am := a3) (cm := c3) (d := d) (b' := ⟨b.vs.set d.Ao.toNat (Bm (AQ (view b d) p) d.key.toNat d.tag), b.wr⟩) IH (by exact e0) (by exact e4) (by exact e6) (by exact e7) (by exact e8) (by exact e9) hk80 ?_ (by first | assumption | rfl | (simp (disch := first | exact xD | fail) [-Option.bind_some, qs, -Aa, -Ab, X8, E1.Ai, E2.Ai, E3.Ai]; done)) (by first | assumption | rfl | (simp (disch := first | exact xD | fail) [-Option.bind_some, -Aa, -Ab, X9, E1.Ai, E2.Ai, E3.Ai]; done)) ?_ hd hok hdk hs hr rfl hst hk1 ⟨by omega, by omega⟩ hT hN
     ·refine (hw.ext (Ext.set (Eq.tr F3) (k := g9) hq9 _)).wide (fun x h => .inl h) ?_ ?_ ?_
      ·rintro y (h | h)
       ·have := hSq y h
        simp only [size_setRow]
        omega
       ·simp only [In] at h
        simp only [size_setRow]
        omega
      ·rintro (h | h)
       ·exact hw.2.2.1 h
       ·simp only [In] at h
        omega
      ·rintro y hy (h | h)
       ·obtain ⟨_, _, _, hh⟩ := hownq
        exact (hh y hy).1 h
       ·obtain ⟨_, _, _, hh⟩ := hownq
        have := (hh y hy).2
        simp only [In] at h
        omega
     ·exact (o3d.Aj (fun y hy _ => Ac (by simp only [In] at hy; omega))).wide (fun y hy _ => .inr hy)
    ·cases hse : (x.Ao == d.Ao)
     ·have hse' : (x.Ao != d.Ao) = true := by simp [bne, hse]
      simp only [hk3, hse', Bool.and_self, if_true] at hst
      simp (disch := first | exact xD | fail) [-Option.bind_some, -Aa, -Ab, hsl, X8, hkey, hk3, E1.Ai]
      refine Ae.bind (ID (d0 := d) (hxk.ext xE)) ?_
      rintro ⟨_, w1a⟩ ⟨rfl, E1a⟩
      have zE1a := E1a.size
      try simp only [] at zE1a
      rw [r2]
      try dsimp only at E1a
      have F1a : Ext w w1a := xE
      simp (disch := first | exact xD | fail) [-Option.bind_some, -Aa, -Ab, hse]
      exact Ez HE ((hw.ext Eq).ext xE) hs hdk hst hT hN
     ·have hse' : (x.Ao != d.Ao) = false := by simp [bne, hse]
      simp only [hk3, hse', Bool.and_false, Bool.false_eq_true, if_false] at hst
      simp (disch := first | exact xD | fail) [-Option.bind_some, -Aa, -Ab, hsl, X8, hkey, hk3, E1.Ai]
      refine Ae.bind (ID (d0 := d) (hxk.ext xE)) ?_
      rintro ⟨_, w1a⟩ ⟨rfl, E1a⟩
      have zE1a := E1a.size
      try simp only [] at zE1a
      rw [r2]
      try dsimp only at E1a
      have F1a : Ext w w1a := xE
      simp (disch := first | exact xD | fail) [-Option.bind_some, -Aa, -Ab, X8, X9, X12, hse, E1.Ai, E1a.Ai]
      refine Ae.bind (J _ xE) ?_
      rintro ⟨_, w2⟩ ⟨a1, c1, rfl, o1', E2⟩
      try dsimp only at a1 c1 o1' E2
      have zE2 := E2.size
      try simp only [qz] at zE2
      have o1d := o1'.d
      have Wt := FK (k := d.key.toNat) (t := d.tag) (w := w2) (by rw [DM _ _ (by omega)]; omega) o1d
      rw [hkn] at Wt
      have zF2 := (F1a.dw.tr E2).size
      simp (disch := first | exact xD | fail) [-Option.bind_some, -Aa, -Ab, X8, E1.Ai, E1a.Ai, E2.Ai]
      refine Ae.bind (Wt) ?_
      rintro ⟨_, w3⟩ ⟨a3, c3, rfl, o3, E3⟩
      try dsimp only at a3 c3 o3 E3
      have zE3 := E3.size
      try simp only [qz] at zE3
      have F3 : Ext w w3 := xE
      simp (disch := first | exact xD | fail) [-Option.bind_some, -Aa, -Ab, qm, X9, E1.Ai, E1a.Ai, E2.Ai, E3.Ai]
      have o3d := o3.d
      refine NU (cur := cur) (S := fun x => S x ∨ In w2.heap.size w3.heap.size x) (g8 := g8) (g9 := g9) (m := Bm (AQ (view b d) p) d.key.toNat d.tag) (am := a3) (cm := c3) (d := d) (b' := ⟨b.vs.set d.Ao.toNat (Bm (AQ (view b d) p) d.key.toNat d.tag), b.wr⟩) IH (by exact e0) (by exact e4) (by exact e6) (by exact e7) (by exact e8) (by exact e9) hk80 ?_ (by first | assumption | rfl | (simp (disch := first | exact xD | fail) [-Option.bind_some, qs, -Aa, -Ab, X8, E1.Ai, E1a.Ai, E2.Ai, E3.Ai]; done)) (by first | assumption | rfl | (simp (disch := first | exact xD | fail) [-Option.bind_some, -Aa, -Ab, X9, E1.Ai, E1a.Ai, E2.Ai, E3.Ai]; done)) ?_ hd hok hdk hs hr rfl hst hk1 ⟨by omega, by omega⟩ hT hN
      ·refine (hw.ext (Ext.set (Eq.tr F3) (k := g9) hq9 _)).wide (fun x h => .inl h) ?_ ?_ ?_
       ·rintro y (h | h)
        ·have := hSq y h
         simp only [size_setRow]
         omega
        ·simp only [In] at h
         simp only [size_setRow]
         omega
       ·rintro (h | h)
        ·exact hw.2.2.1 h
        ·simp only [In] at h
         omega
       ·rintro y hy (h | h)
        ·obtain ⟨_, _, _, hh⟩ := hownq
         exact (hh y hy).1 h
        ·obtain ⟨_, _, _, hh⟩ := hownq
         have := (hh y hy).2
         simp only [In] at h
         omega
      ·exact (o3d.Aj (fun y hy _ => Ac (by simp only [In] at hy; omega))).wide (fun y hy _ => .inr hy)
end
section
variable {Q : Value × World → Prop} {w0 wq w : World} {xs : List Done} {a a6 am a12 : Option Addr} {c g c4 n6 c6 cm k N g8 g9 g12 c12 : Nat} {T sn : List (List Tag)} {S Sx S12 : Nat → Prop} {cur : List Value} {b b' : Book} {e : Env} {d : Done} {m p : List Tag} {ok : Bool} {v12 : Value}
theorem SJ (IH : KT Q w0 xs a c g c4 T N (k + 1)) (HE : Pu Q w0 T N) (hx0 : D AP Sx w0 [.slice a xs.length c] xs) (hcap : xs.length ≤ c) (e0 : e 0 = .slice a xs.length c) (e4 : e 4 = .slice (some ⟨g, 0, none⟩) 4 c4) (e6 : e 6 = .slice a6 sn.length c6) (e7 : e 7 = i64 k) (e8 : e 8 = pt g8 0) (e9 : e 9 = pt g9 0) (hk80 : k < 80) (hw : SC w0 wq S g cur b (.slice a6 sn.length c6) sn) (Eq : Ext wq w) (hq8 : wq.heap.size ≤ g8) (hq9 : wq.heap.size ≤ g9) (h89 : g8 ≠ g9)
  (X8 : hp w g8 = some (.cells (BE d).toArray 38 (0, 0))) (X9 : hp w g9 = some (.cells #[.slice am 4 cm] 32 (0, 0))) (hm : D AH S wq [.slice am 4 cm] (view b d))
  (hd : CG d = true) (hok : b.Ok) (hdk : xs[k]? = some d) (hs : sn.length = k) (hr : b.wr = Ot (xs.take k) sn) (hk1 : ¬ d.kind = 1) (hless : AF d.tag ((view b d).getD d.key.toNat ⟨0, 0⟩) = false) (hpos : 0 < d.tag.t) (hT : sn ++ B9 b (xs.drop k) = T) (hN : k + (Eg b (xs.drop k)).2 = N) :
  Ae (EB e w) Q := by
 have hn := hx0.n
 have hlt : k < xs.length := (List.getElem?_eq_some_iff.1 hdk).1
 have y8 := Ar X8
 have y9 := Ar X9
 have hlen : (xs.take k).length = k := by simp; omega
 have hsl : ∀ w, sl P 23 (.slice a xs.length c) none (some (i64 k)) none w = some (.slice a k c, w) := fun w => by
  simpa using PN (P := P) HO (a := a) (len := xs.length) (cap := c) (n := (k : Int)) (by omega) (by omega) w
 have E0 : Ext w0 w := hw.2.2.2.2.2.2.2.tr Eq
 have zE0 := E0.size
 try simp only [qz] at zE0
 have hS := hw.2.2.2.2.2.2.1
 have hown := hw.2.1
 have zq := Eq.size
 have hxk : D AP Sx w0 [.slice a k c] (xs.take k) := hx0.take (by omega)
 have hsn := (hown.d (mx := 5864062014805) (by omega)).ext Eq
 have hS2 : ∀ y, (S y ∨ y ∈ (Av (.slice a6 sn.length c6)).toList) → y < w.heap.size := by
  rintro y (h | h)
  ·have := (hS y h).2
   omega
  ·obtain ⟨_, _, _, hh⟩ := hown
   have := (hh y h).2
   omega
 have hle : sn.length = (xs.take k).length := by omega
 refine HT _ _ ?_
 simp (disch := first | exact xD | fail) [-Option.bind_some, qs, -Aa, -Ab, e0, e6, e7, e8, hsl, X8]
 have W1 := fun w' (h : Ext w w') => GO (t := d.tag) hle (fun y hy => Nat.lt_of_lt_of_le (hS2 y hy) h.size) (hxk.ext (E0.tr h)) (hsn.ext h)
 constructor
 ·refine Ae.mono (W1 _ xE) ?_
  rintro ⟨_, w1⟩ ⟨h, E1⟩
  have zE1 := E1.size
  try simp only [qz] at zE1
  dsimp only at E1
  have F1 : Ext w w1 := xE
  have zF1 := F1.size
  have zE1' := E1.size
  try simp only [Ad] at zE1'
  rcases h with ⟨h1, rfl⟩ | ⟨p, a3, c3, h1, h2, rfl, h4⟩
  ·simp (disch := first | exact xD | fail) [-Option.bind_some, qs, -Aa, -Ab, qm, X8, E1.Ai]
   refine Kq (am := am) (cm := cm) (g8 := g8) (g9 := g9) (g12 := w1.heap.size) (a12 := none) (c12 := 0) (S12 := fun y => S y ∨ y ∈ (Av (.slice a6 sn.length c6)).toList) IH HE hx0 hcap (by exact e0) (by exact e4) (by exact e6) (by exact e7) (by exact e8) (by exact e9) hk80 hw (Eq.tr xE) hq8 hq9 h89 (by first | assumption | rfl | (simp (disch := first | exact xD | fail) [-Option.bind_some, qs, -Aa, -Ab, X8, E1.Ai]; done)) (by first | assumption | rfl | (simp (disch := first | exact xD | fail) [-Option.bind_some, qs, -Aa, -Ab, X9, E1.Ai]; done)) hm (by exact rfl) (.inl ⟨h1, by exact rfl⟩) hd hok hdk hs hr hk1 hless hpos hT hN
  ·have h4' := h4
   simp (disch := first | exact xD | fail) [-Option.bind_some, qs, -Aa, -Ab, qm, X8, E1.Ai]
   refine Kq (am := am) (cm := cm) (g8 := g8) (g9 := g9) (g12 := w1.heap.size) (a12 := a3) (c12 := c3) (S12 := fun y => S y ∨ y ∈ (Av (.slice a6 sn.length c6)).toList) IH HE hx0 hcap (by exact e0) (by exact e4) (by exact e6) (by exact e7) (by exact e8) (by exact e9) hk80 hw (Eq.tr xE) hq8 hq9 h89 (by first | assumption | rfl | (simp (disch := first | exact xD | fail) [-Option.bind_some, qs, -Aa, -Ab, X8, E1.Ai]; done)) (by first | assumption | rfl | (simp (disch := first | exact xD | fail) [-Option.bind_some, qs, -Aa, -Ab, X9, E1.Ai]; done)) hm (by exact rfl) (.inr ⟨p, h1, by exact rfl, h2, h4.Aj (fun y hy hl => ?_), (by first | assumption | rfl | (simp (disch := first | exact xD | fail) [-Option.bind_some, qs, -Aa, -Ab]; done))⟩) hd hok hdk hs hr hk1 hless hpos hT hN
   have := hS2 y hy
   simp (disch := (first | assumption | omega | (simp only [World.size_alloc, size_setRow, Ad] <;> omega))) only [Ag, Ac]
 ·refine Ae.mono (W1 _ xE) ?_
  rintro ⟨_, w1⟩ ⟨h, E1⟩
  have zE1 := E1.size
  try simp only [qz] at zE1
  dsimp only at E1
  have F1 : Ext w w1 := xE
  have zF1 := F1.size
  have zE1' := E1.size
  try simp only [World.size_alloc, Ad] at zE1'
  have X5 : hp w1 w.heap.size = some (.cells #[.slice none 0 0] 32 (0, 0)) := (E1.Ai (by simp)).trans (by first | assumption | rfl | (simp (disch := first | exact xD | fail) [-Option.bind_some, qs, -Aa, -Ab]; done))
  rcases h with ⟨h1, rfl⟩ | ⟨p, a3, c3, h1, h2, rfl, h4⟩
  ·simp (disch := first | exact xD | fail) [-Option.bind_some, qs, -Aa, -Ab, qm, X5]
   refine Kq (am := am) (cm := cm) (g8 := g8) (g9 := g9) (g12 := w.heap.size) (a12 := none) (c12 := 0) (S12 := fun y => S y ∨ y ∈ (Av (.slice a6 sn.length c6)).toList) IH HE hx0 hcap (by exact e0) (by exact e4) (by exact e6) (by exact e7) (by exact e8) (by exact e9) hk80 hw (Eq.tr xE) hq8 hq9 h89 (by first | assumption | rfl | (simp (disch := first | exact xD | fail) [-Option.bind_some, qs, -Aa, -Ab, X8, E1.Ai]; done)) (by first | assumption | rfl | (simp (disch := first | exact xD | fail) [-Option.bind_some, qs, -Aa, -Ab, X9, E1.Ai]; done)) hm (by exact rfl) (.inl ⟨h1, by exact rfl⟩) hd hok hdk hs hr hk1 hless hpos hT hN
  ·have h4' := h4
   simp (disch := first | exact xD | fail) [-Option.bind_some, qs, -Aa, -Ab, qm, X5]
   refine Kq (am := am) (cm := cm) (g8 := g8) (g9 := g9) (g12 := w.heap.size) (a12 := a3) (c12 := c3) (S12 := fun y => S y ∨ y ∈ (Av (.slice a6 sn.length c6)).toList) IH HE hx0 hcap (by exact e0) (by exact e4) (by exact e6) (by exact e7) (by exact e8) (by exact e9) hk80 hw (Eq.tr xE) hq8 hq9 h89 (by first | assumption | rfl | (simp (disch := first | exact xD | fail) [-Option.bind_some, qs, -Aa, -Ab, X8, E1.Ai]; done)) (by first | assumption | rfl | (simp (disch := first | exact xD | fail) [-Option.bind_some, qs, -Aa, -Ab, X9, E1.Ai]; done)) hm (by exact rfl) (.inr ⟨p, h1, by exact rfl, h2, h4.Aj (fun y hy hl => ?_), (by first | assumption | rfl | (simp (disch := first | exact xD | fail) [-Option.bind_some, qs, -Aa, -Ab, E1.Ai]; done))⟩) hd hok hdk hs hr hk1 hless hpos hT hN
   have := hS2 y hy
   simp (disch := (first | assumption | omega | (simp only [World.size_alloc, size_setRow, Ad] <;> omega))) only [Ac]
end
section
variable {Q : Value × World → Prop} {w0 : World} {xs : List Done} {a : Option Addr} {c g c4 N : Nat} {T : List (List Tag)} {Sx : Nat → Prop}
theorem SK (HE : Pu Q w0 T N) (hx0 : D AP Sx w0 [.slice a xs.length c] xs) (hcap : xs.length ≤ c) (hf : CT xs = true) : ∀ (dd k : Nat), k + dd = xs.length → KT Q w0 xs a c g c4 T N k := by
 obtain ⟨hall, hl80⟩ := Hl hf
 have hn := hx0.n
 intro dd
 induction dd with
 | zero =>
  intro k hd e w S cur b a6 n6 c6 sn e0 e4 e6 e7 hn6 hw hok hs hr hT hN
  subst hn6
  rw [E7]
  obtain rfl : k = xs.length := by omega
  rw [List.drop_eq_nil_of_le (by omega)] at hT hN
  have hT' : sn = T := by rw [← hT]; simp [B9]
  have hN' : xs.length = N := by rw [← hN]; rfl
  subst hT'
  have := HE _ _ _ _ _ _ _ hw
  rw [← hN'] at this
  simp (disch := first | exact xD | fail) [-Option.bind_some, -Aa, -Ab, e0, e6, e7]
  exact this
 | succ dd ih =>
  intro k hd e w S cur b a6 n6 c6 sn e0 e4 e6 e7 hn6 hw hok hs hr hT hN
  subst hn6
  have IH := ih (k + 1) (by omega)
  rw [E7]
  have hlt : k < xs.length := by omega
  obtain ⟨x, hx, hdx⟩ := Ak hlt
  have hxo : CG x = true := List.all_eq_true.1 hall x (List.mem_of_getElem? hx)
  have hw' := hw
  obtain ⟨⟨X1, hc4, hvs⟩, hown, hSg, hbg, hg0', hgl, hSl, E0⟩ := hw
  have zE0 := E0.size
  try simp only [qz] at zE0
  obtain ⟨b1, o1, cs1, rfl, A1, D1, _, l1⟩ := (hx0.ext E0).at (by decide) hx
  obtain rfl := D.done.1 D1
  have p0 := A1 0 _ rfl
  have p1 := A1 1 _ rfl
  have p2 := A1 2 _ rfl
  have p3 := A1 3 _ rfl
  have p4 := A1 4 _ rfl
  simp only [Nat.add_zero] at p0 p1 p2 p3 p4
  simp only [Ey] at p0 p1 p2 p3 p4
  obtain ⟨⟨hs0, hs3⟩, _, ⟨hy0, hy3⟩, _⟩ := B6.1 hxo
  have hs4 : x.Ao < 4 := by omega
  have hy4 : x.key < 4 := by omega
  have hvl := Gj hok hxo
  obtain ⟨av, cv, hcell, hD⟩ := hvs _ _ (Je hok hxo)
  rw [hvl] at hcell hD
  have q0 : nth cur x.Ao.toNat = some (.slice av 4 cv) := by rw [← BG]; exact hcell
  cases hk1 : (x.kind == 1)
  ·have hk1' : ¬ x.kind = 1 := by simpa using hk1
   have hlt2 : x.key.toNat < (view b x).length := by omega
   obtain ⟨y, hy, _⟩ := Ak hlt2
   have hgd : (view b x).getD x.key.toNat ⟨0, 0⟩ = y := by rw [List.getD_eq_getElem?_getD, hy]; rfl
   obtain ⟨b2, o2, cs2, rfl, A2, D2, hSb2, l2⟩ := hD.at (by decide) hy
   obtain rfl := D.tag.1 D2
   have u0 := A2 0 _ rfl
   have u1 := A2 1 _ rfl
   simp only [DK, Nat.add_zero] at u0 u1
   have hst : AZ b x = if AF x.tag y then none else if decide (0 < x.tag.t) then (match Bj b.wr x.tag with
    | none => none
    | some (s, k, past) => if k != x.key || ((x.kind == 3) && (s != x.Ao)) then none else some ⟨b.vs.set x.Ao.toNat (Bm (AQ (view b x) past) x.key.toNat x.tag), b.wr⟩) else some b := by
    unfold AZ
    rw [hk1, hgd]
    rfl
   simp (disch := first | exact xD | fail) [-Option.bind_some, qs, -Aa, -Ab, qm, e0, e4, e6, e7, hlt, Cf, OV, EN, X1, q0, hk1, p0, p1, p2, p3, p4, u0, u1]
   refine Ae.bind (AL x.tag y _) ?_
   rintro ⟨_, w1⟩ ⟨rfl, E1⟩
   try dsimp only at E1
   have zE1 := E1.size
   try simp only [qz] at zE1
   have F1 : Ext w w1 := xE
   cases hless : AF x.tag y
   ·rw [hless] at hst
    simp (disch := first | exact xD | fail) [-Option.bind_some, qs, -Aa, -Ab, E1.Ai]
    by_cases hpos : 0 < x.tag.t
    ·simp (disch := first | exact xD | fail) [-Option.bind_some, -Aa, -Ab, hpos]
     refine SJ (am := some ⟨b2, o2, none⟩) (cm := cv) (g8 := w.heap.size) (g9 := w.heap.size + 1) (d := x) IH HE hx0 hcap (by exact e0) (by exact e4) (by exact e6) (by exact e7) (by exact rfl) (by exact rfl) (by omega) hw' xE (by omega) (by omega) (by omega) (by first | assumption | rfl | (simp (disch := first | exact xD | fail) [-Option.bind_some, qs, -Aa, -Ab, E1.Ai]; done)) (by first | assumption | rfl | (simp (disch := first | exact xD | fail) [-Option.bind_some, qs, -Aa, -Ab, E1.Ai]; done)) hD hxo hok hx hs hr hk1' (by rw [hgd]; exact hless) hpos hT hN
    ·have hpos' : decide (0 < x.tag.t) = false := by simpa using hpos
     have hst' : AZ b x = some b := by
      rw [hst, hpos']
      rfl
     have hset : b.vs.set x.Ao.toNat (view b x) = b.vs := by
      have := Je hok hxo
      apply List.ext_getElem?
      intro i
      by_cases hi : i = x.Ao.toNat
      ·subst hi
       rw [this, List.getElem?_set_self (List.getElem?_eq_some_iff.1 this).1]
      ·rw [List.getElem?_set_ne (Ne.symm hi)]
     simp (disch := first | exact xD | fail) [-Option.bind_some, -Aa, -Ab, hpos]
     have hvD : D AH S w [.slice (some ⟨b2, o2, none⟩) (view b x).length cv] (view b x) := by rw [hvl]; exact hD
     refine NU (cur := cur) (S := S) (g8 := w.heap.size) (g9 := w.heap.size + 1) (m := view b x) (am := some ⟨b2, o2, none⟩) (cm := cv) (d := x) (b' := b) IH (by exact e0) (by exact e4) (by exact e6) (by exact e7) (by exact rfl) (by exact rfl) (by omega) (hw'.ext xE) (by first | assumption | rfl | (simp (disch := first | exact xD | fail) [-Option.bind_some, qs, -Aa, -Ab, E1.Ai]; done)) (by rw [hvl]; exact (by first | assumption | rfl | (simp (disch := first | exact xD | fail) [-Option.bind_some, qs, -Aa, -Ab, E1.Ai]; done))) (hvD.ext xE) hxo hok hx hs hr (by rw [hset]) hst' hk1' ⟨by omega, by omega⟩ hT hN
   ·rw [hless] at hst
    simp (disch := first | exact xD | fail) [-Option.bind_some, -Aa, -Ab]
    exact Ez HE (hw'.ext xE) hs hx hst hT hN
  ·have hk1' : x.kind = 1 := by simpa using hk1
   simp (disch := first | exact xD | fail) [-Option.bind_some, qs, -Aa, -Ab, qm, e0, e4, e7, hlt, Cf, OV, X1, q0, hk1, p0, p1, p2, p3, p4]
   refine SI (am := av) (cm := cv) (g8 := w.heap.size) (g9 := w.heap.size + 1) (d := x) IH HE hx0 hcap (by exact e0) (by exact e4) (by exact e6) (by exact e7) (by exact rfl) (by exact rfl) (by omega) (hw'.ext xE) (by first | assumption | rfl | (simp (disch := first | exact xD | fail) [-Option.bind_some, qs, -Aa, -Ab]; done)) (by first | assumption | rfl | (simp (disch := first | exact xD | fail) [-Option.bind_some, qs, -Aa, -Ab]; done)) (hD.ext xE) hxo hok hx hs hr hk1' hT hN
end
section
variable {Q : Value × World → Prop} {w0 : World} {xs : List Done} {a : Option Addr} {c : Nat} {Sx : Nat → Prop}
theorem SL (HE : Pu Q w0 (B9 AW xs) (Eg AW xs).2) (hx0 : D AP Sx w0 [.slice a xs.length c] xs) (hcap : xs.length ≤ c) (hf : CT xs = true) : ∀ (dd k : Nat) (e : Env) (w : World) (S : Nat → Prop) (a4 : Option Addr) (c4 : Nat), k + dd = 4 → e 0 = .slice a xs.length c → e 4 = .slice a4 k c4 → e 5 = i64 k → Et AH 32 S w0.heap.size w (.slice a4 k c4) (List.replicate k (List.replicate 4 ⟨0, 0⟩)) → (∀ x, S x → w0.heap.size ≤ x ∧ x < w.heap.size) → Ext w0 w →
  Ae (CU e w) Q := by
 intro dd
 induction dd with
 | zero =>
  intro k e w S a4 c4 hd e0 e4 e5 ho hS E0
  have zE0 := E0.size
  try simp only [qz] at zE0
  obtain rfl : k = 4 := by omega
  rw [EZ]
  obtain ⟨g, c4', cur, hsl, V, hg0, hSg, hgl⟩ := ho.vw rfl (fun _ _ _ h => h.Gm) (by simp)
  simp only [List.length_replicate, Value.slice.injEq, true_and] at hsl
  obtain ⟨rfl, rfl⟩ := hsl
  simp (disch := first | exact xD | fail) [-Option.bind_some, -Aa, -Ab, e5]
  have hw : SC w0 (w.alloc (.cells #[] 32 (0, 0))) S g cur AW (.slice (some ⟨w.heap.size, 0, none⟩) 0 0) [] := by
   refine ⟨V.Aj (Ag hgl) (fun b hb hl => Ag hl) (fun b hb _ => hb), Et.UQ (by first | assumption | rfl | (simp (disch := first | exact xD | fail) [-Option.bind_some, qs, -Aa, -Ab]; done)) (fun h => by have := (hS _ h).2; omega) E0.size, hSg, ?_, hg0, by simp; omega, fun x hx => by have := hS x hx; simp; omega, xE⟩
   intro x hx
   simp only [Av, Option.toList_some, List.mem_singleton] at hx
   omega
  refine SK (g := g) (c4 := c4) (N := (Eg AW xs).2) HE hx0 hcap hf xs.length 0 (by omega) _ _ S cur AW (some ⟨w.heap.size, 0, none⟩) 0 0 [] (by exact e0) (by exact e4) (by exact rfl) (by exact rfl) rfl hw Gl rfl (by simp [AW, Ot]) rfl (by simp)
 | succ dd ih =>
  intro k e w S a4 c4 hd e0 e4 e5 ho hS E0
  have zE0 := E0.size
  try simp only [qz] at zE0
  rw [EZ]
  have hk : k < 4 := by omega
  have hk0 : (k : Int) < 4 := by omega
  have zE0' := E0.size
  simp (disch := first | exact xD | fail) [-Option.bind_some, qs, -Aa, -Ab, e4, e5, hk0]
  refine Ae.bind (FP) ?_
  rintro ⟨_, w1⟩ ⟨a1, c1, rfl, o1, E1⟩
  try dsimp only at a1 c1 o1 E1
  have zE1 := E1.size
  try simp only [qz] at zE1
  have F1 : Ext w w1 := xE
  have o1d := o1.d
  simp (disch := first | exact xD | fail) [-Option.bind_some, -Aa, -Ab]
  have hSb : ∀ x, (S x ∨ In w.heap.size w1.heap.size x) → w0.heap.size ≤ x ∧ x < w1.heap.size := by
   rintro x (h | h)
   ·have := hS x h
    omega
   ·simp only [In] at h
    omega
  have h2 : Et AH 32 (fun x => S x ∨ In w.heap.size w1.heap.size x) w0.heap.size (w1.alloc (.cells #[.slice a1 4 c1] 32 (0, 0))) (.slice a4 k c4) (List.replicate k (List.replicate 4 ⟨0, 0⟩)) := by
   have hb := ho
   obtain ⟨_, _, _, hh⟩ := hb
   refine (ho.Aj (fun b _ hl => (Ag (by omega)).trans (F1.Ai hl)) (by simp; omega)).wide (fun x h => .inl h) ?_
   rintro b hb (h | h)
   ·exact (hh b hb).1 h
   ·have := (hh b hb).2
    simp only [In] at h
    omega
  refine Ae.bind (Et.UP (P := P) (mx := 5864062014805) (ty := 58) Qj RH rfl (by decide) h2 (E' := 32) (cs := [.slice a1 4 c1]) (x := List.replicate 4 ⟨0, 0⟩) ((o1d.wide (fun b hb _ => .inr (by simpa [In] using hb))).ext xE) (by first | assumption | rfl | (simp (disch := first | exact xD | fail) [-Option.bind_some, qs, -Aa, -Ab]; done)) (fun b hb => by have := (hSb b hb).2; simp; omega) (by simp; omega) (by simp; omega) (by decide) (by decide)) ?_
  rintro ⟨_, w2⟩ ⟨a2, c2, rfl, h3, h4, h5⟩
  dsimp only at h3 h4
  have zh4 := h4.size
  simp only [World.size_alloc] at zh4
  simp only [List.length_replicate] at h3
  simp (disch := first | exact xD | fail) [-Option.bind_some, -Aa, -Ab]
  refine ih (k + 1) _ w2 _ a2 c2 (by omega) (by exact e0) (by exact rfl) (by exact (congrArg i64 (by omega) : i64 ((k : Int) + 1) = i64 ((k + 1 : Nat) : Int))) (by rw [List.replicate_succ']; exact h3) (fun x hx => by have := hSb x hx; omega) ?_
  exact Ext.Vz (E0.tr (F1.al _)) h4 (fun x hx => ho.Ai x (by simp [hx]))
end
theorem HI {a : Option Addr} {n c : Nat} {Sx : Nat → Prop} {xs : List Done} {w : World} (ha : D AP Sx w [.slice a n c] xs) (hc : n ≤ c) (hf : CT xs = true) :
  Ae (EV P 31 #[.slice a n c] w) fun r => ∃ a2 c2 S, r.1 = .tuple #[.slice a2 (B9 AW xs).length c2, i64 (Eg AW xs).2] ∧ D NQ S r.2 [.slice a2 (B9 AW xs).length c2] (B9 AW xs) ∧ (∀ x, S x → w.heap.size ≤ x ∧ x < r.2.heap.size) ∧ Ext w r.2 := by
 obtain ⟨rfl, hm, _⟩ := ha.n
 refine Ae.post fun Q hQ => ?_
 refine Ae.enter plain mixed (Ky _ _) (by kernel_rfl) (n := 1) (by kernel_rfl) rfl ?_
 simp (disch := first | exact xD | fail) [-Option.bind_some, -Aa, -Ab]
 refine SL (w0 := w) (c := c) ?_ ha hc hf 4 0 _ _ (fun _ => False) (some ⟨w.heap.size, 0, none⟩) 0 (by omega) (by exact rfl) (by exact rfl) (by exact rfl) (Et.UQ (by first | assumption | rfl | (simp (disch := first | exact xD | fail) [-Option.bind_some, qs, -Aa, -Ab]; done)) id (Nat.le_refl _)) (fun _ h => h.elim) xE
 intro w' S g cur b a6 c6 hw
 obtain ⟨V, ho, hSg, hbg, hg0, hgl, hSl, E0⟩ := hw
 have zE0 := E0.size
 try simp only [qz] at zE0
 have hle := Ra xs AW
 refine hQ _ ⟨a6, c6, _, rfl, ho.d (by have := (Hl hf).2; omega), ?_, E0⟩
 rintro x (h | h)
 ·exact hSl x h
 ·exact ⟨ho.Ai x h, by obtain ⟨_, _, _, hh⟩ := ho; exact (hh x h).2⟩
theorem IF {xs : List Done} : Nh xs = true ↔ CT xs = true ∧ (Eg AW xs).2 = xs.length := by simp [Nh]
theorem OH {a : Option Addr} {n c : Nat} {Sx : Nat → Prop} {xs : List Done} {w : World} (ha : D AP Sx w [.slice a n c] xs) (hc : n ≤ c) :
  Ae (EV P 33 #[.slice a n c] w) fun r => r.1 = .bool (Nh xs) ∧ Ext w r.2 := by
 have hn := ha.n
 refine Ae.post fun Q hQ => ?_
 refine Ae.enter plain mixed (ND _ _) (by kernel_rfl) (n := 1) (by kernel_rfl) rfl ?_
 simp (disch := first | exact xD | fail) [-Option.bind_some, -Aa, -Ab]
 refine Ae.bind (Mq ha) ?_
 rintro ⟨_, w1⟩ ⟨rfl, E1⟩
 try dsimp only at E1
 have zE1 := E1.size
 try simp only [qz] at zE1
 cases hf : CT xs
 ·simp (disch := first | exact xD | fail) [-Option.bind_some, -Aa, -Ab]
  exact hQ _ ⟨by simp [Nh, hf], xE⟩
 ·simp (disch := first | exact xD | fail) [-Option.bind_some, -Aa, -Ab]
  refine Ae.bind (HI (ha.ext xE) hc hf) ?_
  rintro ⟨_, w2⟩ ⟨a2, c2, S, rfl, h2, h3, E2⟩
  try dsimp only at a2 c2 S h2 h3 E2
  have zE2 := E2.size
  try simp only [qz] at zE2
  have hq : (((Eg AW xs).2 : Int) == (n : Int)) = decide ((Eg AW xs).2 = xs.length) := by rw [Bool.eq_iff_iff]; simp only [beq_iff_eq, decide_eq_true_eq]; omega
  simp (disch := first | exact xD | fail) [-Option.bind_some, qs, -Aa, -Ab, hq]
  exact hQ _ ⟨by simp only [Nh, hf, Bool.true_and], xE⟩
theorem J9 {a a5 : Option Addr} {c c5 g4 g7 : Nat} {S Sx : Nat → Prop} {xs : List Done} {sn : List (List Tag)} {s : Int} {w0 : World} {T : List Tag} (hl : sn.length = xs.length) (hg4 : w0.heap.size ≤ g4) (hg7 : w0.heap.size ≤ g7) (h47 : g4 ≠ g7) (ha : D AP Sx w0 [.slice a xs.length c] xs) (hS : ∀ x, S x → w0.heap.size ≤ x ∧ x ≠ g4 ∧ x ≠ g7) :
  ∀ (d k : Nat) (e : Env) (w : World) (acc : List Tag) (aa : Option Addr) (ca : Nat), k + d = xs.length → e 0 = .slice a xs.length c → e 1 = i64 s → e 4 = pt g4 0 → e 5 = .slice a5 sn.length c5 → e 7 = pt g7 0 → e 8 = i64 k → (∃ v, hp w g4 = some (.cells #[v] 32 (0, 0))) → hp w g7 = some (.cells #[.slice aa acc.length ca] 32 (0, 0)) → D AH S w [.slice aa acc.length ca] acc → D NQ S w [.slice a5 sn.length c5] sn → Ext w0 w → Hk (xs.drop k) (sn.drop k) s acc = T →
  Ae (Cv e w) fun r => ∃ a2 c2, r.1 = .agg #[.slice a2 T.length c2] ∧ D AH S r.2 [.slice a2 T.length c2] T ∧ Ext w0 r.2 := by
 have hn := ha.n
 intro d
 induction d with
 | zero =>
  intro k e w acc aa ca hd e0 e1 e4 e5 e7 e8 X4 X7 hacc hs E0 hT
  have zE0 := E0.size
  try simp only [qz] at zE0
  rw [Em]
  obtain rfl : k = xs.length := by omega
  rw [List.drop_eq_nil_of_le (by omega)] at hT
  have hT' : acc = T := hT
  subst hT'
  obtain ⟨v, X4⟩ := X4
  have y4 := Ar X4
  have y7 := Ar X7
  refine Ae.post fun Q hQ => ?_
  simp (disch := first | exact xD | fail) [-Option.bind_some, -Aa, -Ab, qm, e0, e4, e7, e8, X4, X7]
  refine hQ _ ⟨aa, ca, rfl, hacc.Aj (fun b hb _ => Ac (hS b hb).2.1), xE⟩
 | succ d ih =>
  intro k e w acc aa ca hd e0 e1 e4 e5 e7 e8 X4 X7 hacc hs E0 hT
  have zE0 := E0.size
  try simp only [qz] at zE0
  rw [Em]
  have X4' := X4
  obtain ⟨v, X4⟩ := X4
  have y4 := Ar X4
  have y7 := Ar X7
  have hlt : k < xs.length := by omega
  obtain ⟨x, hx, hdx⟩ := Ak hlt
  obtain ⟨p, hp', hdp⟩ := Ak (l := sn) (k := k) (by omega)
  rw [hdx, hdp, Hk] at hT
  obtain ⟨b1, o1, cs1, rfl, A1, D1, _, l1⟩ := (ha.ext E0).at (by decide) hx
  obtain rfl := D.done.1 D1
  have p0 := A1 0 _ rfl
  have p1 := A1 1 _ rfl
  have p2 := A1 2 _ rfl
  have p3 := A1 3 _ rfl
  have p4 := A1 4 _ rfl
  simp only [Nat.add_zero] at p0 p1 p2 p3 p4
  simp only [Ey] at p0 p1 p2 p3 p4
  obtain ⟨b2, o2, cs2, rfl, A2, D2, _, l2⟩ := hs.at (by decide) hp'
  obtain ⟨a3, c3, rfl, D3⟩ := D2.Gm
  have q0 : Bo (hp w b2) (o2 + k) = some (.slice a3 p.length c3) := by have := A2 0 _ rfl; simpa only [OD, Nat.mul_one, Nat.add_zero] using this
  have hlt2 : k < sn.length := by omega
  cases h1 : (x.Ao == s)
  ·rw [h1, Bool.false_and, if_neg (by decide)] at hT
   simp (disch := first | exact xD | fail) [-Option.bind_some, -Aa, -Ab, e0, e1, e8, hlt, Cf, h1, p0]
   rw [CA]
   simp (disch := first | exact xD | fail) [-Option.bind_some, qs, -Aa, -Ab, e8]
   exact ih (k + 1) _ _ acc aa ca (by omega) (by exact e0) (by exact e1) (by exact e4) (by exact e5) (by exact e7) (by exact (congrArg i64 (by omega) : i64 ((k : Int) + 1) = i64 ((k + 1 : Nat) : Int))) X4' X7 hacc hs E0 hT
  ·cases h2 : (x.kind != 1)
   ·rw [h1, h2, Bool.and_false, if_neg (by decide)] at hT
    have h2' : (x.kind == 1) = true := by simpa [bne] using h2
    simp (disch := first | exact xD | fail) [-Option.bind_some, -Aa, -Ab, e0, e1, e8, hlt, Cf, h1, h2, p0, p1]
    rw [CA]
    simp (disch := first | exact xD | fail) [-Option.bind_some, qs, -Aa, -Ab, e8]
    exact ih (k + 1) _ _ acc aa ca (by omega) (by exact e0) (by exact e1) (by exact e4) (by exact e5) (by exact e7) (by exact (congrArg i64 (by omega) : i64 ((k : Int) + 1) = i64 ((k + 1 : Nat) : Int))) X4' X7 hacc hs E0 hT
   ·rw [h1, h2, Bool.and_self, if_pos rfl] at hT
    simp (disch := first | exact xD | fail) [-Option.bind_some, -Aa, -Ab, qm, e0, e1, e5, e7, e8, hlt, Cf, OV, h1, h2, q0, X7, p0, p1]
    rw [CA]
    simp (disch := first | exact xD | fail) [-Option.bind_some, qs, -Aa, -Ab, e8]
    have kk : ∀ b, S b → b < w.heap.size → hp (w.setRow g7 #[.slice a3 p.length c3]) b = hp w b := fun b hb _ => Ac (hS b hb).2.2
    exact ih (k + 1) _ _ p a3 c3 (by omega) (by exact e0) (by exact e1) (by exact e4) (by exact e5) (by exact e7) (by exact (congrArg i64 (by omega) : i64 ((k : Int) + 1) = i64 ((k + 1 : Nat) : Int))) ⟨v, (Ac h47).trans X4⟩ (by first | assumption | rfl | (simp (disch := first | exact xD | fail) [-Option.bind_some, -Aa, -Ab, X7]; done)) (D3.Aj kk) (hs.Aj kk) xE hT
theorem GB {a : Option Addr} {n c : Nat} {Sx : Nat → Prop} {xs : List Done} {s : Int} {w : World} (ha : D AP Sx w [.slice a n c] xs) (hc : n ≤ c) :
  Ae (EV P 16 #[.slice a n c, i64 s] w) fun r => ∃ a2 c2 S, r.1 = .agg #[.slice a2 (BO xs s).length c2] ∧ D AH S r.2 [.slice a2 (BO xs s).length c2] (BO xs s) ∧ (∀ x, S x → w.heap.size ≤ x) ∧ Ext w r.2 := by
 obtain ⟨rfl, hm, _⟩ := ha.n
 refine Ae.post fun Q hQ => ?_
 refine Ae.enter plain mixed (JR _ _ _) (by kernel_rfl) (n := 2) (by kernel_rfl) rfl ?_
 simp (disch := first | exact xD | fail) [-Option.bind_some, qs, -Aa, -Ab]
 refine Ae.bind (OH (ha.ext xE) hc) ?_
 rintro ⟨_, w1⟩ ⟨rfl, E1⟩
 try dsimp only at E1
 have zE1 := E1.size
 try simp only [qz] at zE1
 have X1 : hp w1 w.heap.size = some (.cells #[.slice none 0 0] 32 (0, 0)) := (E1.Ai (by simp)).trans (by first | assumption | rfl | (simp (disch := first | exact xD | fail) [-Option.bind_some, qs, -Aa, -Ab]; done))
 cases h : Nh xs
 ·rw [show BO xs s = [] by simp [BO, h]] at hQ
  simp (disch := first | exact xD | fail) [-Option.bind_some, -Aa, -Ab, qm, X1]
  exact hQ _ ⟨none, 0, fun _ => False, rfl, D.nil _ _, fun _ h => h.elim, xE⟩
 ·obtain ⟨hf, hN⟩ := IF.1 h
  cases hin : (decide (0 ≤ s) && decide (s ≤ 3))
  ·rw [show BO xs s = [] by simp [BO, hin]] at hQ
   simp (disch := first | exact xD | fail) [-Option.bind_some, -Aa, -Ab]
   refine Ae.bind (AD s 0 3 _) ?_
   rintro ⟨_, w2⟩ h2
   try dsimp only at h2
   simp only [Prod.mk.injEq] at h2
   obtain ⟨rfl, rfl⟩ := h2
   simp (disch := first | exact xD | fail) [-Option.bind_some, -Aa, -Ab, qm, X1, hin]
   exact hQ _ ⟨none, 0, fun _ => False, rfl, D.nil _ _, fun _ h => h.elim, xE⟩
  ·have hin' := hin
   simp only [Bool.and_eq_true, decide_eq_true_eq] at hin'
   obtain ⟨hs0, hs3⟩ := hin'
   have hT : Hk xs (B9 AW xs) s (List.replicate 4 ⟨0, 0⟩) = BO xs s := by
    rw [← Pq hs0 hs3, KF xs AW s Gl (Hl hf).1 hs0 hs3 hN]
    simp [BO, h, hin]
   simp (disch := first | exact xD | fail) [-Option.bind_some, -Aa, -Ab]
   refine Ae.bind (AD s 0 3 _) ?_
   rintro ⟨_, w2⟩ h2
   try dsimp only at h2
   simp only [Prod.mk.injEq] at h2
   obtain ⟨rfl, rfl⟩ := h2
   simp (disch := first | exact xD | fail) [-Option.bind_some, -Aa, -Ab, hs3, hs0]
   refine Ae.bind (HI (ha.ext xE) hc hf) ?_
   rintro ⟨_, w3⟩ ⟨a5, c5, S, rfl, h3, h4, E3⟩
   try dsimp only at a5 c5 S h3 h4 E3
   have zE3 := E3.size
   try simp only [qz] at zE3
   simp (disch := first | exact xD | fail) [-Option.bind_some, qs, -Aa, -Ab]
   refine Ae.bind (FP) ?_
   rintro ⟨_, w4⟩ ⟨a6, c6, rfl, o4, E4⟩
   try dsimp only at a6 c6 o4 E4
   have zE4 := E4.size
   try simp only [qz] at zE4
   have F4 : Ext w w4 := xE
   have o4d := o4.d
   simp (disch := first | exact xD | fail) [-Option.bind_some, -Aa, -Ab, qm]
   have hln := Jk xs AW
   have X4 : hp w4 w.heap.size = some (.cells #[.slice none 0 0] 32 (0, 0)) := (E4.Ai (by omega)).trans ((E3.Ai (by omega)).trans X1)
   have E5 : Ext w4 ((w4.alloc (.cells #[.slice none 0 0] 32 (0, 0))).setRow w4.heap.size #[.slice a6 4 c6]) := xE
   have zE5 := E5.size
   try simp only [qz] at zE5
   refine Ae.mono (J9 (S := fun x => S x ∨ In w3.heap.size w4.heap.size x) (g4 := w.heap.size) (g7 := w4.heap.size) (sn := B9 AW xs) (a5 := a5) (c5 := c5) (by omega) (Nat.le_refl _) (by omega) (by omega) ha ?_ xs.length 0 _ _ (List.replicate 4 ⟨0, 0⟩) a6 c6 (by omega) (by exact rfl) (by exact rfl) (by exact rfl) (by exact rfl) (by exact rfl) (by exact rfl) ⟨_, (E5.Ai (by omega)).trans X4⟩ (by first | assumption | rfl | (simp (disch := first | exact xD | fail) [-Option.bind_some, qs, -Aa, -Ab]; done)) ((o4d.wide (fun b hb _ => .inr hb)).ext E5) ((h3.wide (fun b hb _ => .inl hb)).ext (E4.tr E5)) (F4.tr E5) hT) ?_
   ·rintro x (h | h)
    ·have := h4 x h
     omega
    ·simp only [In] at h
     omega
   ·rintro r ⟨a2, c2, k1, k2, k3⟩
    refine hQ _ ⟨a2, c2, _, k1, k2, ?_, k3⟩
    rintro x (h | h)
    ·have := h4 x h
     omega
    ·simp only [In] at h
     omega
end Go.Proofs.YtjhhommnkaemlaaGreat.X
