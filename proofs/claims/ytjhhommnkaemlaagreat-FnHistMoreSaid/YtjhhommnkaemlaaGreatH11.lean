/- A part of the proof, without conditions. -/
import Derived.Test.YtjhhommnkaemlaaGreatEvHj
import Derived.Test.YtjhhommnkaemlaaGreatH6
set_option linter.unusedVariables false
set_option linter.unusedSimpArgs false
set_option linter.deprecated false
set_option maxRecDepth 100000
set_option maxHeartbeats 1000000
namespace Go.Proofs.YtjhhommnkaemlaaGreat.X
open Go Go.Ev Go.RowKit
abbrev SK (w0 w : World) (S : Nat → Prop) (g : Nat) (cur : List Value) (b : Book) (s : Value) (sn : List (List Tag)) : Prop := Wk AJ 32 w0 w S g cur b s sn
def KW (Q : Value × World → Prop) (w0 : World) (xs : List Done) (a : Option Addr) (c g c4 : Nat) (T : List (List Tag)) (N k : Nat) : Prop :=
 ∀ (e : Env) (w : World) (S : Nat → Prop) (cur : List Value) (b : Book) (a6 : Option Addr) (n6 c6 : Nat) (sn : List (List Tag)), e 0 = .slice a xs.length c → e 4 = .slice (some ⟨g, 0, none⟩) 4 c4 → e 6 = .slice a6 n6 c6 → e 7 = i64 k → n6 = sn.length → SK w0 w S g cur b (.slice a6 n6 c6) sn → b.Ok → sn.length = k → b.wr = Oy (xs.take k) sn → sn ++ Ca b (xs.drop k) = T → k + (DB b (xs.drop k)).2 = N →
  Ae (CT e w) Q
section
variable {Q : Value × World → Prop} {w0 w : World} {xs : List Done} {a a6 am : Option Addr} {c g c4 n6 c6 cm k N g8 g9 : Nat} {T sn : List (List Tag)} {S : Nat → Prop} {cur : List Value} {b b' : Book} {e : Env} {d : Done} {m : List Tag}
theorem Qb (IH : KW Q w0 xs a c g c4 T N (k + 1)) (e0 : e 0 = .slice a xs.length c) (e4 : e 4 = .slice (some ⟨g, 0, none⟩) 4 c4) (e6 : e 6 = .slice a6 n6 c6) (e7 : e 7 = i64 k) (hn : n6 = sn.length) (hk80 : k < 80) (hw : SK w0 w S g cur b (.slice a6 n6 c6) sn) (hok : b.Ok) (hs : sn.length = k + 1) (hr : b.wr = Oy (xs.take (k + 1)) sn) (hT : sn ++ Ca b (xs.drop (k + 1)) = T) (hN : (k + 1) + (DB b (xs.drop (k + 1))).2 = N) :
  Ae (CX e w) Q := by
 rw [Iq]
 simp (disch := first | exact xD | fail) [-Option.bind_some, qs, -Aa, -Ab, e7]
 exact IH _ _ S cur b a6 n6 c6 sn xA xA xA xA hn hw hok hs hr hT hN
theorem Ob (IH : KW Q w0 xs a c g c4 T N (k + 1)) (e0 : e 0 = .slice a xs.length c) (e4 : e 4 = .slice (some ⟨g, 0, none⟩) 4 c4) (e6 : e 6 = .slice a6 sn.length c6) (e7 : e 7 = i64 k) (e8 : e 8 = pt g8 0) (e9 : e 9 = pt g9 0) (hk80 : k < 80) (hw : SK w0 w S g cur b (.slice a6 sn.length c6) sn)
  (X8 : hp w g8 = some (.cells (Bp d).toArray 38 (0, 0))) (X9 : hp w g9 = some (.cells #[.slice am m.length cm] 32 (0, 0))) (hm : D AJ S w [.slice am m.length cm] m)
  (hd : Cw d = true) (hok : b.Ok) (hdk : xs[k]? = some d) (hs : sn.length = k) (hr : b.wr = Oy (xs.take k) sn) (hb' : b' = ⟨b.vs.set d.Ar.toNat m, b.wr⟩) (hb2 : AZ b d = some b') (hk1 : ¬ d.kind = 1) (hgg : g8 ≠ g ∧ g9 ≠ g) (hT : sn ++ Ca b (xs.drop k) = T) (hN : k + (DB b (xs.drop k)).2 = N) :
  Ae (CU e w) Q := by
 obtain ⟨hg8, hg9⟩ := hgg
 rw [Im]
 obtain ⟨⟨hs0, hs3⟩, _⟩ := BS.1 hd
 have hs4 : d.Ar < 4 := by omega
 have hvl := hok.1
 have hw' := hw
 obtain ⟨⟨X1, hc4, hvs⟩, hown, hSg, hbg, hg0, hgl, hSl, E0⟩ := hw
 have zE0 := E0.size
 try simp only [qz] at zE0
 have hsl : d.Ar.toNat < cur.length := by omega
 have hdx : xs.drop k = d :: xs.drop (k + 1) := by
  obtain ⟨hlt, hx⟩ := List.getElem?_eq_some_iff.1 hdk
  rw [List.drop_eq_getElem_cons hlt, hx]
 have htk : xs.take (k + 1) = xs.take k ++ [d] := by rw [List.take_add_one, hdk]; rfl
 have hlt : k < xs.length := (List.getElem?_eq_some_iff.1 hdk).1
 simp (disch := first | exact xD | fail) [-Option.bind_some, qs, -Aa, -Ab, e4, e6, e8, e9, X8, X9, X1, OZ, Jd]
 have hwS := hw'.set (i := d.Ar.toNat) (by omega) hm
 refine Ae.bind (Wk.push (P := P) (mx := 5864062014805) (ty := 58) rfl Qk RP rfl (hwS.ext (w' := (w.setRow g (AH cur d.Ar.toNat [.slice am m.length cm]).toArray).alloc (.cells #[.slice am m.length cm] 32)) (Ext.alloc _ _)) (v := .slice am m.length cm) (x := m) (g1 := w.heap.size) (E' := 32) ?_ ?_ (by omega) (by decide) (by decide)) ?_
 ·refine hm.Aj fun y hy hl => ?_
  have : y ≠ g := fun e => hSg (e ▸ hy)
  simp (disch := (first | assumption | (simp; omega))) only [Ag, Ac]
 ·exact (by first | assumption | rfl | (simp (disch := first | exact xD | fail) [-Option.bind_some, qs, -Aa, -Ab]; done))
 ·rintro ⟨_, w1⟩ ⟨a7, c7, rfl, hw1⟩
  dsimp only at hw1
  simp (disch := first | exact xD | fail) [-Option.bind_some, -Aa, -Ab]
  refine Qb (sn := sn ++ [m]) (b := b') IH xA xA (by simp; rfl) xA rfl hk80 (hb' ▸ hw1) (Gk hok hd hb2) (by simp [hs]) ?_ ?_ ?_
  ·rw [Re hok hd hb2, htk, Oz _ _ _ _ (by simp; omega), hr, hb', KH hok hd]
  ·rw [← hT, hdx, Gp hb2, List.append_assoc, hb', KH hok hd]
   rfl
  ·rw [← hN, hdx, BT hb2]
   omega
end
def Pz (Q : Value × World → Prop) (w0 : World) (T : List (List Tag)) (N : Nat) : Prop :=
 ∀ (w : World) (S : Nat → Prop) (g : Nat) (cur : List Value) (b : Book) (a6 : Option Addr) (c6 : Nat), SK w0 w S g cur b (.slice a6 T.length c6) T → Q (.tuple #[.slice a6 T.length c6, i64 N], w)
section
variable {Q : Value × World → Prop} {w0 w : World} {xs : List Done} {a a6 am : Option Addr} {c g c4 n6 c6 cm k N g8 g9 g12 : Nat} {T sn : List (List Tag)} {S : Nat → Prop} {cur : List Value} {b b' : Book} {e : Env} {d : Done} {m : List Tag}
theorem EA (HE : Pz Q w0 T N) (hw : SK w0 w S g cur b (.slice a6 sn.length c6) sn) (hs : sn.length = k) (hdk : xs[k]? = some d) (hn : AZ b d = none) (hT : sn ++ Ca b (xs.drop k) = T) (hN : k + (DB b (xs.drop k)).2 = N) :
  Q (.tuple #[.slice a6 sn.length c6, i64 k], w) := by
 have hdx : xs.drop k = d :: xs.drop (k + 1) := by
  obtain ⟨hlt, hx⟩ := List.getElem?_eq_some_iff.1 hdk
  rw [List.drop_eq_getElem_cons hlt, hx]
 rw [hdx, KG hn, List.append_nil] at hT
 rw [hdx, Dz hn, Nat.add_zero] at hN
 subst hT hN
 exact HE _ _ _ _ _ _ _ hw
theorem Ks (IH : KW Q w0 xs a c g c4 T N (k + 1)) (HE : Pz Q w0 T N) (e0 : e 0 = .slice a xs.length c) (e4 : e 4 = .slice (some ⟨g, 0, none⟩) 4 c4) (e6 : e 6 = .slice a6 sn.length c6) (e7 : e 7 = i64 k) (e8 : e 8 = pt g8 0) (e9 : e 9 = pt g9 0) (e11 : e 11 = .bool (BE b.wr d.tag).isSome) (hk80 : k < 80) (hw : SK w0 w S g cur b (.slice a6 sn.length c6) sn)
  (X8 : hp w g8 = some (.cells (Bp d).toArray 38 (0, 0))) (X9 : hp w g9 = some (.cells #[.slice am 4 cm] 32 (0, 0))) (hm : D AJ S w [.slice am 4 cm] (view b d))
  (hd : Cw d = true) (hok : b.Ok) (hdk : xs[k]? = some d) (hs : sn.length = k) (hr : b.wr = Oy (xs.take k) sn) (hk1 : d.kind = 1) (hT : sn ++ Ca b (xs.drop k) = T) (hN : k + (DB b (xs.drop k)).2 = N) :
  Ae (CV e w) Q := by
 rw [Io]
 have hvl := Gj hok hd
 have y8 := Aq X8
 have y9 := Aq X9
 obtain ⟨_, _, _, _, ht⟩ := BS.1 hd
 have hlp := Q6 (view b d) d.tag (by omega)
 have hst : AZ b d = if (BE b.wr d.tag).isSome || !Hh (view b d) d.tag then none else some ⟨b.vs, b.wr ++ [(d.tag, d.Ar, d.key, view b d)]⟩ := by
  unfold AZ
  rw [hk1, hlp, Bool.not_not]
  rfl
 have hdx : xs.drop k = d :: xs.drop (k + 1) := by
  obtain ⟨hlt, hx⟩ := List.getElem?_eq_some_iff.1 hdk
  rw [List.drop_eq_getElem_cons hlt, hx]
 have htk : xs.take (k + 1) = xs.take k ++ [d] := by rw [List.take_add_one, hdk]; rfl
 have hlt : k < xs.length := (List.getElem?_eq_some_iff.1 hdk).1
 cases hf : (BE b.wr d.tag).isSome
 ·rw [hf] at e11
  simp (disch := first | exact xD | fail) [-Option.bind_some, -Aa, -Ab, e6, e7, e8, e9, e11, X8, X9]
  refine Ae.bind (KR (t := d.tag) hvl hm) ?_
  rintro ⟨_, w1⟩ ⟨rfl, E1⟩
  try dsimp only at E1
  have zE1 := E1.size
  try simp only [qz] at zE1
  cases hl : Hh (view b d) d.tag
  ·simp (disch := first | exact xD | fail) [-Option.bind_some, -Aa, -Ab]
   exact EA HE (hw.ext E1) hs hdk (by rw [hst, hf, hl]; rfl) hT hN
  ·rw [hf, hl] at hst
   have hb2 : AZ b d = some ⟨b.vs, b.wr ++ [(d.tag, d.Ar, d.key, view b d)]⟩ := hst
   simp (disch := first | exact xD | fail) [-Option.bind_some, -Aa, -Ab, X9, E1.Ai]
   have hw1 := hw.ext (E1.tr (Ext.alloc w1 (.cells #[.slice am 4 cm] 32 (0, 0))))
   refine Ae.bind (Wk.push (P := P) (mx := 5864062014805) (ty := 58) rfl Qk RP rfl hw1 (v := .slice am 4 cm) (x := view b d) (g1 := w1.heap.size) (E' := 32) (hm.ext xE) (by first | assumption | rfl | (simp (disch := first | exact xD | fail) [-Option.bind_some, qs, -Aa, -Ab]; done)) (by omega) (by decide) (by decide)) ?_
   rintro ⟨_, w2⟩ ⟨a7, c7, rfl, hw2⟩
   dsimp only at hw2
   simp (disch := first | exact xD | fail) [-Option.bind_some, -Aa, -Ab]
   refine Qb (sn := sn ++ [view b d]) (b := ⟨b.vs, b.wr ++ [(d.tag, d.Ar, d.key, view b d)]⟩) IH xA xA (by simp; rfl) xA rfl hk80 hw2 (Gk hok hd hb2) (by simp [hs]) ?_ ?_ ?_
   ·rw [htk, Oz _ _ _ _ (by simp; omega), hr, hk1]
    rfl
   ·rw [← hT, hdx, Gp hb2, List.append_assoc]
    rfl
   ·rw [← hN, hdx, BT hb2]
    omega
 ·rw [hf] at e11
  simp (disch := first | exact xD | fail) [-Option.bind_some, -Aa, -Ab, e6, e7, e8, e9, e11]
  exact EA HE hw hs hdk (by rw [hst, hf]; rfl) hT hN
end
section
variable {Q : Value × World → Prop} {w0 w : World} {xs : List Done} {a a6 am a12 : Option Addr} {c g c4 n6 c6 cm k N g8 g9 g12 c12 : Nat} {T sn : List (List Tag)} {S Sx S12 : Nat → Prop} {cur : List Value} {b b' : Book} {e : Env} {d : Done} {m : List Tag} {ok : Bool} {v12 : Value}
theorem Rm (hr : b.wr = Oy (xs.take k) sn) (hs : sn.length = k) (hk : k < xs.length) (t : Tag) : (BE b.wr t = none ∧ GF (xs.take k) t = none ∧ Gl (xs.take k) sn t = none) ∨ ∃ x p, BE b.wr t = some (x.Ar, x.key, p) ∧ GF (xs.take k) t = some x ∧ Gl (xs.take k) sn t = some p := by
 rw [hr]
 exact Pq (xs.take k) sn t (by simp; omega)
theorem SQ (IH : KW Q w0 xs a c g c4 T N (k + 1)) (HE : Pz Q w0 T N) (hx0 : D AO Sx w0 [.slice a xs.length c] xs) (hcap : xs.length ≤ c) (e0 : e 0 = .slice a xs.length c) (e4 : e 4 = .slice (some ⟨g, 0, none⟩) 4 c4) (e6 : e 6 = .slice a6 sn.length c6) (e7 : e 7 = i64 k) (e8 : e 8 = pt g8 0) (e9 : e 9 = pt g9 0) (hk80 : k < 80) (hw : SK w0 w S g cur b (.slice a6 sn.length c6) sn)
  (X8 : hp w g8 = some (.cells (Bp d).toArray 38 (0, 0))) (X9 : hp w g9 = some (.cells #[.slice am 4 cm] 32 (0, 0))) (hm : D AJ S w [.slice am 4 cm] (view b d))
  (hd : Cw d = true) (hok : b.Ok) (hdk : xs[k]? = some d) (hs : sn.length = k) (hr : b.wr = Oy (xs.take k) sn) (hk1 : d.kind = 1) (hT : sn ++ Ca b (xs.drop k) = T) (hN : k + (DB b (xs.drop k)).2 = N) :
  Ae (EC e w) Q := by
 have hn := hx0.n
 have hlt : k < xs.length := (List.getElem?_eq_some_iff.1 hdk).1
 have y8 := Aq X8
 have y9 := Aq X9
 have hlen : (xs.take k).length = k := by simp; omega
 have hsl : ∀ w, sl P 23 (.slice a xs.length c) none (some (i64 k)) none w = some (.slice a k c, w) := fun w => by
  simpa using PO (P := P) GZ (a := a) (len := xs.length) (cap := c) (n := (k : Int)) (by omega) (by omega) w
 have E0 : Ext w0 w := hw.2.2.2.2.2.2.2
 have zE0 := E0.size
 try simp only [qz] at zE0
 have hS := hw.2.2.2.2.2.2.1
 have hown := hw.2.1
 have hxk : D AO Sx w0 [.slice a k c] (xs.take k) := hx0.take (by omega)
 have hsn := hown.d (mx := 5864062014805) (by omega)
 have hS2 : ∀ y, (S y ∨ y ∈ (Av (.slice a6 sn.length c6)).toList) → y < w.heap.size := by
  rintro y (h | h)
  ·exact (hS y h).2
  ·obtain ⟨_, _, _, hh⟩ := hown
   exact (hh y h).2
 have hle : sn.length = (xs.take k).length := by omega
 refine HP _ _ ?_
 simp (disch := first | exact xD | fail) [-Option.bind_some, qs, -Aa, -Ab, e0, e6, e7, e8, hsl, X8]
 have W1 := fun w' (h : Ext w w') => GN (t := d.tag) hle (fun y hy => Nat.lt_of_lt_of_le (hS2 y hy) h.size) (hxk.ext (E0.tr h)) (hsn.ext h)
 have Rw := Rm hr hs hlt d.tag
 constructor
 ·refine Ae.mono (W1 _ xE) ?_
  rintro ⟨_, w1⟩ ⟨h, E1⟩
  have zE1 := E1.size
  try simp only [qz] at zE1
  dsimp only at E1
  have F1 : Ext w w1 := xE
  have zF1 := F1.size
  have zE1' := E1.size
  try simp only [Ad] at zE1'
  rcases h with ⟨h1, rfl⟩ | ⟨p, a3, c3, h1, h2, rfl, h4⟩
  ·have hf : (BE b.wr d.tag).isSome = false := by
    rcases Rw with ⟨r1, _⟩ | ⟨x, q, _, _, r3⟩
    ·rw [r1]; rfl
    ·rw [h1] at r3; cases r3
   simp (disch := first | exact xD | fail) [-Option.bind_some, qs, -Aa, -Ab, qm, X8, E1.Ai]
   refine Ks (am := am) (cm := cm) (g8 := g8) (g9 := g9) IH HE (by exact e0) (by exact e4) (by exact e6) (by exact e7) (by exact e8) (by exact e9) (by rw [hf]; rfl) hk80 (hw.ext xE) (by first | assumption | rfl | (simp (disch := first | exact xD | fail) [-Option.bind_some, qs, -Aa, -Ab, X8, E1.Ai]; done)) (by first | assumption | rfl | (simp (disch := first | exact xD | fail) [-Option.bind_some, qs, -Aa, -Ab, X9, E1.Ai]; done)) (hm.ext xE) hd hok hdk hs hr hk1 hT hN
  ·have hf : (BE b.wr d.tag).isSome = true := by
    rcases Rw with ⟨_, _, r3⟩ | ⟨x, q, r1, _, _⟩
    ·rw [h1] at r3; cases r3
    ·rw [r1]; rfl
   simp (disch := first | exact xD | fail) [-Option.bind_some, qs, -Aa, -Ab, qm, X8, E1.Ai]
   refine Ks (am := am) (cm := cm) (g8 := g8) (g9 := g9) IH HE (by exact e0) (by exact e4) (by exact e6) (by exact e7) (by exact e8) (by exact e9) (by rw [hf]; rfl) hk80 (hw.ext xE) (by first | assumption | rfl | (simp (disch := first | exact xD | fail) [-Option.bind_some, qs, -Aa, -Ab, X8, E1.Ai]; done)) (by first | assumption | rfl | (simp (disch := first | exact xD | fail) [-Option.bind_some, qs, -Aa, -Ab, X9, E1.Ai]; done)) (hm.ext xE) hd hok hdk hs hr hk1 hT hN
 ·refine Ae.mono (W1 _ xE) ?_
  rintro ⟨_, w1⟩ ⟨h, E1⟩
  have zE1 := E1.size
  try simp only [qz] at zE1
  dsimp only at E1
  have F1 : Ext w w1 := xE
  have zF1 := F1.size
  have zE1' := E1.size
  try simp only [World.size_alloc, Ad] at zE1'
  have X5 : hp w1 w.heap.size = some (.cells #[.slice none 0 0] 32 (0, 0)) := (E1.Ai (by simp)).trans (by first | assumption | rfl | (simp (disch := first | exact xD | fail) [-Option.bind_some, qs, -Aa, -Ab]; done))
  rcases h with ⟨h1, rfl⟩ | ⟨p, a3, c3, h1, h2, rfl, h4⟩
  ·have hf : (BE b.wr d.tag).isSome = false := by
    rcases Rw with ⟨r1, _⟩ | ⟨x, q, _, _, r3⟩
    ·rw [r1]; rfl
    ·rw [h1] at r3; cases r3
   simp (disch := first | exact xD | fail) [-Option.bind_some, qs, -Aa, -Ab, qm, X5]
   refine Ks (am := am) (cm := cm) (g8 := g8) (g9 := g9) IH HE (by exact e0) (by exact e4) (by exact e6) (by exact e7) (by exact e8) (by exact e9) (by rw [hf]; rfl) hk80 (hw.ext xE) (by first | assumption | rfl | (simp (disch := first | exact xD | fail) [-Option.bind_some, qs, -Aa, -Ab, X8, E1.Ai]; done)) (by first | assumption | rfl | (simp (disch := first | exact xD | fail) [-Option.bind_some, qs, -Aa, -Ab, X9, E1.Ai]; done)) (hm.ext xE) hd hok hdk hs hr hk1 hT hN
  ·have hf : (BE b.wr d.tag).isSome = true := by
    rcases Rw with ⟨_, _, r3⟩ | ⟨x, q, r1, _, _⟩
    ·rw [h1] at r3; cases r3
    ·rw [r1]; rfl
   simp (disch := first | exact xD | fail) [-Option.bind_some, qs, -Aa, -Ab, qm, X5]
   refine Ks (am := am) (cm := cm) (g8 := g8) (g9 := g9) IH HE (by exact e0) (by exact e4) (by exact e6) (by exact e7) (by exact e8) (by exact e9) (by rw [hf]; rfl) hk80 (hw.ext xE) (by first | assumption | rfl | (simp (disch := first | exact xD | fail) [-Option.bind_some, qs, -Aa, -Ab, X8, E1.Ai]; done)) (by first | assumption | rfl | (simp (disch := first | exact xD | fail) [-Option.bind_some, qs, -Aa, -Ab, X9, E1.Ai]; done)) (hm.ext xE) hd hok hdk hs hr hk1 hT hN
end
section
variable {Q : Value × World → Prop} {w0 wq w : World} {xs : List Done} {a a6 am a12 : Option Addr} {c g c4 n6 c6 cm k N g8 g9 g12 c12 : Nat} {T sn : List (List Tag)} {S Sx S12 : Nat → Prop} {cur : List Value} {b b' : Book} {e : Env} {d : Done} {m p : List Tag} {ok : Bool} {v12 : Value}
theorem Kt (IH : KW Q w0 xs a c g c4 T N (k + 1)) (HE : Pz Q w0 T N) (hx0 : D AO Sx w0 [.slice a xs.length c] xs) (hcap : xs.length ≤ c) (e0 : e 0 = .slice a xs.length c) (e4 : e 4 = .slice (some ⟨g, 0, none⟩) 4 c4) (e6 : e 6 = .slice a6 sn.length c6) (e7 : e 7 = i64 k) (e8 : e 8 = pt g8 0) (e9 : e 9 = pt g9 0) (hk80 : k < 80) (hw : SK w0 wq S g cur b (.slice a6 sn.length c6) sn) (Eq : Ext wq w) (hq8 : wq.heap.size ≤ g8) (hq9 : wq.heap.size ≤ g9) (h89 : g8 ≠ g9)
  (X8 : hp w g8 = some (.cells (Bp d).toArray 38 (0, 0))) (X9 : hp w g9 = some (.cells #[.slice am 4 cm] 32 (0, 0))) (hm : D AJ S wq [.slice am 4 cm] (view b d))
  (e12 : e 12 = pt g12 0) (h12 : (Gl (xs.take k) sn d.tag = none ∧ e 13 = .bool false) ∨ ∃ p, Gl (xs.take k) sn d.tag = some p ∧ e 13 = .bool true ∧ p ∈ sn ∧ D AJ S12 w [.slice a12 p.length c12] p ∧ hp w g12 = some (.cells #[.slice a12 p.length c12] 32 (0, 0)))
  (hd : Cw d = true) (hok : b.Ok) (hdk : xs[k]? = some d) (hs : sn.length = k) (hr : b.wr = Oy (xs.take k) sn) (hk1 : ¬ d.kind = 1) (hless : AG d.tag ((view b d).getD d.key.toNat ⟨0, 0⟩) = false) (hpos : 0 < d.tag.t) (hT : sn ++ Ca b (xs.drop k) = T) (hN : k + (DB b (xs.drop k)).2 = N) :
  Ae (CW e w) Q := by
 rw [Ip]
 have hn := hx0.n
 have hlt : k < xs.length := (List.getElem?_eq_some_iff.1 hdk).1
 have y8 := Aq X8
 have y9 := Aq X9
 have hvl := Gj hok hd
 obtain ⟨⟨hs0, hs3⟩, _, ⟨hy0, hy3⟩, _⟩ := BS.1 hd
 have hsl : ∀ w, sl P 23 (.slice a xs.length c) none (some (i64 k)) none w = some (.slice a k c, w) := fun w => by
  simpa using PO (P := P) GZ (a := a) (len := xs.length) (cap := c) (n := (k : Int)) (by omega) (by omega) w
 have E0 : Ext w0 w := hw.2.2.2.2.2.2.2.tr Eq
 have zE0 := E0.size
 try simp only [qz] at zE0
 have hxk : D AO Sx w [.slice a k c] (xs.take k) := (hx0.take (by omega)).ext E0
 have hgq := hw.2.2.2.2.2.1
 have hSq := hw.2.2.2.2.2.2.1
 have hownq := hw.2.1
 have zq0 := hw.2.2.2.2.2.2.2.size
 have zq := Eq.size
 have hk2 : (d.kind == 1) = false := by simpa using hk1
 have hst : AZ b d = (match BE b.wr d.tag with
   | none => none
   | some (s, k, past) => if k != d.key || ((d.kind == 3) && (s != d.Ar)) then none else some ⟨b.vs.set d.Ar.toNat (Bb (AF (view b d) past) d.key.toNat d.tag), b.wr⟩) := by
  unfold AZ
  rw [hk2, hless, if_neg (by decide), if_neg (by decide), if_pos (by simpa using hpos)]
  rfl
 rcases Rm hr hs hlt d.tag with ⟨r1, r2, r3⟩ | ⟨x, p, r1, r2, r3⟩
 ·rw [r1] at hst
  rcases h12 with ⟨_, e13⟩ | ⟨p, h, _⟩
  ·simp (disch := first | exact xD | fail) [-Option.bind_some, -Aa, -Ab, e0, e6, e7, e8, e13]
   exact EA HE ((hw.ext Eq).ext xE) hs hdk hst hT hN
  ·rw [r3] at h; cases h
 ·rw [r1] at hst
  rcases h12 with ⟨h, _⟩ | ⟨p', h, e13, hpm, D12, X12⟩
  ·rw [r3] at h; cases h
  ·obtain rfl : p = p' := by rw [r3] at h; exact Option.some.inj h
   have y12 := Aq X12
   have hpl : p.length = 4 := hok.2.2 _ (EB r1)
   simp (disch := first | exact xD | fail) [-Option.bind_some, -Aa, -Ab, e0, e6, e7, e8, e9, e12, e13, hsl, X8]
   refine Ae.bind (OL (d0 := d) (hxk.ext xE)) ?_
   rintro ⟨_, w1⟩ ⟨rfl, E1⟩
   have zE1 := E1.size
   try simp only [qz] at zE1
   rw [r2]
   try dsimp only at E1
   have zE1 := E1.size
   have F1 : Ext w w1 := xE
   cases hkey : (x.key == d.key)
   ·have hkey' : (x.key != d.key) = true := by simp [bne, hkey]
    simp only [hkey', Bool.true_or, if_true] at hst
    simp (disch := first | exact xD | fail) [-Option.bind_some, -Aa, -Ab, X8, hkey, E1.Ai]
    exact EA HE ((hw.ext Eq).ext xE) hs hdk hst hT hN
   ·have hkey' : (x.key != d.key) = false := by simp [bne, hkey]
    simp only [hkey', Bool.false_or] at hst
    have hmv : D AJ S wq [.slice am (view b d).length cm] (view b d) := by rw [hvl]; exact hm
    have J := fun w' (h : Ext w w') => HF (xs := view b d) (ys := p) hvl hpl ((hmv.ext Eq).ext h) (D12.ext h)
    simp only [hvl] at J
    have hkn : ((d.key.toNat : Nat) : Int) = d.key := Int.toNat_of_nonneg hy0
    cases hk3 : (d.kind == 3)
    ·simp only [hk3, Bool.false_and, Bool.false_eq_true, if_false] at hst
     simp (disch := first | exact xD | fail) [-Option.bind_some, -Aa, -Ab, X8, X9, X12, hkey, hk3, E1.Ai]
     refine Ae.bind (J _ xE) ?_
     rintro ⟨_, w2⟩ ⟨a1, c1, rfl, o1', E2⟩
     try dsimp only at a1 c1 o1' E2
     have zE2 := E2.size
     try simp only [qz] at zE2
     have o1d := o1'.d
     have Wt := FK (k := d.key.toNat) (t := d.tag) (w := w2) (by rw [DM _ _ (by omega)]; omega) o1d
     rw [hkn] at Wt
     have zF2 := (F1.dw.tr E2).size
     simp (disch := first | exact xD | fail) [-Option.bind_some, -Aa, -Ab, X8, E1.Ai, E2.Ai]
     refine Ae.bind (Wt) ?_
     rintro ⟨_, w3⟩ ⟨a3, c3, rfl, o3, E3⟩
     try dsimp only at a3 c3 o3 E3
     have zE3 := E3.size
     try simp only [qz] at zE3
     have F3 : Ext w w3 := xE
     simp (disch := first | exact xD | fail) [-Option.bind_some, -Aa, -Ab, qm, X9, E1.Ai, E2.Ai, E3.Ai]
     have o3d := o3.d
     refine Ob (cur := cur) (S := fun x => S x ∨ In w2.heap.size w3.heap.size x) (g8 := g8) (g9 := g9) (m := Bb (AF (view b d) p) d.key.toNat d.tag) (am := a3) (cm := c3) (d := d) (b' := ⟨b.vs.set d.Ar.toNat (Bb (AF (view b d) p) d.key.toNat d.tag), b.wr⟩) IH (by exact e0) (by exact e4) (by exact e6) (by exact e7) (by exact e8) (by exact e9) hk80 ?_ (by first | assumption | rfl | (simp (disch := first | exact xD | fail) [-Option.bind_some, qs, -Aa, -Ab, X8, E1.Ai, E2.Ai, E3.Ai]; done)) (by first | assumption | rfl | (simp (disch := first | exact xD | fail) [-Option.bind_some, -Aa, -Ab, X9, E1.Ai, E2.Ai, E3.Ai]; done)) ?_ hd hok hdk hs hr rfl hst hk1 ⟨by omega, by omega⟩ hT hN
     ·refine (hw.ext (Ext.set (Eq.tr F3) (k := g9) hq9 _)).wide (fun x h => .inl h) ?_ ?_ ?_
      ·rintro y (h | h)
       ·have := hSq y h
        simp only [size_setRow]
        omega
       ·simp only [In] at h
        simp only [size_setRow]
        omega
      ·rintro (h | h)
       ·exact hw.2.2.1 h
       ·simp only [In] at h
        omega
      ·rintro y hy (h | h)
       ·obtain ⟨_, _, _, hh⟩ := hownq
        exact (hh y hy).1 h
       ·obtain ⟨_, _, _, hh⟩ := hownq
        have := (hh y hy).2
        simp only [In] at h
        omega
     ·exact (o3d.Aj (fun y hy _ => Ac (by simp only [In] at hy; omega))).wide (fun y hy _ => .inr hy)
    ·cases hse : (x.Ar == d.Ar)
     ·have hse' : (x.Ar != d.Ar) = true := by simp [bne, hse]
      simp only [hk3, hse', Bool.and_self, if_true] at hst
      simp (disch := first | exact xD | fail) [-Option.bind_some, -Aa, -Ab, hsl, X8, hkey, hk3, E1.Ai]
      refine Ae.bind (Iz (d0 := d) (hxk.ext xE)) ?_
      rintro ⟨_, w1a⟩ ⟨rfl, E1a⟩
      have zE1a := E1a.size
      try simp only [] at zE1a
      rw [r2]
      try dsimp only at E1a
      have F1a : Ext w w1a := xE
      simp (disch := first | exact xD | fail) [-Option.bind_some, -Aa, -Ab, hse]
      exact EA HE ((hw.ext Eq).ext xE) hs hdk hst hT hN
     ·have hse' : (x.Ar != d.Ar) = false := by simp [bne, hse]
      simp only [hk3, hse', Bool.and_false, Bool.false_eq_true, if_false] at hst
      simp (disch := first | exact xD | fail) [-Option.bind_some, -Aa, -Ab, hsl, X8, hkey, hk3, E1.Ai]
      refine Ae.bind (Iz (d0 := d) (hxk.ext xE)) ?_
      rintro ⟨_, w1a⟩ ⟨rfl, E1a⟩
      have zE1a := E1a.size
      try simp only [] at zE1a
      rw [r2]
      try dsimp only at E1a
      have F1a : Ext w w1a := xE
      simp (disch := first | exact xD | fail) [-Option.bind_some, -Aa, -Ab, X8, X9, X12, hse, E1.Ai, E1a.Ai]
      refine Ae.bind (J _ xE) ?_
      rintro ⟨_, w2⟩ ⟨a1, c1, rfl, o1', E2⟩
      try dsimp only at a1 c1 o1' E2
      have zE2 := E2.size
      try simp only [qz] at zE2
      have o1d := o1'.d
      have Wt := FK (k := d.key.toNat) (t := d.tag) (w := w2) (by rw [DM _ _ (by omega)]; omega) o1d
      rw [hkn] at Wt
      have zF2 := (F1a.dw.tr E2).size
      simp (disch := first | exact xD | fail) [-Option.bind_some, -Aa, -Ab, X8, E1.Ai, E1a.Ai, E2.Ai]
      refine Ae.bind (Wt) ?_
      rintro ⟨_, w3⟩ ⟨a3, c3, rfl, o3, E3⟩
      try dsimp only at a3 c3 o3 E3
      have zE3 := E3.size
      try simp only [qz] at zE3
      have F3 : Ext w w3 := xE
      simp (disch := first | exact xD | fail) [-Option.bind_some, -Aa, -Ab, qm, X9, E1.Ai, E1a.Ai, E2.Ai, E3.Ai]
      have o3d := o3.d
      refine Ob (cur := cur) (S := fun x => S x ∨ In w2.heap.size w3.heap.size x) (g8 := g8) (g9 := g9) (m := Bb (AF (view b d) p) d.key.toNat d.tag) (am := a3) (cm := c3) (d := d) (b' := ⟨b.vs.set d.Ar.toNat (Bb (AF (view b d) p) d.key.toNat d.tag), b.wr⟩) IH (by exact e0) (by exact e4) (by exact e6) (by exact e7) (by exact e8) (by exact e9) hk80 ?_ (by first | assumption | rfl | (simp (disch := first | exact xD | fail) [-Option.bind_some, qs, -Aa, -Ab, X8, E1.Ai, E1a.Ai, E2.Ai, E3.Ai]; done)) (by first | assumption | rfl | (simp (disch := first | exact xD | fail) [-Option.bind_some, -Aa, -Ab, X9, E1.Ai, E1a.Ai, E2.Ai, E3.Ai]; done)) ?_ hd hok hdk hs hr rfl hst hk1 ⟨by omega, by omega⟩ hT hN
      ·refine (hw.ext (Ext.set (Eq.tr F3) (k := g9) hq9 _)).wide (fun x h => .inl h) ?_ ?_ ?_
       ·rintro y (h | h)
        ·have := hSq y h
         simp only [size_setRow]
         omega
        ·simp only [In] at h
         simp only [size_setRow]
         omega
       ·rintro (h | h)
        ·exact hw.2.2.1 h
        ·simp only [In] at h
         omega
       ·rintro y hy (h | h)
        ·obtain ⟨_, _, _, hh⟩ := hownq
         exact (hh y hy).1 h
        ·obtain ⟨_, _, _, hh⟩ := hownq
         have := (hh y hy).2
         simp only [In] at h
         omega
      ·exact (o3d.Aj (fun y hy _ => Ac (by simp only [In] at hy; omega))).wide (fun y hy _ => .inr hy)
end
section
variable {Q : Value × World → Prop} {w0 wq w : World} {xs : List Done} {a a6 am a12 : Option Addr} {c g c4 n6 c6 cm k N g8 g9 g12 c12 : Nat} {T sn : List (List Tag)} {S Sx S12 : Nat → Prop} {cur : List Value} {b b' : Book} {e : Env} {d : Done} {m p : List Tag} {ok : Bool} {v12 : Value}
theorem SR (IH : KW Q w0 xs a c g c4 T N (k + 1)) (HE : Pz Q w0 T N) (hx0 : D AO Sx w0 [.slice a xs.length c] xs) (hcap : xs.length ≤ c) (e0 : e 0 = .slice a xs.length c) (e4 : e 4 = .slice (some ⟨g, 0, none⟩) 4 c4) (e6 : e 6 = .slice a6 sn.length c6) (e7 : e 7 = i64 k) (e8 : e 8 = pt g8 0) (e9 : e 9 = pt g9 0) (hk80 : k < 80) (hw : SK w0 wq S g cur b (.slice a6 sn.length c6) sn) (Eq : Ext wq w) (hq8 : wq.heap.size ≤ g8) (hq9 : wq.heap.size ≤ g9) (h89 : g8 ≠ g9)
  (X8 : hp w g8 = some (.cells (Bp d).toArray 38 (0, 0))) (X9 : hp w g9 = some (.cells #[.slice am 4 cm] 32 (0, 0))) (hm : D AJ S wq [.slice am 4 cm] (view b d))
  (hd : Cw d = true) (hok : b.Ok) (hdk : xs[k]? = some d) (hs : sn.length = k) (hr : b.wr = Oy (xs.take k) sn) (hk1 : ¬ d.kind = 1) (hless : AG d.tag ((view b d).getD d.key.toNat ⟨0, 0⟩) = false) (hpos : 0 < d.tag.t) (hT : sn ++ Ca b (xs.drop k) = T) (hN : k + (DB b (xs.drop k)).2 = N) :
  Ae (ED e w) Q := by
 have hn := hx0.n
 have hlt : k < xs.length := (List.getElem?_eq_some_iff.1 hdk).1
 have y8 := Aq X8
 have y9 := Aq X9
 have hlen : (xs.take k).length = k := by simp; omega
 have hsl : ∀ w, sl P 23 (.slice a xs.length c) none (some (i64 k)) none w = some (.slice a k c, w) := fun w => by
  simpa using PO (P := P) GZ (a := a) (len := xs.length) (cap := c) (n := (k : Int)) (by omega) (by omega) w
 have E0 : Ext w0 w := hw.2.2.2.2.2.2.2.tr Eq
 have zE0 := E0.size
 try simp only [qz] at zE0
 have hS := hw.2.2.2.2.2.2.1
 have hown := hw.2.1
 have zq := Eq.size
 have hxk : D AO Sx w0 [.slice a k c] (xs.take k) := hx0.take (by omega)
 have hsn := (hown.d (mx := 5864062014805) (by omega)).ext Eq
 have hS2 : ∀ y, (S y ∨ y ∈ (Av (.slice a6 sn.length c6)).toList) → y < w.heap.size := by
  rintro y (h | h)
  ·have := (hS y h).2
   omega
  ·obtain ⟨_, _, _, hh⟩ := hown
   have := (hh y h).2
   omega
 have hle : sn.length = (xs.take k).length := by omega
 refine HQ _ _ ?_
 simp (disch := first | exact xD | fail) [-Option.bind_some, qs, -Aa, -Ab, e0, e6, e7, e8, hsl, X8]
 have W1 := fun w' (h : Ext w w') => GN (t := d.tag) hle (fun y hy => Nat.lt_of_lt_of_le (hS2 y hy) h.size) (hxk.ext (E0.tr h)) (hsn.ext h)
 constructor
 ·refine Ae.mono (W1 _ xE) ?_
  rintro ⟨_, w1⟩ ⟨h, E1⟩
  have zE1 := E1.size
  try simp only [qz] at zE1
  dsimp only at E1
  have F1 : Ext w w1 := xE
  have zF1 := F1.size
  have zE1' := E1.size
  try simp only [Ad] at zE1'
  rcases h with ⟨h1, rfl⟩ | ⟨p, a3, c3, h1, h2, rfl, h4⟩
  ·simp (disch := first | exact xD | fail) [-Option.bind_some, qs, -Aa, -Ab, qm, X8, E1.Ai]
   refine Kt (am := am) (cm := cm) (g8 := g8) (g9 := g9) (g12 := w1.heap.size) (a12 := none) (c12 := 0) (S12 := fun y => S y ∨ y ∈ (Av (.slice a6 sn.length c6)).toList) IH HE hx0 hcap (by exact e0) (by exact e4) (by exact e6) (by exact e7) (by exact e8) (by exact e9) hk80 hw (Eq.tr xE) hq8 hq9 h89 (by first | assumption | rfl | (simp (disch := first | exact xD | fail) [-Option.bind_some, qs, -Aa, -Ab, X8, E1.Ai]; done)) (by first | assumption | rfl | (simp (disch := first | exact xD | fail) [-Option.bind_some, qs, -Aa, -Ab, X9, E1.Ai]; done)) hm (by exact rfl) (.inl ⟨h1, by exact rfl⟩) hd hok hdk hs hr hk1 hless hpos hT hN
  ·have h4' := h4
   simp (disch := first | exact xD | fail) [-Option.bind_some, qs, -Aa, -Ab, qm, X8, E1.Ai]
   refine Kt (am := am) (cm := cm) (g8 := g8) (g9 := g9) (g12 := w1.heap.size) (a12 := a3) (c12 := c3) (S12 := fun y => S y ∨ y ∈ (Av (.slice a6 sn.length c6)).toList) IH HE hx0 hcap (by exact e0) (by exact e4) (by exact e6) (by exact e7) (by exact e8) (by exact e9) hk80 hw (Eq.tr xE) hq8 hq9 h89 (by first | assumption | rfl | (simp (disch := first | exact xD | fail) [-Option.bind_some, qs, -Aa, -Ab, X8, E1.Ai]; done)) (by first | assumption | rfl | (simp (disch := first | exact xD | fail) [-Option.bind_some, qs, -Aa, -Ab, X9, E1.Ai]; done)) hm (by exact rfl) (.inr ⟨p, h1, by exact rfl, h2, h4.Aj (fun y hy hl => ?_), (by first | assumption | rfl | (simp (disch := first | exact xD | fail) [-Option.bind_some, qs, -Aa, -Ab]; done))⟩) hd hok hdk hs hr hk1 hless hpos hT hN
   have := hS2 y hy
   simp (disch := (first | assumption | omega | (simp only [World.size_alloc, size_setRow, Ad] <;> omega))) only [Ag, Ac]
 ·refine Ae.mono (W1 _ xE) ?_
  rintro ⟨_, w1⟩ ⟨h, E1⟩
  have zE1 := E1.size
  try simp only [qz] at zE1
  dsimp only at E1
  have F1 : Ext w w1 := xE
  have zF1 := F1.size
  have zE1' := E1.size
  try simp only [World.size_alloc, Ad] at zE1'
  have X5 : hp w1 w.heap.size = some (.cells #[.slice none 0 0] 32 (0, 0)) := (E1.Ai (by simp)).trans (by first | assumption | rfl | (simp (disch := first | exact xD | fail) [-Option.bind_some, qs, -Aa, -Ab]; done))
  rcases h with ⟨h1, rfl⟩ | ⟨p, a3, c3, h1, h2, rfl, h4⟩
  ·simp (disch := first | exact xD | fail) [-Option.bind_some, qs, -Aa, -Ab, qm, X5]
   refine Kt (am := am) (cm := cm) (g8 := g8) (g9 := g9) (g12 := w.heap.size) (a12 := none) (c12 := 0) (S12 := fun y => S y ∨ y ∈ (Av (.slice a6 sn.length c6)).toList) IH HE hx0 hcap (by exact e0) (by exact e4) (by exact e6) (by exact e7) (by exact e8) (by exact e9) hk80 hw (Eq.tr xE) hq8 hq9 h89 (by first | assumption | rfl | (simp (disch := first | exact xD | fail) [-Option.bind_some, qs, -Aa, -Ab, X8, E1.Ai]; done)) (by first | assumption | rfl | (simp (disch := first | exact xD | fail) [-Option.bind_some, qs, -Aa, -Ab, X9, E1.Ai]; done)) hm (by exact rfl) (.inl ⟨h1, by exact rfl⟩) hd hok hdk hs hr hk1 hless hpos hT hN
  ·have h4' := h4
   simp (disch := first | exact xD | fail) [-Option.bind_some, qs, -Aa, -Ab, qm, X5]
   refine Kt (am := am) (cm := cm) (g8 := g8) (g9 := g9) (g12 := w.heap.size) (a12 := a3) (c12 := c3) (S12 := fun y => S y ∨ y ∈ (Av (.slice a6 sn.length c6)).toList) IH HE hx0 hcap (by exact e0) (by exact e4) (by exact e6) (by exact e7) (by exact e8) (by exact e9) hk80 hw (Eq.tr xE) hq8 hq9 h89 (by first | assumption | rfl | (simp (disch := first | exact xD | fail) [-Option.bind_some, qs, -Aa, -Ab, X8, E1.Ai]; done)) (by first | assumption | rfl | (simp (disch := first | exact xD | fail) [-Option.bind_some, qs, -Aa, -Ab, X9, E1.Ai]; done)) hm (by exact rfl) (.inr ⟨p, h1, by exact rfl, h2, h4.Aj (fun y hy hl => ?_), (by first | assumption | rfl | (simp (disch := first | exact xD | fail) [-Option.bind_some, qs, -Aa, -Ab, E1.Ai]; done))⟩) hd hok hdk hs hr hk1 hless hpos hT hN
   have := hS2 y hy
   simp (disch := (first | assumption | omega | (simp only [World.size_alloc, size_setRow, Ad] <;> omega))) only [Ac]
end
section
variable {Q : Value × World → Prop} {w0 : World} {xs : List Done} {a : Option Addr} {c g c4 N : Nat} {T : List (List Tag)} {Sx : Nat → Prop}
theorem SS (HE : Pz Q w0 T N) (hx0 : D AO Sx w0 [.slice a xs.length c] xs) (hcap : xs.length ≤ c) (hf : Dy xs = true) : ∀ (dd k : Nat), k + dd = xs.length → KW Q w0 xs a c g c4 T N k := by
 obtain ⟨hall, hl80⟩ := Hj hf
 have hn := hx0.n
 intro dd
 induction dd with
 | zero =>
  intro k hd e w S cur b a6 n6 c6 sn e0 e4 e6 e7 hn6 hw hok hs hr hT hN
  subst hn6
  rw [E8]
  obtain rfl : k = xs.length := by omega
  rw [List.drop_eq_nil_of_le (by omega)] at hT hN
  have hT' : sn = T := by rw [← hT]; simp [Ca]
  have hN' : xs.length = N := by rw [← hN]; rfl
  subst hT'
  have := HE _ _ _ _ _ _ _ hw
  rw [← hN'] at this
  simp (disch := first | exact xD | fail) [-Option.bind_some, -Aa, -Ab, e0, e6, e7]
  exact this
 | succ dd ih =>
  intro k hd e w S cur b a6 n6 c6 sn e0 e4 e6 e7 hn6 hw hok hs hr hT hN
  subst hn6
  have IH := ih (k + 1) (by omega)
  rw [E8]
  have hlt : k < xs.length := by omega
  obtain ⟨x, hx, hdx⟩ := Ak hlt
  have hxo : Cw x = true := List.all_eq_true.1 hall x (List.mem_of_getElem? hx)
  have hw' := hw
  obtain ⟨⟨X1, hc4, hvs⟩, hown, hSg, hbg, hg0', hgl, hSl, E0⟩ := hw
  have zE0 := E0.size
  try simp only [qz] at zE0
  obtain ⟨b1, o1, cs1, rfl, A1, D1, _, l1⟩ := (hx0.ext E0).at (by decide) hx
  obtain rfl := D.done.1 D1
  have p0 := A1 0 _ rfl
  have p1 := A1 1 _ rfl
  have p2 := A1 2 _ rfl
  have p3 := A1 3 _ rfl
  have p4 := A1 4 _ rfl
  simp only [Nat.add_zero] at p0 p1 p2 p3 p4
  simp only [FG] at p0 p1 p2 p3 p4
  obtain ⟨⟨hs0, hs3⟩, _, ⟨hy0, hy3⟩, _⟩ := BS.1 hxo
  have hs4 : x.Ar < 4 := by omega
  have hy4 : x.key < 4 := by omega
  have hvl := Gj hok hxo
  obtain ⟨av, cv, hcell, hD⟩ := hvs _ _ (Je hok hxo)
  rw [hvl] at hcell hD
  have q0 : nth cur x.Ar.toNat = some (.slice av 4 cv) := by rw [← BQ]; exact hcell
  cases hk1 : (x.kind == 1)
  ·have hk1' : ¬ x.kind = 1 := by simpa using hk1
   have hlt2 : x.key.toNat < (view b x).length := by omega
   obtain ⟨y, hy, _⟩ := Ak hlt2
   have hgd : (view b x).getD x.key.toNat ⟨0, 0⟩ = y := by rw [List.getD_eq_getElem?_getD, hy]; rfl
   obtain ⟨b2, o2, cs2, rfl, A2, D2, hSb2, l2⟩ := hD.at (by decide) hy
   obtain rfl := D.tag.1 D2
   have u0 := A2 0 _ rfl
   have u1 := A2 1 _ rfl
   simp only [DK, Nat.add_zero] at u0 u1
   have hst : AZ b x = if AG x.tag y then none else if decide (0 < x.tag.t) then (match BE b.wr x.tag with
    | none => none
    | some (s, k, past) => if k != x.key || ((x.kind == 3) && (s != x.Ar)) then none else some ⟨b.vs.set x.Ar.toNat (Bb (AF (view b x) past) x.key.toNat x.tag), b.wr⟩) else some b := by
    unfold AZ
    rw [hk1, hgd]
    rfl
   simp (disch := first | exact xD | fail) [-Option.bind_some, qs, -Aa, -Ab, qm, e0, e4, e6, e7, hlt, CC, OZ, Em, X1, q0, hk1, p0, p1, p2, p3, p4, u0, u1]
   refine Ae.bind (AM x.tag y _) ?_
   rintro ⟨_, w1⟩ ⟨rfl, E1⟩
   try dsimp only at E1
   have zE1 := E1.size
   try simp only [qz] at zE1
   have F1 : Ext w w1 := xE
   cases hless : AG x.tag y
   ·rw [hless] at hst
    simp (disch := first | exact xD | fail) [-Option.bind_some, qs, -Aa, -Ab, E1.Ai]
    by_cases hpos : 0 < x.tag.t
    ·simp (disch := first | exact xD | fail) [-Option.bind_some, -Aa, -Ab, hpos]
     refine SR (am := some ⟨b2, o2, none⟩) (cm := cv) (g8 := w.heap.size) (g9 := w.heap.size + 1) (d := x) IH HE hx0 hcap (by exact e0) (by exact e4) (by exact e6) (by exact e7) (by exact rfl) (by exact rfl) (by omega) hw' xE (by omega) (by omega) (by omega) (by first | assumption | rfl | (simp (disch := first | exact xD | fail) [-Option.bind_some, qs, -Aa, -Ab, E1.Ai]; done)) (by first | assumption | rfl | (simp (disch := first | exact xD | fail) [-Option.bind_some, qs, -Aa, -Ab, E1.Ai]; done)) hD hxo hok hx hs hr hk1' (by rw [hgd]; exact hless) hpos hT hN
    ·have hpos' : decide (0 < x.tag.t) = false := by simpa using hpos
     have hst' : AZ b x = some b := by
      rw [hst, hpos']
      rfl
     have hset : b.vs.set x.Ar.toNat (view b x) = b.vs := by
      have := Je hok hxo
      apply List.ext_getElem?
      intro i
      by_cases hi : i = x.Ar.toNat
      ·subst hi
       rw [this, List.getElem?_set_self (List.getElem?_eq_some_iff.1 this).1]
      ·rw [List.getElem?_set_ne (Ne.symm hi)]
     simp (disch := first | exact xD | fail) [-Option.bind_some, -Aa, -Ab, hpos]
     have hvD : D AJ S w [.slice (some ⟨b2, o2, none⟩) (view b x).length cv] (view b x) := by rw [hvl]; exact hD
     refine Ob (cur := cur) (S := S) (g8 := w.heap.size) (g9 := w.heap.size + 1) (m := view b x) (am := some ⟨b2, o2, none⟩) (cm := cv) (d := x) (b' := b) IH (by exact e0) (by exact e4) (by exact e6) (by exact e7) (by exact rfl) (by exact rfl) (by omega) (hw'.ext xE) (by first | assumption | rfl | (simp (disch := first | exact xD | fail) [-Option.bind_some, qs, -Aa, -Ab, E1.Ai]; done)) (by rw [hvl]; exact (by first | assumption | rfl | (simp (disch := first | exact xD | fail) [-Option.bind_some, qs, -Aa, -Ab, E1.Ai]; done))) (hvD.ext xE) hxo hok hx hs hr (by rw [hset]) hst' hk1' ⟨by omega, by omega⟩ hT hN
   ·rw [hless] at hst
    simp (disch := first | exact xD | fail) [-Option.bind_some, -Aa, -Ab]
    exact EA HE (hw'.ext xE) hs hx hst hT hN
  ·have hk1' : x.kind = 1 := by simpa using hk1
   simp (disch := first | exact xD | fail) [-Option.bind_some, qs, -Aa, -Ab, qm, e0, e4, e7, hlt, CC, OZ, X1, q0, hk1, p0, p1, p2, p3, p4]
   refine SQ (am := av) (cm := cv) (g8 := w.heap.size) (g9 := w.heap.size + 1) (d := x) IH HE hx0 hcap (by exact e0) (by exact e4) (by exact e6) (by exact e7) (by exact rfl) (by exact rfl) (by omega) (hw'.ext xE) (by first | assumption | rfl | (simp (disch := first | exact xD | fail) [-Option.bind_some, qs, -Aa, -Ab]; done)) (by first | assumption | rfl | (simp (disch := first | exact xD | fail) [-Option.bind_some, qs, -Aa, -Ab]; done)) (hD.ext xE) hxo hok hx hs hr hk1' hT hN
end
section
variable {Q : Value × World → Prop} {w0 : World} {xs : List Done} {a : Option Addr} {c : Nat} {Sx : Nat → Prop}
theorem SU (HE : Pz Q w0 (Ca AU xs) (DB AU xs).2) (hx0 : D AO Sx w0 [.slice a xs.length c] xs) (hcap : xs.length ≤ c) (hf : Dy xs = true) : ∀ (dd k : Nat) (e : Env) (w : World) (S : Nat → Prop) (a4 : Option Addr) (c4 : Nat), k + dd = 4 → e 0 = .slice a xs.length c → e 4 = .slice a4 k c4 → e 5 = i64 k → Ew AJ 32 S w0.heap.size w (.slice a4 k c4) (List.replicate k (List.replicate 4 ⟨0, 0⟩)) → (∀ x, S x → w0.heap.size ≤ x ∧ x < w.heap.size) → Ext w0 w →
  Ae (CS e w) Q := by
 intro dd
 induction dd with
 | zero =>
  intro k e w S a4 c4 hd e0 e4 e5 ho hS E0
  have zE0 := E0.size
  try simp only [qz] at zE0
  obtain rfl : k = 4 := by omega
  rw [E7]
  obtain ⟨g, c4', cur, hsl, V, hg0, hSg, hgl⟩ := ho.vw rfl (fun _ _ _ h => h.Gn) (by simp)
  simp only [List.length_replicate, Value.slice.injEq, true_and] at hsl
  obtain ⟨rfl, rfl⟩ := hsl
  simp (disch := first | exact xD | fail) [-Option.bind_some, -Aa, -Ab, e5]
  have hw : SK w0 (w.alloc (.cells #[] 32 (0, 0))) S g cur AU (.slice (some ⟨w.heap.size, 0, none⟩) 0 0) [] := by
   refine ⟨V.Aj (Ag hgl) (fun b hb hl => Ag hl) (fun b hb _ => hb), Ew.U4 (by first | assumption | rfl | (simp (disch := first | exact xD | fail) [-Option.bind_some, qs, -Aa, -Ab]; done)) (fun h => by have := (hS _ h).2; omega) E0.size, hSg, ?_, hg0, by simp; omega, fun x hx => by have := hS x hx; simp; omega, xE⟩
   intro x hx
   simp only [Av, Option.toList_some, List.mem_singleton] at hx
   omega
  refine SS (g := g) (c4 := c4) (N := (DB AU xs).2) HE hx0 hcap hf xs.length 0 (by omega) _ _ S cur AU (some ⟨w.heap.size, 0, none⟩) 0 0 [] (by exact e0) (by exact e4) (by exact rfl) (by exact rfl) rfl hw Gm rfl (by simp [AU, Oy]) rfl (by simp)
 | succ dd ih =>
  intro k e w S a4 c4 hd e0 e4 e5 ho hS E0
  have zE0 := E0.size
  try simp only [qz] at zE0
  rw [E7]
  have hk : k < 4 := by omega
  have hk0 : (k : Int) < 4 := by omega
  have zE0' := E0.size
  simp (disch := first | exact xD | fail) [-Option.bind_some, qs, -Aa, -Ab, e4, e5, hk0]
  refine Ae.bind (FO) ?_
  rintro ⟨_, w1⟩ ⟨a1, c1, rfl, o1, E1⟩
  try dsimp only at a1 c1 o1 E1
  have zE1 := E1.size
  try simp only [qz] at zE1
  have F1 : Ext w w1 := xE
  have o1d := o1.d
  simp (disch := first | exact xD | fail) [-Option.bind_some, -Aa, -Ab]
  have hSb : ∀ x, (S x ∨ In w.heap.size w1.heap.size x) → w0.heap.size ≤ x ∧ x < w1.heap.size := by
   rintro x (h | h)
   ·have := hS x h
    omega
   ·simp only [In] at h
    omega
  have h2 : Ew AJ 32 (fun x => S x ∨ In w.heap.size w1.heap.size x) w0.heap.size (w1.alloc (.cells #[.slice a1 4 c1] 32 (0, 0))) (.slice a4 k c4) (List.replicate k (List.replicate 4 ⟨0, 0⟩)) := by
   have hb := ho
   obtain ⟨_, _, _, hh⟩ := hb
   refine (ho.Aj (fun b _ hl => (Ag (by omega)).trans (F1.Ai hl)) (by simp; omega)).wide (fun x h => .inl h) ?_
   rintro b hb (h | h)
   ·exact (hh b hb).1 h
   ·have := (hh b hb).2
    simp only [In] at h
    omega
  refine Ae.bind (Ew.U0 (P := P) (mx := 5864062014805) (ty := 58) Qk RP rfl (by decide) h2 (E' := 32) (cs := [.slice a1 4 c1]) (x := List.replicate 4 ⟨0, 0⟩) ((o1d.wide (fun b hb _ => .inr (by simpa [In] using hb))).ext xE) (by first | assumption | rfl | (simp (disch := first | exact xD | fail) [-Option.bind_some, qs, -Aa, -Ab]; done)) (fun b hb => by have := (hSb b hb).2; simp; omega) (by simp; omega) (by simp; omega) (by decide) (by decide)) ?_
  rintro ⟨_, w2⟩ ⟨a2, c2, rfl, h3, h4, h5⟩
  dsimp only at h3 h4
  have zh4 := h4.size
  simp only [World.size_alloc] at zh4
  simp only [List.length_replicate] at h3
  simp (disch := first | exact xD | fail) [-Option.bind_some, -Aa, -Ab]
  refine ih (k + 1) _ w2 _ a2 c2 (by omega) (by exact e0) (by exact rfl) (by exact (congrArg i64 (by omega) : i64 ((k : Int) + 1) = i64 ((k + 1 : Nat) : Int))) (by rw [List.replicate_succ']; exact h3) (fun x hx => by have := hSb x hx; omega) ?_
  exact Ext.VL (E0.tr (F1.al _)) h4 (fun x hx => ho.Ai x (by simp [hx]))
end
theorem HG {a : Option Addr} {n c : Nat} {Sx : Nat → Prop} {xs : List Done} {w : World} (ha : D AO Sx w [.slice a n c] xs) (hc : n ≤ c) (hf : Dy xs = true) :
  Ae (EV P 31 #[.slice a n c] w) fun r => ∃ a2 c2 S, r.1 = .tuple #[.slice a2 (Ca AU xs).length c2, i64 (DB AU xs).2] ∧ D NW S r.2 [.slice a2 (Ca AU xs).length c2] (Ca AU xs) ∧ (∀ x, S x → w.heap.size ≤ x ∧ x < r.2.heap.size) ∧ Ext w r.2 := by
 obtain ⟨rfl, hm, _⟩ := ha.n
 refine Ae.post fun Q hQ => ?_
 refine Ae.enter plain mixed (KB _ _) (by kernel_rfl) (n := 1) (by kernel_rfl) rfl ?_
 simp (disch := first | exact xD | fail) [-Option.bind_some, -Aa, -Ab]
 refine SU (w0 := w) (c := c) ?_ ha hc hf 4 0 _ _ (fun _ => False) (some ⟨w.heap.size, 0, none⟩) 0 (by omega) (by exact rfl) (by exact rfl) (by exact rfl) (Ew.U4 (by first | assumption | rfl | (simp (disch := first | exact xD | fail) [-Option.bind_some, qs, -Aa, -Ab]; done)) id (Nat.le_refl _)) (fun _ h => h.elim) xE
 intro w' S g cur b a6 c6 hw
 obtain ⟨V, ho, hSg, hbg, hg0, hgl, hSl, E0⟩ := hw
 have zE0 := E0.size
 try simp only [qz] at zE0
 have hle := Rc xs AU
 refine hQ _ ⟨a6, c6, _, rfl, ho.d (by have := (Hj hf).2; omega), ?_, E0⟩
 rintro x (h | h)
 ·exact hSl x h
 ·exact ⟨ho.Ai x h, by obtain ⟨_, _, _, hh⟩ := ho; exact (hh x h).2⟩
theorem IB {xs : List Done} : Nl xs = true ↔ Dy xs = true ∧ (DB AU xs).2 = xs.length := by simp [Nl]
theorem OM {a : Option Addr} {n c : Nat} {Sx : Nat → Prop} {xs : List Done} {w : World} (ha : D AO Sx w [.slice a n c] xs) (hc : n ≤ c) :
  Ae (EV P 33 #[.slice a n c] w) fun r => r.1 = .bool (Nl xs) ∧ Ext w r.2 := by
 have hn := ha.n
 refine Ae.post fun Q hQ => ?_
 refine Ae.enter plain mixed (NK _ _) (by kernel_rfl) (n := 1) (by kernel_rfl) rfl ?_
 simp (disch := first | exact xD | fail) [-Option.bind_some, -Aa, -Ab]
 refine Ae.bind (Mu ha) ?_
 rintro ⟨_, w1⟩ ⟨rfl, E1⟩
 try dsimp only at E1
 have zE1 := E1.size
 try simp only [qz] at zE1
 cases hf : Dy xs
 ·simp (disch := first | exact xD | fail) [-Option.bind_some, -Aa, -Ab]
  exact hQ _ ⟨by simp [Nl, hf], xE⟩
 ·simp (disch := first | exact xD | fail) [-Option.bind_some, -Aa, -Ab]
  refine Ae.bind (HG (ha.ext xE) hc hf) ?_
  rintro ⟨_, w2⟩ ⟨a2, c2, S, rfl, h2, h3, E2⟩
  try dsimp only at a2 c2 S h2 h3 E2
  have zE2 := E2.size
  try simp only [qz] at zE2
  have hq : (((DB AU xs).2 : Int) == (n : Int)) = decide ((DB AU xs).2 = xs.length) := by rw [Bool.eq_iff_iff]; simp only [beq_iff_eq, decide_eq_true_eq]; omega
  simp (disch := first | exact xD | fail) [-Option.bind_some, qs, -Aa, -Ab, hq]
  exact hQ _ ⟨by simp only [Nl, hf, Bool.true_and], xE⟩
theorem Kb {a a5 : Option Addr} {c c5 g4 g7 : Nat} {S Sx : Nat → Prop} {xs : List Done} {sn : List (List Tag)} {s : Int} {w0 : World} {T : List Tag} (hl : sn.length = xs.length) (hg4 : w0.heap.size ≤ g4) (hg7 : w0.heap.size ≤ g7) (h47 : g4 ≠ g7) (ha : D AO Sx w0 [.slice a xs.length c] xs) (hS : ∀ x, S x → w0.heap.size ≤ x ∧ x ≠ g4 ∧ x ≠ g7) :
  ∀ (d k : Nat) (e : Env) (w : World) (acc : List Tag) (aa : Option Addr) (ca : Nat), k + d = xs.length → e 0 = .slice a xs.length c → e 1 = i64 s → e 4 = pt g4 0 → e 5 = .slice a5 sn.length c5 → e 7 = pt g7 0 → e 8 = i64 k → (∃ v, hp w g4 = some (.cells #[v] 32 (0, 0))) → hp w g7 = some (.cells #[.slice aa acc.length ca] 32 (0, 0)) → D AJ S w [.slice aa acc.length ca] acc → D NW S w [.slice a5 sn.length c5] sn → Ext w0 w → Hi (xs.drop k) (sn.drop k) s acc = T →
  Ae (Cv e w) fun r => ∃ a2 c2, r.1 = .agg #[.slice a2 T.length c2] ∧ D AJ S r.2 [.slice a2 T.length c2] T ∧ Ext w0 r.2 := by
 have hn := ha.n
 intro d
 induction d with
 | zero =>
  intro k e w acc aa ca hd e0 e1 e4 e5 e7 e8 X4 X7 hacc hs E0 hT
  have zE0 := E0.size
  try simp only [qz] at zE0
  rw [En]
  obtain rfl : k = xs.length := by omega
  rw [List.drop_eq_nil_of_le (by omega)] at hT
  have hT' : acc = T := hT
  subst hT'
  obtain ⟨v, X4⟩ := X4
  have y4 := Aq X4
  have y7 := Aq X7
  refine Ae.post fun Q hQ => ?_
  simp (disch := first | exact xD | fail) [-Option.bind_some, -Aa, -Ab, qm, e0, e4, e7, e8, X4, X7]
  refine hQ _ ⟨aa, ca, rfl, hacc.Aj (fun b hb _ => Ac (hS b hb).2.1), xE⟩
 | succ d ih =>
  intro k e w acc aa ca hd e0 e1 e4 e5 e7 e8 X4 X7 hacc hs E0 hT
  have zE0 := E0.size
  try simp only [qz] at zE0
  rw [En]
  have X4' := X4
  obtain ⟨v, X4⟩ := X4
  have y4 := Aq X4
  have y7 := Aq X7
  have hlt : k < xs.length := by omega
  obtain ⟨x, hx, hdx⟩ := Ak hlt
  obtain ⟨p, hp', hdp⟩ := Ak (l := sn) (k := k) (by omega)
  rw [hdx, hdp, Hi] at hT
  obtain ⟨b1, o1, cs1, rfl, A1, D1, _, l1⟩ := (ha.ext E0).at (by decide) hx
  obtain rfl := D.done.1 D1
  have p0 := A1 0 _ rfl
  have p1 := A1 1 _ rfl
  have p2 := A1 2 _ rfl
  have p3 := A1 3 _ rfl
  have p4 := A1 4 _ rfl
  simp only [Nat.add_zero] at p0 p1 p2 p3 p4
  simp only [FG] at p0 p1 p2 p3 p4
  obtain ⟨b2, o2, cs2, rfl, A2, D2, _, l2⟩ := hs.at (by decide) hp'
  obtain ⟨a3, c3, rfl, D3⟩ := D2.Gn
  have q0 : Bn (hp w b2) (o2 + k) = some (.slice a3 p.length c3) := by have := A2 0 _ rfl; simpa only [OJ, Nat.mul_one, Nat.add_zero] using this
  have hlt2 : k < sn.length := by omega
  cases h1 : (x.Ar == s)
  ·rw [h1, Bool.false_and, if_neg (by decide)] at hT
   simp (disch := first | exact xD | fail) [-Option.bind_some, -Aa, -Ab, e0, e1, e8, hlt, CC, h1, p0]
   rw [Cz]
   simp (disch := first | exact xD | fail) [-Option.bind_some, qs, -Aa, -Ab, e8]
   exact ih (k + 1) _ _ acc aa ca (by omega) (by exact e0) (by exact e1) (by exact e4) (by exact e5) (by exact e7) (by exact (congrArg i64 (by omega) : i64 ((k : Int) + 1) = i64 ((k + 1 : Nat) : Int))) X4' X7 hacc hs E0 hT
  ·cases h2 : (x.kind != 1)
   ·rw [h1, h2, Bool.and_false, if_neg (by decide)] at hT
    have h2' : (x.kind == 1) = true := by simpa [bne] using h2
    simp (disch := first | exact xD | fail) [-Option.bind_some, -Aa, -Ab, e0, e1, e8, hlt, CC, h1, h2, p0, p1]
    rw [Cz]
    simp (disch := first | exact xD | fail) [-Option.bind_some, qs, -Aa, -Ab, e8]
    exact ih (k + 1) _ _ acc aa ca (by omega) (by exact e0) (by exact e1) (by exact e4) (by exact e5) (by exact e7) (by exact (congrArg i64 (by omega) : i64 ((k : Int) + 1) = i64 ((k + 1 : Nat) : Int))) X4' X7 hacc hs E0 hT
   ·rw [h1, h2, Bool.and_self, if_pos rfl] at hT
    simp (disch := first | exact xD | fail) [-Option.bind_some, -Aa, -Ab, qm, e0, e1, e5, e7, e8, hlt, CC, OZ, h1, h2, q0, X7, p0, p1]
    rw [Cz]
    simp (disch := first | exact xD | fail) [-Option.bind_some, qs, -Aa, -Ab, e8]
    have kk : ∀ b, S b → b < w.heap.size → hp (w.setRow g7 #[.slice a3 p.length c3]) b = hp w b := fun b hb _ => Ac (hS b hb).2.2
    exact ih (k + 1) _ _ p a3 c3 (by omega) (by exact e0) (by exact e1) (by exact e4) (by exact e5) (by exact e7) (by exact (congrArg i64 (by omega) : i64 ((k : Int) + 1) = i64 ((k + 1 : Nat) : Int))) ⟨v, (Ac h47).trans X4⟩ (by first | assumption | rfl | (simp (disch := first | exact xD | fail) [-Option.bind_some, -Aa, -Ab, X7]; done)) (D3.Aj kk) (hs.Aj kk) xE hT
theorem Ea {a : Option Addr} {n c : Nat} {Sx : Nat → Prop} {xs : List Done} {s : Int} {w : World} (ha : D AO Sx w [.slice a n c] xs) (hc : n ≤ c) :
  Ae (EV P 16 #[.slice a n c, i64 s] w) fun r => ∃ a2 c2 S, r.1 = .agg #[.slice a2 (Bq xs s).length c2] ∧ D AJ S r.2 [.slice a2 (Bq xs s).length c2] (Bq xs s) ∧ (∀ x, S x → w.heap.size ≤ x) ∧ Ext w r.2 := by
 obtain ⟨rfl, hm, _⟩ := ha.n
 refine Ae.post fun Q hQ => ?_
 refine Ae.enter plain mixed (JS _ _ _) (by kernel_rfl) (n := 2) (by kernel_rfl) rfl ?_
 simp (disch := first | exact xD | fail) [-Option.bind_some, qs, -Aa, -Ab]
 refine Ae.bind (OM (ha.ext xE) hc) ?_
 rintro ⟨_, w1⟩ ⟨rfl, E1⟩
 try dsimp only at E1
 have zE1 := E1.size
 try simp only [qz] at zE1
 have X1 : hp w1 w.heap.size = some (.cells #[.slice none 0 0] 32 (0, 0)) := (E1.Ai (by simp)).trans (by first | assumption | rfl | (simp (disch := first | exact xD | fail) [-Option.bind_some, qs, -Aa, -Ab]; done))
 cases h : Nl xs
 ·rw [show Bq xs s = [] by simp [Bq, h]] at hQ
  simp (disch := first | exact xD | fail) [-Option.bind_some, -Aa, -Ab, qm, X1]
  exact hQ _ ⟨none, 0, fun _ => False, rfl, D.nil _ _, fun _ h => h.elim, xE⟩
 ·obtain ⟨hf, hN⟩ := IB.1 h
  cases hin : (decide (0 ≤ s) && decide (s ≤ 3))
  ·rw [show Bq xs s = [] by simp [Bq, hin]] at hQ
   simp (disch := first | exact xD | fail) [-Option.bind_some, -Aa, -Ab]
   refine Ae.bind (AD s 0 3 _) ?_
   rintro ⟨_, w2⟩ h2
   try dsimp only at h2
   simp only [Prod.mk.injEq] at h2
   obtain ⟨rfl, rfl⟩ := h2
   simp (disch := first | exact xD | fail) [-Option.bind_some, -Aa, -Ab, qm, X1, hin]
   exact hQ _ ⟨none, 0, fun _ => False, rfl, D.nil _ _, fun _ h => h.elim, xE⟩
  ·have hin' := hin
   simp only [Bool.and_eq_true, decide_eq_true_eq] at hin'
   obtain ⟨hs0, hs3⟩ := hin'
   have hT : Hi xs (Ca AU xs) s (List.replicate 4 ⟨0, 0⟩) = Bq xs s := by
    rw [← Pv hs0 hs3, KI xs AU s Gm (Hj hf).1 hs0 hs3 hN]
    simp [Bq, h, hin]
   simp (disch := first | exact xD | fail) [-Option.bind_some, -Aa, -Ab]
   refine Ae.bind (AD s 0 3 _) ?_
   rintro ⟨_, w2⟩ h2
   try dsimp only at h2
   simp only [Prod.mk.injEq] at h2
   obtain ⟨rfl, rfl⟩ := h2
   simp (disch := first | exact xD | fail) [-Option.bind_some, -Aa, -Ab, hs3, hs0]
   refine Ae.bind (HG (ha.ext xE) hc hf) ?_
   rintro ⟨_, w3⟩ ⟨a5, c5, S, rfl, h3, h4, E3⟩
   try dsimp only at a5 c5 S h3 h4 E3
   have zE3 := E3.size
   try simp only [qz] at zE3
   simp (disch := first | exact xD | fail) [-Option.bind_some, qs, -Aa, -Ab]
   refine Ae.bind (FO) ?_
   rintro ⟨_, w4⟩ ⟨a6, c6, rfl, o4, E4⟩
   try dsimp only at a6 c6 o4 E4
   have zE4 := E4.size
   try simp only [qz] at zE4
   have F4 : Ext w w4 := xE
   have o4d := o4.d
   simp (disch := first | exact xD | fail) [-Option.bind_some, -Aa, -Ab, qm]
   have hln := Jk xs AU
   have X4 : hp w4 w.heap.size = some (.cells #[.slice none 0 0] 32 (0, 0)) := (E4.Ai (by omega)).trans ((E3.Ai (by omega)).trans X1)
   have E5 : Ext w4 ((w4.alloc (.cells #[.slice none 0 0] 32 (0, 0))).setRow w4.heap.size #[.slice a6 4 c6]) := xE
   have zE5 := E5.size
   try simp only [qz] at zE5
   refine Ae.mono (Kb (S := fun x => S x ∨ In w3.heap.size w4.heap.size x) (g4 := w.heap.size) (g7 := w4.heap.size) (sn := Ca AU xs) (a5 := a5) (c5 := c5) (by omega) (Nat.le_refl _) (by omega) (by omega) ha ?_ xs.length 0 _ _ (List.replicate 4 ⟨0, 0⟩) a6 c6 (by omega) (by exact rfl) (by exact rfl) (by exact rfl) (by exact rfl) (by exact rfl) (by exact rfl) ⟨_, (E5.Ai (by omega)).trans X4⟩ (by first | assumption | rfl | (simp (disch := first | exact xD | fail) [-Option.bind_some, qs, -Aa, -Ab]; done)) ((o4d.wide (fun b hb _ => .inr hb)).ext E5) ((h3.wide (fun b hb _ => .inl hb)).ext (E4.tr E5)) (F4.tr E5) hT) ?_
   ·rintro x (h | h)
    ·have := h4 x h
     omega
    ·simp only [In] at h
     omega
   ·rintro r ⟨a2, c2, k1, k2, k3⟩
    refine hQ _ ⟨a2, c2, _, k1, k2, ?_, k3⟩
    rintro x (h | h)
    ·have := h4 x h
     omega
    ·simp only [In] at h
     omega
end Go.Proofs.YtjhhommnkaemlaaGreat.X
