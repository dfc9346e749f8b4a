/- A part of the proof, without conditions. -/
import Derived.Test.YtjhhommnkaemlaaGreatEvHi
set_option linter.unusedVariables false
set_option linter.unusedSimpArgs false
set_option linter.deprecated false
namespace Go.Ev
open Go Go.RowKit
def Ca : Book → List Done → List (List Tag)
 | _, [] => []
 | b, d :: l => match AZ b d with
  | none => []
  | some b' => view b' d :: Ca b' l
theorem KG {b : Book} {d : Done} {l : List Done} (h : AZ b d = none) : Ca b (d :: l) = [] := by rw [Ca, h]
theorem Gp {b b' : Book} {d : Done} {l : List Done} (h : AZ b d = some b') : Ca b (d :: l) = view b' d :: Ca b' l := by rw [Ca, h]
theorem Jk : ∀ (l : List Done) (b : Book), (Ca b l).length = (DB b l).2
 | [], b => rfl
 | d :: l, b => by
  cases h : AZ b d with
  | none => rw [KG h, Dz h]; rfl
  | some b' => rw [Gp h, BT h, List.length_cons, Jk l b']
theorem Rc (l : List Done) (b : Book) : (Ca b l).length ≤ l.length := by rw [Jk]; exact SI l b
theorem KH {b : Book} (h : b.Ok) {d : Done} (hd : Cw d = true) (m : List Tag) (wr : Wr) : view ⟨b.vs.set d.Ar.toNat m, wr⟩ d = m := by
 have hs := (BS.1 hd).1
 have : d.Ar.toNat < b.vs.length := by have := h.1; omega
 unfold view
 rw [List.getD_eq_getElem?_getD, List.getElem?_set_self this, Option.getD_some]
theorem Re {b b' : Book} (h : b.Ok) {d : Done} (hd : Cw d = true) (hs : AZ b d = some b') : b'.wr = b.wr ++ (if d.kind == 1 then [(d.tag, d.Ar, d.key, view b' d)] else []) := by
 unfold AZ at hs
 split at hs
 ·rename_i hk
  rw [hk]
  split at hs
  ·cases hs
  ·cases hs
   rfl
 ·rename_i hk
  rw [if_neg hk, List.append_nil]
  split at hs
  ·cases hs
  ·split at hs
   ·split at hs
    ·cases hs
    ·split at hs
     ·cases hs
     ·cases hs
      rfl
   ·cases hs
    rfl
theorem Pu : ∀ (l : List Done) (b : Book), b.Ok → l.all Cw = true → (DB b l).1.Ok
 | [], b, h, _ => h
 | d :: l, b, h, hl => by
  rw [List.all_cons, Bool.and_eq_true] at hl
  cases hs : AZ b d with
  | none => rw [Dz hs]; exact h
  | some b' => rw [BT hs]; exact Pu l b' (Gk h hl.1 hs) hl.2
section
variable {P : Program} {α : Type} {L : Lay α} {S S1 S' : Nat → Prop} {w w' : World} {E mx B : Nat}
theorem Ew.wide {s : Value} {xs : List α} (h : Ew L E S B w s xs) (k : ∀ b, S b → S' b) (k' : ∀ b ∈ (Av s).toList, ¬ S' b) : Ew L E S' B w s xs := by
 obtain ⟨css, h1, h2, h3⟩ := h
 exact ⟨css, h1, h2.imp fun _ _ h => h.wide fun b h _ => k b h, fun b hb => ⟨k' b hb, (h3 b hb).2⟩⟩
theorem Ew.U0 {t ty y : Nat} (hE : EZ P t = some (E, L.n, y)) {z : List Value} (hz : Cg P E = some z) (hzs : z.length = L.n) (h0 : 0 < L.n) {a0 : Option Addr} {n0 c0 g c E' : Nat} {xs : List α} {x : α} {cs : List Value}
  (ho : Ew L E S B w (.slice a0 n0 c0) xs) (hx : D L S w cs x) (hg : hp w g = some (.cells cs.toArray E' (0, 0))) (hS : ∀ b, S b → b < w.heap.size) (hB : B ≤ w.heap.size) (hl : xs.length + 1 ≤ mx) (hy : mx * y ≤ 140737488355328) (hm2 : mx ≤ 140737488355328) :
  Ae (Au P #[t, t] ty #[.slice a0 n0 c0, .slice (some ⟨g, 0, none⟩) 1 c] w) fun r => ∃ a' c', r.1 = .slice a' (xs.length + 1) c' ∧ Ew L E S B r.2 (.slice a' (xs.length + 1) c') (xs ++ [x]) ∧ But w r.2 (Av (.slice a0 n0 c0)) ∧ (Av (.slice a' (xs.length + 1) c') = Av (.slice a0 n0 c0) ∨ ∃ g, Av (.slice a' (xs.length + 1) c') = some g ∧ w.heap.size ≤ g) := by
 obtain ⟨c1, h1, h2, h3⟩ := ho
 have hb1 : (xs.length + 1) * y ≤ mx * y := Nat.mul_le_mul_right _ hl
 have hn0 : n0 = xs.length := by
  obtain ⟨_, _, h⟩ := h1
  rcases h with ⟨h, hh⟩ | ⟨_, _, _, h, _⟩
  ·simp only [Value.slice.injEq] at h; omega
  ·simp only [Value.slice.injEq] at h; omega
 have hA : At w g 0 cs := fun j v hj => by rw [hg]; simpa [Bn] using hj
 subst hn0
 refine Ae.mono (Kw hE hz hzs h0 h1 hB hA (m := 1) (by rw [hx.len, Nat.one_mul]) hx.one (by omega) (by omega) (by omega)) ?_
 rintro ⟨s1, w1⟩ ⟨h4, h5, h6⟩
 dsimp only at *
 obtain ⟨a', c', e1, _⟩ := h4.at
 have hg : ∀ b, S b → b < w.heap.size → hp w1 b = hp w b := fun b hb hs => h5.Ai b hs fun e => (h3 b (by simp [e])).1 hb
 subst e1
 refine ⟨a', c', rfl, ⟨c1 ++ [cs], ?_, BU.T8 (h2.imp fun _ _ h => h.Aj hg) ⟨hx.Aj hg, trivial⟩, fun b hb => ?_⟩, h5, ?_⟩
 ·rw [List.length_append, List.flatten_append]
  simpa using h4
 ·rcases h6 with h6 | ⟨g, h6, h7, h8⟩
  ·rw [h6] at hb
   exact ⟨(h3 b hb).1, Nat.lt_of_lt_of_le (h3 b hb).2 h5.size⟩
  ·rw [h6] at hb
   simp only [Option.toList_some, List.mem_singleton] at hb
   subst hb
   exact ⟨fun h => absurd (hS b h) (by omega), h8⟩
 ·rcases h6 with h6 | ⟨g, h6, h7, h8⟩
  ·exact .inl h6
  ·exact .inr ⟨g, h6, h7⟩
theorem Ew.U4 {g : Nat} (h : hp w g = some (.cells #[] E (0, 0))) (hS : ¬ S g) (hB : B ≤ g) : Ew L E S B w (.slice (some ⟨g, 0, none⟩) 0 0) [] :=
 ⟨[], ⟨by simp, by simp, .inr ⟨g, 0, #[], rfl, hB, h, by simp, by omega, by simp, by simp⟩⟩, trivial, fun b hb => by
  simp only [Av, Option.toList_some, List.mem_singleton] at hb
  subst hb
  exact ⟨hS, Aq h⟩⟩
end
section
variable {L : Lay (List Tag)} {S S' : Nat → Prop} {w0 w w' : World} {E B : Nat}
theorem Ew.vw (hL : L.n = 1) (hsl : ∀ (w : World) cs v, D L S w cs v → ∃ a c, cs = [.slice a v.length c] ∧ D L S w [.slice a v.length c] v) {s : Value} {vs : List (List Tag)} (h : Ew L E S B w s vs) (h0 : 0 < vs.length) :
  ∃ g c cur, s = .slice (some ⟨g, 0, none⟩) vs.length c ∧ Vw L w S E g cur vs ∧ B ≤ g ∧ ¬ S g ∧ g < w.heap.size := by
 have hd := h.d (mx := vs.length) (Nat.le_refl _)
 obtain ⟨css, h1, h2, h3⟩ := h
 obtain ⟨_, _, h⟩ := h1
 rcases h with ⟨h, hh⟩ | ⟨g, cap, cur, rfl, hB, hg, hn, hc, hs, ht⟩
 ·omega
 ·refine ⟨g, cap, cur.toList, rfl, ⟨by simpa using hg, ?_, fun i v hi => ?_⟩, hB, (h3 g (by simp [Av])).1, Aq hg⟩
  ·rw [hL] at hs
   simp only [Array.length_toList]
   omega
  ·obtain ⟨cs, hcs, hD⟩ := h2.get hi
   obtain ⟨a, c, rfl, hD'⟩ := hsl _ _ _ hD
   obtain ⟨b, o, cs', e1, hA, hD2, _⟩ := hd.at (by omega) hi
   simp only [Option.some.injEq, Addr.mk.injEq, and_true] at e1
   obtain ⟨rfl, rfl⟩ := e1
   obtain ⟨bs2, k1, k2⟩ := hD2
   have hlen : ∀ d ∈ css, d.length = 1 := fun d hd => by obtain ⟨x, _, h⟩ := h2.mem hd; exact hL ▸ h.len
   have hi' : i < css.length := (List.getElem?_eq_some_iff.1 hcs).1
   have hfl : css.flatten[i]? = some (.slice a v.length c) := by
    have : ∀ (css : List (List Value)) (i : Nat), (∀ d ∈ css, d.length = 1) → css[i]? = some [.slice a v.length c] → css.flatten[i]? = some (.slice a v.length c) := by
     intro css
     induction css with
     | nil => intro i _ h; simp at h
     | cons d css ih =>
      intro i hl h
      have hd1 := hl d (List.mem_cons_self ..)
      cases i with
      | zero =>
       simp only [List.getElem?_cons_zero, Option.some.injEq] at h
       subst h
       simp
      | succ i =>
       rw [List.flatten_cons, List.getElem?_append_right (by omega), hd1]
       exact ih i (fun d hd => hl d (List.mem_cons_of_mem _ hd)) (by simpa using h)
    exact this css i hlen hcs
   refine ⟨a, c, ?_, hD'⟩
   rw [← ht, List.getElem?_take] at hfl
   split at hfl
   ·exact hfl
   ·cases hfl
def Wk (L : Lay (List Tag)) (E : TypeId) (w0 w : World) (S : Nat → Prop) (g : Nat) (cur : List Value) (b : Book) (s : Value) (sn : List (List Tag)) : Prop :=
 Vw L w S E g cur b.vs ∧ Ew L E S w0.heap.size w s sn ∧ ¬ S g ∧ (∀ x ∈ (Av s).toList, x ≠ g) ∧ w0.heap.size ≤ g ∧ g < w.heap.size ∧ (∀ x, S x → w0.heap.size ≤ x ∧ x < w.heap.size) ∧ Ext w0 w
theorem Wk.ext {g : Nat} {cur : List Value} {b : Book} {s : Value} {sn : List (List Tag)} (h : Wk L E w0 w S g cur b s sn) (k : Ext w w') : Wk L E w0 w' S g cur b s sn := by
 obtain ⟨h1, h2, h3, h4, h5, h6, h7, h8⟩ := h
 have hs := k.size
 exact ⟨h1.Aj (k.Ai h6) (fun b _ hb => k.Ai hb) (fun b hb _ => hb), h2.Aj (fun b _ hb => k.Ai hb) hs, h3, h4, h5, by omega, fun x hx => by have := h7 x hx; omega, h8.tr k⟩
theorem Wk.wide {g : Nat} {cur : List Value} {b : Book} {s : Value} {sn : List (List Tag)} (h : Wk L E w0 w S g cur b s sn) (k : ∀ x, S x → S' x) (k' : ∀ x, S' x → w0.heap.size ≤ x ∧ x < w.heap.size) (kg : ¬ S' g) (ks : ∀ x ∈ (Av s).toList, ¬ S' x) : Wk L E w0 w S' g cur b s sn := by
 obtain ⟨h1, h2, h3, h4, h5, h6, h7, h8⟩ := h
 exact ⟨h1.Aj rfl (fun b _ hb => rfl) (fun b hb _ => k b hb), h2.wide k ks, kg, h4, h5, h6, k', h8⟩
theorem Wk.set {g : Nat} {cur : List Value} {b : Book} {s : Value} {sn : List (List Tag)} (h : Wk L E w0 w S g cur b s sn) {i : Nat} (hi : i < b.vs.length) {a : Option Addr} {c : Nat} {x : List Tag} (hx : D L S w [.slice a x.length c] x) :
  Wk L E w0 (w.setRow g (AH cur i [.slice a x.length c]).toArray) S g (AH cur i [.slice a x.length c]) ⟨b.vs.set i x, b.wr⟩ s sn := by
 obtain ⟨h1, h2, h3, h4, h5, h6, h7, h8⟩ := h
 refine ⟨h1.put h3 hi hx rfl, h2.Aj (fun b hb hl => Ac fun e => ?_) (by simp), h3, h4, h5, by simpa using h6, fun x hx => by simpa using h7 x hx, h8.set h5 _⟩
 subst e
 rcases hb with hb | hb
 ·exact h3 hb
 ·exact h4 _ hb rfl
theorem Wk.push {P : Program} {t ty y : Nat} (hL : L.n = 1) (hE : EZ P t = some (E, L.n, y)) {z : List Value} (hz : Cg P E = some z) (hzs : z.length = L.n) {g g1 c E' n : Nat} {cur : List Value} {b : Book} {a0 : Option Addr} {c0 mx : Nat} {sn : List (List Tag)}
  (h : Wk L E w0 w S g cur b (.slice a0 n c0) sn) {x : List Tag} {v : Value} (hx : D L S w [v] x) (hg : hp w g1 = some (.cells #[v] E' (0, 0))) (hl : sn.length + 1 ≤ mx) (hy : mx * y ≤ 140737488355328) (hm2 : mx ≤ 140737488355328) :
  Ae (Au P #[t, t] ty #[.slice a0 n c0, .slice (some ⟨g1, 0, none⟩) 1 c] w) fun r => ∃ a' c', r.1 = .slice a' (sn ++ [x]).length c' ∧ Wk L E w0 r.2 S g cur b (.slice a' (sn ++ [x]).length c') (sn ++ [x]) := by
 obtain ⟨h1, h2, h3, h4, h5, h6, h7, h8⟩ := h
 refine Ae.mono (Ew.U0 (mx := mx) hE hz hzs (by omega) h2 hx (by simpa using hg) (fun b hb => (h7 b hb).2) h8.size hl hy hm2) ?_
 rintro r ⟨a', c', e, h9, h10, h11⟩
 rw [List.length_append, List.length_singleton]
 have hs := h10.size
 have kk : ∀ b, S b → b < w.heap.size → hp r.2 b = hp w b := fun b hb hl => h10.Ai b hl fun e => by
  obtain ⟨css, _, _, hh⟩ := h2
  exact (hh b (by simp [e])).1 hb
 refine ⟨a', c', e, h1.Aj (h10.Ai g h6 fun e => h4 g (by simp [e]) rfl) kk (fun b hb _ => hb), h9, h3, fun y hy => ?_, h5, by omega, fun y hy => by have := h7 y hy; omega, ?_⟩
 ·rcases h11 with e | ⟨g2, e, hg2⟩
  ·rw [e] at hy
   exact h4 y hy
  ·rw [e] at hy
   simp only [Option.toList_some, List.mem_singleton] at hy
   omega
 ·exact ⟨h10.os.trans h8.os, h10.tape.trans h8.tape, h10.output.trans h8.output, Nat.le_trans h8.size hs, fun b hb => (h10.Ai b (Nat.lt_of_lt_of_le hb h8.size) fun e => by
   have := h2.Ai b (by simp [e])
   omega).trans (h8.Ai hb)⟩
end
end Go.Ev
namespace Go.Ev
open Go Go.RowKit
theorem Rf {b b' : Book} (h : b.Ok) {d : Done} (hd : Cw d = true) (hs : AZ b d = some b') : b'.vs = if d.kind == 1 then b.vs else b.vs.set d.Ar.toNat (view b' d) := by
 have hset : b.vs = b.vs.set d.Ar.toNat (view b d) := by
  have := Je h hd
  apply List.ext_getElem?
  intro i
  by_cases hi : i = d.Ar.toNat
  ·subst hi
   rw [this, List.getElem?_set_self (List.getElem?_eq_some_iff.1 this).1]
  ·rw [List.getElem?_set_ne (Ne.symm hi)]
 unfold AZ at hs
 split at hs
 ·rename_i hk
  rw [hk]
  split at hs
  ·cases hs
  ·cases hs
   rfl
 ·rename_i hk
  rw [if_neg hk]
  split at hs
  ·cases hs
  ·split at hs
   ·split at hs
    ·cases hs
    ·split at hs
     ·cases hs
     ·cases hs
      rw [KH h hd]
   ·cases hs
    exact hset
def Hi : List Done → List (List Tag) → Int → List Tag → List Tag
 | d :: l, p :: sn, s, acc => Hi l sn s (if (d.Ar == s) && (d.kind != 1) then p else acc)
 | _, _, _, acc => acc
theorem KI : ∀ (l : List Done) (b : Book) (s : Int), b.Ok → l.all Cw = true → 0 ≤ s → s ≤ 3 → (DB b l).2 = l.length → Hi l (Ca b l) s (b.vs.getD s.toNat []) = (DB b l).1.vs.getD s.toNat []
 | [], b, s, _, _, _, _, _ => rfl
 | d :: l, b, s, hb, hl, h0, h3, hn => by
  rw [List.all_cons, Bool.and_eq_true] at hl
  cases hs : AZ b d with
  | none => rw [Dz hs] at hn; simp at hn
  | some b' =>
   have hok := Gk hb hl.1 hs
   have hv := Rf hb hl.1 hs
   rw [BT hs] at hn ⊢
   rw [Gp hs, Hi]
   have ih := KI l b' s hok hl.2 h0 h3 (by simpa using hn)
   rw [← ih]
   congr 1
   have hsd := (BS.1 hl.1).1
   cases hk : (d.kind == 1)
   ·have hk' : (d.kind != 1) = true := by simp [bne, hk]
    rw [hk, if_neg (by decide)] at hv
    rw [hk', Bool.and_true]
    cases he : (d.Ar == s)
    ·have : d.Ar.toNat ≠ s.toNat := by
      have : ¬ d.Ar = s := by simpa using he
      omega
     rw [if_neg (by decide), hv, List.getD_eq_getElem?_getD, List.getD_eq_getElem?_getD, List.getElem?_set_ne this]
    ·obtain rfl : d.Ar = s := by simpa using he
     rfl
   ·have hk' : (d.kind != 1) = false := by simp [bne, hk]
    rw [hk, if_pos rfl] at hv
    rw [hk', Bool.and_false, if_neg (by decide), hv]
theorem Pv {s : Int} (h0 : 0 ≤ s) (h3 : s ≤ 3) : AU.vs.getD s.toNat [] = List.replicate 4 ⟨0, 0⟩ := by
 have : s.toNat < 4 := by omega
 rw [List.getD_eq_getElem?_getD]
 show (List.replicate 4 (List.replicate 4 _))[s.toNat]?.getD _ = _
 rw [List.getElem?_replicate, if_pos this]
 rfl
end Go.Ev
