/- A part of the proof, without conditions. -/
import Derived.Test.YtjhhommnkaemlaaGreatEvM
set_option linter.unusedVariables false
set_option linter.unusedSimpArgs false
set_option linter.deprecated false
namespace Go.Ev
open Go Go.RowKit
structure Tag where
 t : Int
 p : Int
 deriving DecidableEq
abbrev Tag.v (x : Tag) : Value := .agg #[i64 x.t, i64 x.p]
abbrev Ki (x : Tag) : List Value := [i64 x.t, i64 x.p]
theorem At.lt {w : World} {b o : Nat} {v : Value} {l : List Value} (h : At w b o (v :: l)) : b < w.heap.size := by
 have h1 := h 0 v rfl
 rcases Nat.lt_or_ge b w.heap.size with h' | h'
 ·exact h'
 ·rw [hp, Array.getElem?_eq_none h'] at h1; simp [Bn] at h1
def Sl (w : World) (s : Value) (n : Nat) (l : List Value) : Prop :=
 ∃ a c, s = .slice a n c ∧ n ≤ 9223372036854775807 ∧ (l = [] ∨ ∃ b o, a = some ⟨b, o, none⟩ ∧ At w b o l)
def SX (w w' : World) : Prop := ∀ b, b < w.heap.size → hp w' b = hp w b
theorem Ext.Aj {w w' : World} (h : Ext w w') : SX w w' := fun b hb => h.Ai hb
theorem Sl.mono {w w' : World} {s : Value} {n : Nat} {l : List Value} (h : Sl w s n l) (k : SX w w') : Sl w' s n l := by
 obtain ⟨a, c, h1, h2, h3⟩ := h
 exact ⟨a, c, h1, h2, h3.imp id fun ⟨b, o, h4, h5⟩ => ⟨b, o, h4, h5.mono k⟩⟩
theorem flat_get {α : Type} {m : Nat} : ∀ (css : List (List α)) (i : Nat) (cs : List α), (∀ c ∈ css, c.length = m) → css[i]? = some cs → ∀ (j : Nat) (v : α), cs[j]? = some v → css.flatten[i * m + j]? = some v
 | [], i, cs, hm, hi, j, v, hv => by simp at hi
 | c :: css, 0, cs, hm, hi, j, v, hv => by
  simp only [List.getElem?_cons_zero, Option.some.injEq] at hi
  subst hi
  have hj : j < c.length := (List.getElem?_eq_some_iff.1 hv).1
  simp only [List.flatten_cons, Nat.zero_mul, Nat.zero_add]
  rw [List.getElem?_append_left hj]; exact hv
 | c :: css, i + 1, cs, hm, hi, j, v, hv => by
  have hc := hm c List.mem_cons_self
  have ih := flat_get css i cs (fun c h => hm c (List.mem_cons_of_mem _ h)) (by simpa using hi) j v hv
  simp only [List.flatten_cons]
  rw [List.getElem?_append_right (by rw [hc, Nat.succ_mul]; omega), hc, show (i + 1) * m + j - m = i * m + j by rw [Nat.succ_mul]; omega]
  exact ih
theorem Sl.at {w : World} {s : Value} {n m : Nat} {css : List (List Value)} (h : Sl w s n css.flatten) (hm : ∀ c ∈ css, c.length = m) (h0 : 0 < m) {i : Nat} {cs : List Value} (hi : css[i]? = some cs) :
  ∃ b o c, s = .slice (some ⟨b, o, none⟩) n c ∧ At w b (o + i * m) cs := by
 obtain ⟨a, c, h1, h2, h3⟩ := h
 have hg := flat_get css i cs hm hi
 have hcs := hm cs (List.mem_of_getElem? hi)
 rcases h3 with h3 | ⟨b, o, h4, h5⟩
 ·have := hg 0 (cs[0]'(by omega)) (List.getElem?_eq_getElem (by omega))
  rw [h3] at this
  simp at this
 ·subst h4
  refine ⟨b, o, c, h1, fun j v hv => ?_⟩
  rw [Nat.add_assoc]
  exact h5 _ v (hg j v hv)
theorem Lk (z : List Value) (n : Nat) : (IW z n).length = n * z.length := by
 induction n with
 | zero => simp [IW]
 | succ n ih => simp only [IW, List.length_append, ih, Nat.succ_mul]; omega
def CN (ts : List Tag) : List Value := (ts.map Ki).flatten
def A0 (w : World) (s : Value) (ts : List Tag) : Prop := Sl w s ts.length (CN ts) ∧ ts.length ≤ 8796093021952
theorem A0.mono {w w' : World} {s : Value} {ts : List Tag} (h : A0 w s ts) (k : SX w w') : A0 w' s ts := ⟨Sl.mono h.1 k, h.2⟩
theorem A0.at {w : World} {s : Value} {ts : List Tag} (h : A0 w s ts) {i : Nat} {t : Tag} (hi : ts[i]? = some t) :
  ∃ b o c, s = .slice (some ⟨b, o, none⟩) ts.length c ∧ At w b (o + i * 2) (Ki t) :=
 Sl.at (css := ts.map Ki) h.1 (fun c hc => by obtain ⟨t, _, rfl⟩ := List.mem_map.1 hc; rfl) (by omega) (by simp [hi])
theorem A0.len {w : World} {s : Value} {ts : List Tag} (h : A0 w s ts) : ∃ a c, s = .slice a ts.length c ∧ ts.length ≤ 8796093021952 := by
 obtain ⟨⟨a, c, h1, h2, _⟩, h3⟩ := h
 exact ⟨a, c, h1, h3⟩
theorem At.same {w w' : World} {b o : Nat} {l : List Value} (h : At w b o l) (he : hp w' b = hp w b) : At w' b o l := by
 intro j v hv; rw [he]; exact h j v hv
theorem Sl.Aj {w w' : World} {s : Value} {n : Nat} {l : List Value} (h : Sl w s n l) (k : ∀ b ∈ (Av s).toList, hp w' b = hp w b) : Sl w' s n l := by
 obtain ⟨a, c, h1, h2, h3⟩ := h
 refine ⟨a, c, h1, h2, h3.imp id fun ⟨b, o, h4, h5⟩ => ⟨b, o, h4, h5.same (k b ?_)⟩⟩
 subst h1; subst h4; simp [Av]
theorem Il.sl {w : World} {B : Nat} {e : TypeId} {size : Nat} {s : Value} {n : Nat} {l : List Value} (h : Il w B e size s n l) : Sl w s n l := by
 obtain ⟨a, c, h1, h2, h3⟩ := h.at
 exact ⟨a, c, h1, h2, h3⟩
theorem Es (ts : List Tag) : (CN ts).length = ts.length * 2 := by
 induction ts with
 | nil => rfl
 | cons t ts ih => simp only [CN, List.map_cons, List.flatten_cons, List.length_append] at ih ⊢; rw [ih]; simp only [List.length_cons, List.length_nil]; omega
theorem QF (a b : List Tag) : CN (a ++ b) = CN a ++ CN b := by simp [CN]
theorem Ll (a : Tag) (b : List Tag) : CN (a :: b) = Ki a ++ CN b := by simp [CN]
theorem Hk {α : Type} {l : List α} {k : Nat} {x : α} (h : l[k]? = some x) : l.take (k + 1) = l.take k ++ [x] := by
 rw [List.take_add_one, h]; rfl
structure Ver where
 key : Int
 tag : Tag
 past : List Tag
 text : ByteArray
 gone : Bool
def Og (w : World) (cs : List Value) (v : Ver) : Prop := ∃ s, cs = [i64 v.key, i64 v.tag.t, i64 v.tag.p, s, .string v.text, .bool v.gone] ∧ A0 w s v.past ∧ v.text.size ≤ 140737488351232
def Xh : List Value → List Nat
 | _ :: _ :: _ :: s :: _ => (Av s).toList
 | _ => []
theorem Og.length {w : World} {cs : List Value} {v : Ver} (h : Og w cs v) : cs.length = 6 := by
 obtain ⟨s, h1, _⟩ := h
 rw [h1]; rfl
def BU {α β : Type} (R : α → β → Prop) : List α → List β → Prop
 | [], [] => True
 | a :: l, b :: m => R a b ∧ BU R l m
 | _, _ => False
theorem BU.imp {α β : Type} {R S : α → β → Prop} (hrs : ∀ a b, R a b → S a b) : ∀ {l : List α} {m : List β}, BU R l m → BU S l m
 | [], [], _ => trivial
 | a :: l, b :: m, h => ⟨hrs _ _ h.1, BU.imp hrs h.2⟩
 | [], _ :: _, h => h.elim
 | _ :: _, [], h => h.elim
theorem BU.get {α β : Type} {R : α → β → Prop} : ∀ {l : List α} {m : List β}, BU R l m → ∀ {i : Nat} {b : β}, m[i]? = some b → ∃ a, l[i]? = some a ∧ R a b
 | a :: l, b :: m, h, 0, b', hb => by simp only [List.getElem?_cons_zero, Option.some.injEq] at hb; subst hb; exact ⟨a, rfl, h.1⟩
 | a :: l, b :: m, h, i + 1, b', hb => by simpa using BU.get h.2 (by simpa using hb)
 | [], [], _, i, b', hb => by simp at hb
 | [], _ :: _, h, _, _, _ => h.elim
 | _ :: _, [], h, _, _, _ => h.elim
theorem BU.mem {α β : Type} {R : α → β → Prop} : ∀ {l : List α} {m : List β}, BU R l m → ∀ {a : α}, a ∈ l → ∃ b, b ∈ m ∧ R a b
 | a :: l, b :: m, h, x, hx => by
  rcases List.mem_cons.1 hx with rfl | hx
  ·exact ⟨b, List.mem_cons_self, h.1⟩
  ·obtain ⟨b', h1, h2⟩ := BU.mem h.2 hx
   exact ⟨b', List.mem_cons_of_mem _ h1, h2⟩
 | [], [], _, _, hx => by simp at hx
 | [], _ :: _, h, _, _ => h.elim
 | _ :: _, [], h, _, _ => h.elim
theorem BU.app {α β : Type} {R : α → β → Prop} : ∀ {l : List α} {m : List β} {a : α} {b : β}, BU R l m → R a b → BU R (l ++ [a]) (m ++ [b])
 | [], [], _, _, _, h => ⟨h, trivial⟩
 | a :: l, b :: m, _, _, h, h' => ⟨h.1, BU.app h.2 h'⟩
 | [], _ :: _, _, _, h, _ => h.elim
 | _ :: _, [], _, _, h, _ => h.elim
def IP (w : World) (s : Value) (vs : List Ver) : Prop := ∃ css, Sl w s vs.length css.flatten ∧ BU (Og w) css vs ∧ vs.length ≤ 1954687338211
theorem IP.at {w : World} {s : Value} {vs : List Ver} (h : IP w s vs) {i : Nat} {v : Ver} (hi : vs[i]? = some v) :
  ∃ b o c cs, s = .slice (some ⟨b, o, none⟩) vs.length c ∧ At w b (o + i * 6) cs ∧ Og w cs v := by
 obtain ⟨css, h1, h2, _⟩ := h
 obtain ⟨cs, h3, h4⟩ := h2.get hi
 obtain ⟨b, o, c, h5, h6⟩ := Sl.at h1 (fun c hc => by obtain ⟨v, _, hv⟩ := h2.mem hc; exact hv.length) (m := 6) (by omega) h3
 exact ⟨b, o, c, cs, h5, h6, h4⟩
theorem IP.len {w : World} {s : Value} {vs : List Ver} (h : IP w s vs) : ∃ a c, s = .slice a vs.length c ∧ vs.length ≤ 1954687338211 := by
 obtain ⟨css, ⟨a, c, h1, h2, _⟩, _, h3⟩ := h
 exact ⟨a, c, h1, h3⟩
def Bx (E B : Nat) (w : World) (s : Value) (ts : List Tag) : Prop := Il w B E 2 s ts.length (CN ts) ∧ ts.length ≤ 8796093021952
theorem Bx.r {E B : Nat} {w : World} {s : Value} {ts : List Tag} (h : Bx E B w s ts) : A0 w s ts := ⟨h.1.sl, h.2⟩
theorem Bx.Aj {E B : Nat} {w w' : World} {s : Value} {ts : List Tag} (h : Bx E B w s ts) (k : ∀ b ∈ (Av s).toList, hp w' b = hp w b) : Bx E B w' s ts :=
 ⟨h.1.Aj fun g hg => k g (by simp [hg]), h.2⟩
theorem Bx.lt {E B : Nat} {w : World} {s : Value} {ts : List Tag} (h : Bx E B w s ts) : ∀ b ∈ (Av s).toList, B ≤ b ∧ b < w.heap.size := by
 intro b hb
 have := h.1.lt (g := b) (by simpa using hb)
 exact ⟨this.1, this.2.1⟩
theorem Bx.from {E B C : Nat} {w : World} {s : Value} {ts : List Tag} (h : Bx E B w s ts) (hC : C ≤ B) : Bx E C w s ts := ⟨h.1.from hC, h.2⟩
theorem Ak {α : Type} {l : List α} {k : Nat} (h : k < l.length) : ∃ a, l[k]? = some a ∧ l.drop k = a :: l.drop (k + 1) :=
 ⟨l[k], List.getElem?_eq_getElem h, List.drop_eq_getElem_cons h⟩
def H5 (cur : List Value) (L : List Tag) : Prop := ∀ (i : Nat) (x : Tag), L[i]? = some x → cur[i * 2]? = some (i64 x.t) ∧ cur[i * 2 + 1]? = some (i64 x.p)
theorem H5.take : ∀ {L : List Tag} {cur : List Value}, H5 cur L → L.length * 2 ≤ cur.length → cur.take (L.length * 2) = CN L
 | [], cur, _, _ => by simp [CN]
 | x :: L, cur, h, hl => by
  have h0 := h 0 x rfl
  match cur, h0 with
  | a :: b :: cur, h0 =>
   simp only [Nat.zero_mul, List.getElem?_cons_zero, Option.some.injEq, Nat.zero_add, List.getElem?_cons_succ] at h0
   have ih := H5.take (L := L) (cur := cur) (fun i y hy => by
    have := h (i + 1) y (by simpa using hy)
    rw [Nat.succ_mul] at this
    simpa using this) (by simp only [List.length_cons, Nat.succ_mul] at hl; omega)
   rw [List.length_cons, Nat.succ_mul, List.take_succ_cons, List.take_succ_cons, ih, Ll, h0.1, h0.2]; rfl
  | [a], h0 => simp at h0
  | [], h0 => simp at h0
theorem H5.of {L : List Tag} {cur : List Value} (h : cur.take (L.length * 2) = CN L) : H5 cur L := by
 intro i x hx
 have hg := flat_get (m := 2) (L.map Ki) i (Ki x) (fun c hc => by obtain ⟨t, _, rfl⟩ := List.mem_map.1 hc; rfl) (by simp [hx])
 have hi : i < L.length := (List.getElem?_eq_some_iff.1 hx).1
 have g : ∀ j v, (CN L)[j]? = some v → j < L.length * 2 → cur[j]? = some v := fun j v hv hj => by
  rw [← h, List.getElem?_take, if_pos hj] at hv
  exact hv
 exact ⟨g _ _ (hg 0 _ rfl) (by omega), g _ _ (hg 1 _ rfl) (by omega)⟩
theorem Bx.put {E B : Nat} {w : World} {s : Value} {L : List Tag} (hf : Bx E B w s L) {j : Nat} (hj : j < L.length) :
  ∃ g cap cur, s = .slice (some ⟨g, 0, none⟩) L.length cap ∧ B ≤ g ∧ g < w.heap.size ∧ hp w g = some (.cells cur E (0, 0)) ∧ L.length * 2 ≤ cur.size ∧
   ∀ (y : Tag) (w' : World), hp w' g = some (.cells ((cur.toList.set (j * 2) (i64 y.t)).set (j * 2 + 1) (i64 y.p)).toArray E (0, 0)) → Bx E B w' s (L.set j y) := by
 obtain ⟨⟨hcl, hn, ho⟩, hbd⟩ := hf
 rcases ho with ⟨_, h⟩ | ⟨g, cap, cur, hs, hg, hh, hc, hcm, hcs, ht⟩
 ·omega
 have hle : L.length * 2 ≤ cur.size := Nat.le_trans (Nat.mul_le_mul_right _ hc) hcs
 refine ⟨g, cap, cur, hs, hg, Aq hh, hh, hle, fun y w' hw => ⟨⟨by rw [Es], by simpa using hn, .inr ⟨g, cap, _, by rw [hs, List.length_set], hg, hw, by simpa using hc, hcm, by simpa using hcs, ?_⟩⟩, by simpa using hbd⟩⟩
 have hin := H5.of ht
 refine H5.take (L := L.set j y) (fun i x hx => ?_) (by simpa using hle)
 rw [List.getElem?_set] at hx
 simp only [List.getElem?_set]
 split at hx
 ·rename_i hij
  subst hij
  obtain rfl : y = x := by simpa [hj] using hx
  have h1 : j * 2 + 1 < cur.toList.length := by simp; omega
  have h2 : j * 2 < cur.toList.length := by omega
  have h3 : ¬ j * 2 + 1 = j * 2 := by omega
  simp only [h3, if_false, if_true, h2, List.length_set, h1, and_self]
 ·rename_i hij
  have := hin i x hx
  have h1 : ¬ j * 2 + 1 = i * 2 := by omega
  have h2 : ¬ j * 2 = i * 2 := by omega
  have h3 : ¬ j * 2 + 1 = i * 2 + 1 := by omega
  have h4 : ¬ j * 2 = i * 2 + 1 := by omega
  simp only [h1, h2, h3, h4, if_false]
  exact this
theorem But.tr {a b c : World} {g : Option Nat} (h : But a b g) (k : But b c g) : But a c g :=
 ⟨k.os.trans h.os, k.tape.trans h.tape, k.output.trans h.output, Nat.le_trans h.size k.size, fun x hx hg => (k.Ai x (Nat.lt_of_lt_of_le hx h.size) hg).trans (h.Ai x hx hg)⟩
theorem But.set (w : World) (g : Nat) (cs : Array Value) : But w (w.setRow g cs) (some g) := ⟨rfl, rfl, rfl, by simp, fun b _ hb => Ac fun e => hb (by rw [e])⟩
theorem But.of {a b : World} (h : Ext a b) (g : Option Nat) : But a b g := ⟨h.os, h.tape, h.output, h.size, fun x hx _ => h.Ai hx⟩
def DC (x : Tag) : Bool := ((x.t == 0) && (x.p == 0)) || (decide (1 ≤ x.t) && decide (x.t ≤ 999) && (decide (0 ≤ x.p) && decide (x.p ≤ 2)))
def AG (a b : Tag) : Bool := decide (a.t < b.t) || ((a.t == b.t) && decide (a.p < b.p))
def Bl (a b : Tag) : Tag := if AG a b then b else a
def under : List Tag → List Tag → Bool
 | a :: p, b :: q => !AG b a && under p q
 | _, _ => true
def EP (m : Int) : List Tag → Int
 | [] => m
 | t :: l => EP (if t.t > m then t.t else m) l
theorem Ext.VL {a b c : World} {g : Option Nat} (h : Ext a b) (k : But b c g) (hg : ∀ x, g = some x → a.heap.size ≤ x) : Ext a c :=
 Below.trans h ⟨k.os, k.tape, k.output, k.size, fun x hx => k.Ai x (Nat.lt_of_lt_of_le hx h.size) fun e => absurd (hg x e) (by omega)⟩
theorem Qe {P : Program} {t ty E : Nat} (h : EZ P t = some (E, 2, 16)) (hz : Cg P E = some [i64 0, i64 0]) {B : Nat} {w : World} {sv : Value} {ts : List Tag} {x : Tag}
  (hf : Bx E B w sv ts) (hB : B ≤ w.heap.size) {b o c : Nat} (hA : At w b o (Ki x)) (hn : ts.length + 1 ≤ 8796093021952) :
  Ae (Au P #[t, t] ty #[sv, .slice (some ⟨b, o, none⟩) 1 c] w) fun r => Bx E B r.2 r.1 (ts ++ [x]) ∧ But w r.2 (Av sv) := by
 refine Ae.mono (Kw h hz rfl (by omega) hf.1 hB hA rfl rfl (by omega) (by omega) (by omega)) ?_
 rintro r ⟨h1, h2, _⟩
 refine ⟨⟨?_, by simpa using hn⟩, h2⟩
 rw [QF]
 simpa [CN] using h1
def GW (b : UInt8) : Bool := decide (33 ≤ (b.toNat : Int)) && decide ((b.toNat : Int) ≤ 126)
def Rz (s : ByteArray) : Bool := s.toList.all GW && decide ((s.size : Int) ≤ 8)
def TE (k : Int) : Bool := decide (0 ≤ k) && decide (k ≤ 3)
def B9 (vs : List Ver) : List Tag := vs.map (·.tag)
theorem Nr (s : ByteArray) : s.toList.length = s.size := by rw [ByteArray.toList_eq]; simp
structure Zon (B T : Nat) (w w' : World) : Prop where
 os : w'.os = w.os
 tape : w'.tape = w.tape
 output : w'.output = w.output
 size : w.heap.size ≤ w'.heap.size
 Ai : ∀ b, b < w.heap.size → (b < B ∨ T ≤ b) → hp w' b = hp w b
def Qf (k : Int) (v : Ver) : Int := k + 1 + 1 + 1 + 2 * v.past.length + 1 + 1
theorem DH {α β : Type} {f : α → List β} : ∀ {l : List α} {i j : Nat} {a b : α}, (l.flatMap f).Nodup → l[i]? = some a → l[j]? = some b → i ≠ j → ∀ x ∈ f a, x ∉ f b
 | [], i, j, a, b, _, hi, _, _ => by simp at hi
 | c :: l, i, j, a, b, hn, hi, hj, hne => by
  rw [List.flatMap_cons, List.nodup_append] at hn
  intro x hx hx2
  match i, j, hi, hj, hne with
  | 0, 0, _, _, hne => exact hne rfl
  | 0, j + 1, hi, hj, _ =>
   obtain rfl : c = a := by simpa using hi
   exact hn.2.2 x hx x (List.mem_flatMap.2 ⟨b, List.mem_of_getElem? (by simpa using hj), hx2⟩) rfl
  | i + 1, 0, hi, hj, _ =>
   obtain rfl : c = b := by simpa using hj
   exact hn.2.2 x hx2 x (List.mem_flatMap.2 ⟨a, List.mem_of_getElem? (by simpa using hi), hx⟩) rfl
  | i + 1, j + 1, hi, hj, hne => exact DH hn.2.1 (by simpa using hi) (by simpa using hj) (by omega) x hx hx2
def AF : List Tag → List Tag → List Tag
 | x :: xs, y :: ys => Bl x y :: AF xs ys
 | _, _ => []
theorem JH : ∀ {xs ys : List Tag} {k : Nat} {x y : Tag}, xs[k]? = some x → ys[k]? = some y → (AF xs ys)[k]? = some (Bl x y)
 | a :: xs, b :: ys, 0, x, y, hx, hy => by
  obtain rfl : a = x := by simpa using hx
  obtain rfl : b = y := by simpa using hy
  rfl
 | a :: xs, b :: ys, k + 1, x, y, hx, hy => by
  have := JH (xs := xs) (ys := ys) (k := k) (by simpa using hx) (by simpa using hy)
  simpa [AF] using this
 | [], _, k, x, y, hx, _ => by simp at hx
 | _ :: _, [], k, x, y, _, hy => by simp at hy
theorem Dj : ∀ {xs ys : List Tag}, xs.length = ys.length → (AF xs ys).length = xs.length
 | [], [], _ => rfl
 | a :: xs, b :: ys, h => by simp only [AF, List.length_cons]; rw [Dj (by simpa using h)]
 | [], _ :: _, h => by simp at h
 | _ :: _, [], h => by simp at h
theorem QG {xs ys : List Tag} {j : Nat} {x y : Tag} (hx : xs[j]? = some x) (hy : ys[j]? = some y) (hl : xs.length = ys.length) : ((AF xs ys).take j ++ xs.drop j).set j (Bl x y) = (AF xs ys).take (j + 1) ++ xs.drop (j + 1) := by
 have hj : j < xs.length := (List.getElem?_eq_some_iff.1 hx).1
 obtain ⟨z, hz, hdx⟩ := Ak hj
 have hl : ((AF xs ys).take j).length = j := by rw [List.length_take, Dj hl]; omega
 rw [Hk (JH hx hy), hdx, List.set_append_right _ _ (by omega), hl, Nat.sub_self, List.set_cons_zero, List.append_assoc]; rfl
theorem PA {cur : Array Value} {o : Nat} (h : o + 1 < cur.size) (a b : Value) : AH cur.toList o [a, b] = (cur.toList.set o a).set (o + 1) b := by
 apply List.ext_getElem?
 intro i
 have hl : cur.toList.length = cur.size := by simp
 rw [Aa, List.getElem?_set, List.getElem?_set]
 rcases Nat.lt_trichotomy i o with hi | rfl | hi
 ·rw [List.getElem?_append_left (by rw [List.length_take]; omega), List.getElem?_take, if_pos hi, if_neg (by omega), if_neg (by omega)]
 ·rw [List.getElem?_append_right (by rw [List.length_take]; omega), List.length_take, show i - min i cur.toList.length = 0 by omega]
  simp; omega
 ·rw [List.getElem?_append_right (by rw [List.length_take]; omega), List.length_take, show min o cur.toList.length = o by omega]
  by_cases h1 : i = o + 1
  ·subst h1
   rw [show o + 1 - o = 1 by omega]
   simp; omega
  ·obtain ⟨d, rfl⟩ : ∃ d, i = o + 2 + d := ⟨i - (o + 2), by omega⟩
   rw [if_neg (by omega), if_neg (by omega), show o + 2 + d - o = d + 2 by omega]
   simp [List.getElem?_drop]
def DI (w : World) (s : Value) (ns : List Int) : Prop :=
 ∃ a c, s = .slice a ns.length c ∧ ns.length ≤ c ∧ c ≤ 9223372036854775807 ∧ (∀ n ∈ ns, 0 ≤ n ∧ n ≤ 255) ∧ (ns = [] ∨ ∃ b o, a = some ⟨b, o, none⟩ ∧ At w b o (ns.map (Value.int .u8)))
theorem DI.mono {w w' : World} {s : Value} {ns : List Int} (h : DI w s ns) (k : SX w w') : DI w' s ns := by
 obtain ⟨a, c, h1, h2, h3, h4, h5⟩ := h
 exact ⟨a, c, h1, h2, h3, h4, h5.imp id fun ⟨b, o, h6, h7⟩ => ⟨b, o, h6, h7.mono k⟩⟩
def VM (t : TypeId) (w : World) (b : Nat) (s : Value) (pos : Int) : Prop := hp w b = some (.cells #[s, i64 pos] t (0, 0))
end Go.Ev
