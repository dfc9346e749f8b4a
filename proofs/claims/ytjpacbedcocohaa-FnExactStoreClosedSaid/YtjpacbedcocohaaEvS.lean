/- A part of the proof: an evaluator of the model, its laws, and contracts of functions; no condition. -/
import Derived.Test.YtjpacbedcocohaaEvM
set_option linter.unusedVariables false
namespace Go.Ev
open Go Go.RowKit

/-! ### Data, and how they lie -/
structure Tag where
  t : Int
  p : Int
  deriving DecidableEq
abbrev Tag.v (x : Tag) : Value := .agg #[i64 x.t, i64 x.p]
def Tag.zero : Tag := ⟨0, 0⟩
abbrev tagC (x : Tag) : List Value := [i64 x.t, i64 x.p]

theorem At.lt {w : World} {b o : Nat} {v : Value} {l : List Value} (h : At w b o (v :: l)) : b < w.heap.size := by
  have h1 := h 0 v rfl
  rcases Nat.lt_or_ge b w.heap.size with h' | h'
  · exact h'
  · rw [hp, Array.getElem?_eq_none h'] at h1; simp [cellO] at h1

/-- A slice of n elements, whose cells are l. -/
def Sl (w : World) (s : Value) (n : Nat) (l : List Value) : Prop :=
  ∃ a c, s = .slice a n c ∧ n ≤ 9223372036854775807 ∧ (l = [] ∨ ∃ b o, a = some ⟨b, o, none⟩ ∧ At w b o l)
/-- What stood stands. -/
def Keep (w w' : World) : Prop := ∀ b, b < w.heap.size → hp w' b = hp w b
theorem Ext.keep {w w' : World} (h : Ext w w') : Keep w w' := fun b hb => h.blk hb
theorem Sl.mono {w w' : World} {s : Value} {n : Nat} {l : List Value} (h : Sl w s n l) (k : Keep w w') : Sl w' s n l := by
  obtain ⟨a, c, h1, h2, h3⟩ := h
  exact ⟨a, c, h1, h2, h3.imp id fun ⟨b, o, h4, h5⟩ => ⟨b, o, h4, h5.mono k⟩⟩

theorem flat_get {α : Type} {m : Nat} : ∀ (css : List (List α)) (i : Nat) (cs : List α), (∀ c ∈ css, c.length = m) → css[i]? = some cs → ∀ (j : Nat) (v : α), cs[j]? = some v → css.flatten[i * m + j]? = some v
  | [], i, cs, hm, hi, j, v, hv => by simp at hi
  | c :: css, 0, cs, hm, hi, j, v, hv => by
    simp only [List.getElem?_cons_zero, Option.some.injEq] at hi
    subst hi
    have hj : j < c.length := (List.getElem?_eq_some_iff.1 hv).1
    simp only [List.flatten_cons, Nat.zero_mul, Nat.zero_add]
    rw [List.getElem?_append_left hj]; exact hv
  | c :: css, i + 1, cs, hm, hi, j, v, hv => by
    have hc := hm c List.mem_cons_self
    have ih := flat_get css i cs (fun c h => hm c (List.mem_cons_of_mem _ h)) (by simpa using hi) j v hv
    simp only [List.flatten_cons]
    rw [List.getElem?_append_right (by rw [hc, Nat.succ_mul]; omega), hc, show (i + 1) * m + j - m = i * m + j by rw [Nat.succ_mul]; omega]
    exact ih
/-- Element i of a slice. -/
theorem Sl.at {w : World} {s : Value} {n m : Nat} {css : List (List Value)} (h : Sl w s n css.flatten) (hm : ∀ c ∈ css, c.length = m) (h0 : 0 < m) {i : Nat} {cs : List Value} (hi : css[i]? = some cs) :
    ∃ b o c, s = .slice (some ⟨b, o, none⟩) n c ∧ At w b (o + i * m) cs := by
  obtain ⟨a, c, h1, h2, h3⟩ := h
  have hg := flat_get css i cs hm hi
  have hcs := hm cs (List.mem_of_getElem? hi)
  rcases h3 with h3 | ⟨b, o, h4, h5⟩
  · have := hg 0 (cs[0]'(by omega)) (List.getElem?_eq_getElem (by omega))
    rw [h3] at this
    simp at this
  · subst h4
    refine ⟨b, o, c, h1, fun j v hv => ?_⟩
    rw [Nat.add_assoc]
    exact h5 _ v (hg j v hv)

theorem zrep_len (z : List Value) (n : Nat) : (zrep z n).length = n * z.length := by
  induction n with
  | zero => simp [zrep]
  | succ n ih => simp only [zrep, List.length_append, ih, Nat.succ_mul]; omega
def tagCs (ts : List Tag) : List Value := (ts.map tagC).flatten
def rTags (w : World) (s : Value) (ts : List Tag) : Prop := Sl w s ts.length (tagCs ts) ∧ ts.length ≤ 8796093021952
theorem rTags.mono {w w' : World} {s : Value} {ts : List Tag} (h : rTags w s ts) (k : Keep w w') : rTags w' s ts := ⟨Sl.mono h.1 k, h.2⟩
theorem rTags.at {w : World} {s : Value} {ts : List Tag} (h : rTags w s ts) {i : Nat} {t : Tag} (hi : ts[i]? = some t) :
    ∃ b o c, s = .slice (some ⟨b, o, none⟩) ts.length c ∧ At w b (o + i * 2) (tagC t) :=
  Sl.at (css := ts.map tagC) h.1 (fun c hc => by obtain ⟨t, _, rfl⟩ := List.mem_map.1 hc; rfl) (by omega) (by simp [hi])
theorem rTags.len {w : World} {s : Value} {ts : List Tag} (h : rTags w s ts) : ∃ a c, s = .slice a ts.length c ∧ ts.length ≤ 8796093021952 := by
  obtain ⟨⟨a, c, h1, h2, _⟩, h3⟩ := h
  exact ⟨a, c, h1, h3⟩
theorem At.same {w w' : World} {b o : Nat} {l : List Value} (h : At w b o l) (he : hp w' b = hp w b) : At w' b o l := by
  intro j v hv; rw [he]; exact h j v hv
theorem Sl.keep {w w' : World} {s : Value} {n : Nat} {l : List Value} (h : Sl w s n l) (k : ∀ b ∈ (blkOf s).toList, hp w' b = hp w b) : Sl w' s n l := by
  obtain ⟨a, c, h1, h2, h3⟩ := h
  refine ⟨a, c, h1, h2, h3.imp id fun ⟨b, o, h4, h5⟩ => ⟨b, o, h4, h5.same (k b ?_)⟩⟩
  subst h1; subst h4; simp [blkOf]
theorem rTags.keep {w w' : World} {s : Value} {ts : List Tag} (h : rTags w s ts) (k : ∀ b ∈ (blkOf s).toList, hp w' b = hp w b) : rTags w' s ts := ⟨Sl.keep h.1 k, h.2⟩
theorem Own.sl {w : World} {B : Nat} {e : TypeId} {size : Nat} {s : Value} {n : Nat} {l : List Value} (h : Own w B e size s n l) : Sl w s n l := by
  obtain ⟨a, c, h1, h2, h3⟩ := h.at
  exact ⟨a, c, h1, h2, h3⟩
theorem tagCs_length (ts : List Tag) : (tagCs ts).length = ts.length * 2 := by
  induction ts with
  | nil => rfl
  | cons t ts ih => simp only [tagCs, List.map_cons, List.flatten_cons, List.length_append] at ih ⊢; rw [ih]; simp only [List.length_cons, List.length_nil]; omega
theorem tagCs_app (a b : List Tag) : tagCs (a ++ b) = tagCs a ++ tagCs b := by simp [tagCs]
theorem tagCs_cons (a : Tag) (b : List Tag) : tagCs (a :: b) = tagC a ++ tagCs b := by simp [tagCs]
theorem take_at {α : Type} {l : List α} {k : Nat} {x : α} (h : l[k]? = some x) : l.take (k + 1) = l.take k ++ [x] := by
  rw [List.take_add_one, h]; rfl
/-- What is written as element k of a row. -/
theorem row_put {cur : Array Value} {vs : List Value} {n m k : Nat} (hc : cur.size = n * m) (hk : k < n) (hv : vs.length = m) :
    (cur.toList.take (k * m) ++ (vs ++ cur.toList.drop (k * m + vs.length))).length = n * m ∧
    (cur.toList.take (k * m) ++ (vs ++ cur.toList.drop (k * m + vs.length))).take ((k + 1) * m) = cur.toList.take (k * m) ++ vs := by
  have h1 : (k + 1) * m ≤ n * m := Nat.mul_le_mul_right m hk
  rw [Nat.succ_mul] at h1
  have hl : cur.toList.length = n * m := by simpa using hc
  constructor
  · simp only [List.length_append, List.length_take, List.length_drop, hl, hv]
    omega
  · have h2 : (cur.toList.take (k * m) ++ vs).length = (k + 1) * m := by
      simp only [List.length_append, List.length_take, hl, hv, Nat.succ_mul]; omega
    rw [← List.append_assoc, ← h2, List.take_left]

structure Ver where
  key : Int
  tag : Tag
  past : List Tag
  text : ByteArray
  gone : Bool
/-- The cells of a version. -/
def rVer (w : World) (cs : List Value) (v : Ver) : Prop := ∃ s, cs = [i64 v.key, i64 v.tag.t, i64 v.tag.p, s, .string v.text, .bool v.gone] ∧ rTags w s v.past ∧ v.text.size ≤ 140737488351232
/-- The row of the causes. -/
def pastB : List Value → List Nat
  | _ :: _ :: _ :: s :: _ => (blkOf s).toList
  | _ => []
theorem rVer.keep {w w' : World} {cs : List Value} {v : Ver} (h : rVer w cs v) (k : ∀ b ∈ pastB cs, hp w' b = hp w b) : rVer w' cs v := by
  obtain ⟨s, rfl, h2, h3⟩ := h
  exact ⟨s, rfl, h2.keep k, h3⟩
theorem rVer.mono {w w' : World} {cs : List Value} {v : Ver} (h : rVer w cs v) (k : Keep w w') : rVer w' cs v := by
  obtain ⟨s, h1, h2, h3⟩ := h
  exact ⟨s, h1, h2.mono k, h3⟩
theorem rVer.length {w : World} {cs : List Value} {v : Ver} (h : rVer w cs v) : cs.length = 6 := by
  obtain ⟨s, h1, _⟩ := h
  rw [h1]; rfl
/-- Each of these as the other. -/
def All2 {α β : Type} (R : α → β → Prop) : List α → List β → Prop
  | [], [] => True
  | a :: l, b :: m => R a b ∧ All2 R l m
  | _, _ => False
theorem All2.length {α β : Type} {R : α → β → Prop} : ∀ {l : List α} {m : List β}, All2 R l m → l.length = m.length
  | [], [], _ => rfl
  | a :: l, b :: m, h => by simp [All2.length h.2]
  | [], _ :: _, h => h.elim
  | _ :: _, [], h => h.elim
theorem All2.imp {α β : Type} {R S : α → β → Prop} (hrs : ∀ a b, R a b → S a b) : ∀ {l : List α} {m : List β}, All2 R l m → All2 S l m
  | [], [], _ => trivial
  | a :: l, b :: m, h => ⟨hrs _ _ h.1, All2.imp hrs h.2⟩
  | [], _ :: _, h => h.elim
  | _ :: _, [], h => h.elim
theorem All2.get {α β : Type} {R : α → β → Prop} : ∀ {l : List α} {m : List β}, All2 R l m → ∀ {i : Nat} {b : β}, m[i]? = some b → ∃ a, l[i]? = some a ∧ R a b
  | a :: l, b :: m, h, 0, b', hb => by simp only [List.getElem?_cons_zero, Option.some.injEq] at hb; subst hb; exact ⟨a, rfl, h.1⟩
  | a :: l, b :: m, h, i + 1, b', hb => by simpa using All2.get h.2 (by simpa using hb)
  | [], [], _, i, b', hb => by simp at hb
  | [], _ :: _, h, _, _, _ => h.elim
  | _ :: _, [], h, _, _, _ => h.elim
theorem All2.mem {α β : Type} {R : α → β → Prop} : ∀ {l : List α} {m : List β}, All2 R l m → ∀ {a : α}, a ∈ l → ∃ b, b ∈ m ∧ R a b
  | a :: l, b :: m, h, x, hx => by
    rcases List.mem_cons.1 hx with rfl | hx
    · exact ⟨b, List.mem_cons_self, h.1⟩
    · obtain ⟨b', h1, h2⟩ := All2.mem h.2 hx
      exact ⟨b', List.mem_cons_of_mem _ h1, h2⟩
  | [], [], _, _, hx => by simp at hx
  | [], _ :: _, h, _, _ => h.elim
  | _ :: _, [], h, _, _ => h.elim
theorem All2.app {α β : Type} {R : α → β → Prop} : ∀ {l : List α} {m : List β} {a : α} {b : β}, All2 R l m → R a b → All2 R (l ++ [a]) (m ++ [b])
  | [], [], _, _, _, h => ⟨h, trivial⟩
  | a :: l, b :: m, _, _, h, h' => ⟨h.1, All2.app h.2 h'⟩
  | [], _ :: _, _, _, h, _ => h.elim
  | _ :: _, [], _, _, h, _ => h.elim

def rVers (w : World) (s : Value) (vs : List Ver) : Prop := ∃ css, Sl w s vs.length css.flatten ∧ All2 (rVer w) css vs ∧ vs.length ≤ 1954687338211
theorem rVers.mono {w w' : World} {s : Value} {vs : List Ver} (h : rVers w s vs) (k : Keep w w') : rVers w' s vs := by
  obtain ⟨css, h1, h2, h3⟩ := h
  exact ⟨css, h1.mono k, h2.imp fun _ _ h => h.mono k, h3⟩
theorem rVers.at {w : World} {s : Value} {vs : List Ver} (h : rVers w s vs) {i : Nat} {v : Ver} (hi : vs[i]? = some v) :
    ∃ b o c cs, s = .slice (some ⟨b, o, none⟩) vs.length c ∧ At w b (o + i * 6) cs ∧ rVer w cs v := by
  obtain ⟨css, h1, h2, _⟩ := h
  obtain ⟨cs, h3, h4⟩ := h2.get hi
  obtain ⟨b, o, c, h5, h6⟩ := Sl.at h1 (fun c hc => by obtain ⟨v, _, hv⟩ := h2.mem hc; exact hv.length) (m := 6) (by omega) h3
  exact ⟨b, o, c, cs, h5, h6, h4⟩
theorem rVers.len {w : World} {s : Value} {vs : List Ver} (h : rVers w s vs) : ∃ a c, s = .slice a vs.length c ∧ vs.length ≤ 1954687338211 := by
  obtain ⟨css, ⟨a, c, h1, h2, _⟩, _, h3⟩ := h
  exact ⟨a, c, h1, h3⟩
/-- Rows of one's own: tags, a version's cells, versions. -/
def fTags (E B : Nat) (w : World) (s : Value) (ts : List Tag) : Prop := Own w B E 2 s ts.length (tagCs ts) ∧ ts.length ≤ 8796093021952
def fVer (E B : Nat) (w : World) (cs : List Value) (v : Ver) : Prop := ∃ s, cs = [i64 v.key, i64 v.tag.t, i64 v.tag.p, s, .string v.text, .bool v.gone] ∧ fTags E B w s v.past ∧ v.text.size ≤ 140737488351232
def versB (s : Value) (css : List (List Value)) : List Nat := (blkOf s).toList ++ css.flatMap pastB
def fVers (E F B : Nat) (w : World) (s : Value) (vs : List Ver) : Prop := ∃ css, Own w B F 6 s vs.length css.flatten ∧ All2 (fVer E B w) css vs ∧ vs.length ≤ 1954687338211 ∧ (versB s css).Nodup
theorem fTags.r {E B : Nat} {w : World} {s : Value} {ts : List Tag} (h : fTags E B w s ts) : rTags w s ts := ⟨h.1.sl, h.2⟩
theorem fVer.r {E B : Nat} {w : World} {cs : List Value} {v : Ver} (h : fVer E B w cs v) : rVer w cs v := by
  obtain ⟨s, h1, h2, h3⟩ := h
  exact ⟨s, h1, h2.r, h3⟩
theorem fVers.r {E F B : Nat} {w : World} {s : Value} {vs : List Ver} (h : fVers E F B w s vs) : rVers w s vs := by
  obtain ⟨css, h1, h2, h3, _⟩ := h
  exact ⟨css, h1.sl, h2.imp fun _ _ h => h.r, h3⟩
theorem fTags.keep {E B : Nat} {w w' : World} {s : Value} {ts : List Tag} (h : fTags E B w s ts) (k : ∀ b ∈ (blkOf s).toList, hp w' b = hp w b) : fTags E B w' s ts :=
  ⟨h.1.keep fun g hg => k g (by simp [hg]), h.2⟩
theorem fTags.lt {E B : Nat} {w : World} {s : Value} {ts : List Tag} (h : fTags E B w s ts) : ∀ b ∈ (blkOf s).toList, B ≤ b ∧ b < w.heap.size := by
  intro b hb
  have := h.1.lt (g := b) (by simpa using hb)
  exact ⟨this.1, this.2.1⟩
theorem fVer.keep {E B : Nat} {w w' : World} {cs : List Value} {v : Ver} (h : fVer E B w cs v) (k : ∀ b ∈ pastB cs, hp w' b = hp w b) : fVer E B w' cs v := by
  obtain ⟨s, rfl, h2, h3⟩ := h
  exact ⟨s, rfl, h2.keep k, h3⟩
theorem fVer.lt {E B : Nat} {w : World} {cs : List Value} {v : Ver} (h : fVer E B w cs v) : ∀ b ∈ pastB cs, B ≤ b ∧ b < w.heap.size := by
  obtain ⟨s, rfl, h2, h3⟩ := h
  exact h2.lt
theorem fVer.length {E B : Nat} {w : World} {cs : List Value} {v : Ver} (h : fVer E B w cs v) : cs.length = 6 := h.r.length
theorem fVers.keep {E F B : Nat} {w w' : World} {s : Value} {vs : List Ver} (h : fVers E F B w s vs) (k : ∀ b, B ≤ b → b < w.heap.size → hp w' b = hp w b) : fVers E F B w' s vs := by
  obtain ⟨css, h1, h2, h3, h4⟩ := h
  exact ⟨css, h1.keep fun g hg => k g (h1.lt hg).1 (h1.lt hg).2.1, h2.imp fun _ _ h => h.keep fun b hb => k b (h.lt b hb).1 (h.lt b hb).2, h3, h4⟩
theorem fTags.from {E B C : Nat} {w : World} {s : Value} {ts : List Tag} (h : fTags E B w s ts) (hC : C ≤ B) : fTags E C w s ts := ⟨h.1.from hC, h.2⟩
theorem fVer.from {E B C : Nat} {w : World} {cs : List Value} {v : Ver} (h : fVer E B w cs v) (hC : C ≤ B) : fVer E C w cs v := by
  obtain ⟨s, rfl, h2, h3⟩ := h
  exact ⟨s, rfl, h2.from hC, h3⟩
theorem fVers.from {E F B C : Nat} {w : World} {s : Value} {vs : List Ver} (h : fVers E F B w s vs) (hC : C ≤ B) : fVers E F C w s vs := by
  obtain ⟨css, h1, h2, h3, h4⟩ := h
  exact ⟨css, h1.from hC, h2.imp fun _ _ h => h.from hC, h3, h4⟩
theorem All2.imp_mem {α β : Type} {R S : α → β → Prop} : ∀ {l : List α} {m : List β}, (∀ a b, a ∈ l → R a b → S a b) → All2 R l m → All2 S l m
  | [], [], _, _ => trivial
  | a :: l, b :: m, f, h => ⟨f _ _ List.mem_cons_self h.1, All2.imp_mem (fun a b ha => f a b (List.mem_cons_of_mem _ ha)) h.2⟩
  | [], _ :: _, _, h => h.elim
  | _ :: _, [], _, h => h.elim

theorem drop_at {α : Type} {l : List α} {k : Nat} (h : k < l.length) : ∃ a, l[k]? = some a ∧ l.drop k = a :: l.drop (k + 1) :=
  ⟨l[k], List.getElem?_eq_getElem h, List.drop_eq_getElem_cons h⟩

/-! ### What the program says of tags -/
def tagOk (x : Tag) : Bool := ((x.t == 0) && (x.p == 0)) || (decide (1 ≤ x.t) && decide (x.t ≤ 999) && (decide (0 ≤ x.p) && decide (x.p ≤ 2)))
def tagLess (a b : Tag) : Bool := decide (a.t < b.t) || ((a.t == b.t) && decide (a.p < b.p))
def tagMax (a b : Tag) : Tag := if tagLess a b then b else a
def pastOk (p : List Tag) : Bool := p.all tagOk && (p.length == 4)
def under : List Tag → List Tag → Bool
  | a :: p, b :: q => !tagLess b a && under p q
  | _, _ => true
def latest (m : Int) : List Tag → Int
  | [] => m
  | t :: l => latest (if t.t > m then t.t else m) l
theorem Ext.but {a b c : World} {g : Option Nat} (h : Ext a b) (k : But b c g) (hg : ∀ x, g = some x → a.heap.size ≤ x) : Ext a c :=
  Below.trans h ⟨k.os, k.tape, k.output, k.size, fun x hx => k.blk x (Nat.lt_of_lt_of_le hx h.size) fun e => absurd (hg x e) (by omega)⟩
theorem tagsOf_nil : tagCs [] = [] := rfl
/-- One more tag. -/
theorem app_tag {P : Program} {t ty E : Nat} (h : elB P t = some (E, 2, 16)) (hz : zeroB P E = some [i64 0, i64 0]) {B : Nat} {w : World} {sv : Value} {ts : List Tag} {x : Tag}
    (hf : fTags E B w sv ts) (hB : B ≤ w.heap.size) {b o c : Nat} (hA : At w b o (tagC x)) (hn : ts.length + 1 ≤ 8796093021952) :
    Ret (b_append P #[t, t] ty #[sv, .slice (some ⟨b, o, none⟩) 1 c] w) fun r => fTags E B r.2 r.1 (ts ++ [x]) ∧ But w r.2 (blkOf sv) := by
  refine Ret.mono (app_own h hz rfl (by omega) hf.1 hB hA rfl rfl (by omega) (by omega) (by omega)) ?_
  rintro r ⟨h1, h2, _⟩
  refine ⟨⟨?_, by simpa using hn⟩, h2⟩
  rw [tagCs_app]
  simpa [tagCs] using h1
def byteOk (b : UInt8) : Bool := decide (33 ≤ (b.toNat : Int)) && decide ((b.toNat : Int) ≤ 126)
def textOk (s : ByteArray) : Bool := s.toList.all byteOk && decide ((s.size : Int) ≤ 8)
def noText (s : ByteArray) : Bool := s.toList.isEmpty
def keyOk (k : Int) : Bool := decide (0 ≤ k) && decide (k ≤ 3)
def verWr (v : Ver) : Bool := keyOk v.key && (textOk v.text && ((!v.gone || noText v.text) && pastOk v.past))
def verOk (v : Ver) : Bool := verWr v && (tagOk v.tag && decide (v.tag.t > latest 0 v.past))
def verNone (v : Ver) : Bool := (v.key == 0) && ((v.tag == Tag.zero) && ((v.past.length == 0) && (noText v.text && !v.gone)))
def slotOk (i : Nat) (v : Ver) : Bool := verNone v || (verOk v && (v.key == (i : Int)))
def slots : Nat → List Ver → Bool
  | _, [] => true
  | i, v :: l => slotOk i v && slots (i + 1) l
def storeOk (vs : List Ver) : Bool := slots 0 vs && (vs.length == 4)
def tagsOf (vs : List Ver) : List Tag := vs.map (·.tag)
def closedAt (q : List Tag) (v : Ver) : Bool := (v.tag == Tag.zero) || under v.past q
def closed (vs : List Ver) : Bool := storeOk vs && vs.all (closedAt (tagsOf vs))
theorem byte_list (s : ByteArray) : s.toList.length = s.size := by rw [ByteArray.toList_eq]; simp
theorem latest_ge : ∀ (l : List Tag) (m : Int), m ≤ latest m l
  | [], m => Int.le_refl m
  | t :: l, m => by
    have := latest_ge l (if t.t > m then t.t else m)
    unfold latest
    split at this <;> split <;> omega
theorem latest_lt : ∀ (l : List Tag) (m n : Int), latest m l < n ↔ m < n ∧ ∀ t ∈ l, t.t < n
  | [], m, n => by simp [latest]
  | t :: l, m, n => by
    unfold latest
    rw [latest_lt l]
    constructor
    · rintro ⟨h1, h2⟩
      refine ⟨by split at h1 <;> omega, fun u hu => ?_⟩
      rcases List.mem_cons.1 hu with rfl | hu
      · split at h1 <;> omega
      · exact h2 u hu
    · rintro ⟨h1, h2⟩
      have := h2 t List.mem_cons_self
      exact ⟨by split <;> omega, fun u hu => h2 u (List.mem_cons_of_mem _ hu)⟩
theorem verOk_pos {v : Ver} (h : verOk v = true) : 0 < v.tag.t := by
  unfold verOk at h
  simp only [Bool.and_eq_true, decide_eq_true_eq] at h
  have := latest_ge v.past 0
  omega
theorem verOk_t0 {v : Ver} (h : (v.tag.t == 0) = true) : verOk v = false := by
  cases hv : verOk v
  · rfl
  · have := verOk_pos hv
    simp only [beq_iff_eq] at h
    omega
theorem slotOk_z {v : Ver} {i : Nat} (h : v.tag = Tag.zero) : slotOk i v = verNone v := by
  have : verOk v = false := verOk_t0 (by rw [h]; rfl)
  simp [slotOk, this]
theorem slotOk_n {v : Ver} {i : Nat} (h : v.tag ≠ Tag.zero) : slotOk i v = (verOk v && (v.key == (i : Int))) := by
  simp [slotOk, verNone, h]
theorem tag_z {v : Tag} (h : ((v.t == 0) && (v.p == 0)) = true) : v = Tag.zero := by
  obtain ⟨a, b⟩ := v
  simp only [Bool.and_eq_true, beq_iff_eq] at h
  obtain ⟨rfl, rfl⟩ := h
  rfl
theorem tag_n {v : Tag} (h : ((v.t == 0) && (v.p == 0)) = false) : v ≠ Tag.zero := by
  rintro rfl
  simp [Tag.zero] at h
theorem latest_all {v : Ver} (h : tagOk v.tag = true) (h0 : (v.tag.t == 0) = false) : decide (v.tag.t > latest 0 v.past) = v.past.all fun t => decide (t.t < v.tag.t) := by
  rw [Bool.eq_iff_iff]
  simp only [decide_eq_true_eq, List.all_eq_true, GT.gt, latest_lt]
  have : 0 < v.tag.t := by
    simp only [beq_eq_false_iff_ne, ne_eq] at h0
    simp only [tagOk, Bool.or_eq_true, Bool.and_eq_true, beq_iff_eq, decide_eq_true_eq] at h
    omega
  simp [this]
end Go.Ev
