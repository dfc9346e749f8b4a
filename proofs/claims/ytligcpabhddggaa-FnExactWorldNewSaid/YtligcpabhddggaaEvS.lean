/- A part of the proof: an evaluator of the model, its laws, and contracts of functions; no condition. -/
import Derived.Test.YtligcpabhddggaaEvM
set_option linter.unusedVariables false
namespace Go.Ev
open Go Go.RowKit
/-! ### Data, and how they lie -/
structure Tag where
  t : Int
  p : Int
  deriving DecidableEq
abbrev Tag.v (x : Tag) : Value := .agg #[i64 x.t, i64 x.p]
def Tag.zero : Tag := ⟨0, 0⟩
abbrev tagC (x : Tag) : List Value := [i64 x.t, i64 x.p]
theorem At.lt {w : World} {b o : Nat} {v : Value} {l : List Value} (h : At w b o (v :: l)) : b < w.heap.size := by
  have h1 := h 0 v rfl
  rcases Nat.lt_or_ge b w.heap.size with h' | h'
  · exact h'
  · rw [hp, Array.getElem?_eq_none h'] at h1; simp [cellO] at h1
/-- A slice of n elements, whose cells are l. -/
def Sl (w : World) (s : Value) (n : Nat) (l : List Value) : Prop :=
  ∃ a c, s = .slice a n c ∧ n ≤ 9223372036854775807 ∧ (l = [] ∨ ∃ b o, a = some ⟨b, o, none⟩ ∧ At w b o l)
/-- What stood stands. -/
def Keep (w w' : World) : Prop := ∀ b, b < w.heap.size → hp w' b = hp w b
theorem Ext.keep {w w' : World} (h : Ext w w') : Keep w w' := fun b hb => h.blk hb
theorem Sl.mono {w w' : World} {s : Value} {n : Nat} {l : List Value} (h : Sl w s n l) (k : Keep w w') : Sl w' s n l := by
  obtain ⟨a, c, h1, h2, h3⟩ := h
  exact ⟨a, c, h1, h2, h3.imp id fun ⟨b, o, h4, h5⟩ => ⟨b, o, h4, h5.mono k⟩⟩
theorem flat_get {α : Type} {m : Nat} : ∀ (css : List (List α)) (i : Nat) (cs : List α), (∀ c ∈ css, c.length = m) → css[i]? = some cs → ∀ (j : Nat) (v : α), cs[j]? = some v → css.flatten[i * m + j]? = some v
  | [], i, cs, hm, hi, j, v, hv => by simp at hi
  | c :: css, 0, cs, hm, hi, j, v, hv => by
    simp only [List.getElem?_cons_zero, Option.some.injEq] at hi
    subst hi
    have hj : j < c.length := (List.getElem?_eq_some_iff.1 hv).1
    simp only [List.flatten_cons, Nat.zero_mul, Nat.zero_add]
    rw [List.getElem?_append_left hj]; exact hv
  | c :: css, i + 1, cs, hm, hi, j, v, hv => by
    have hc := hm c List.mem_cons_self
    have ih := flat_get css i cs (fun c h => hm c (List.mem_cons_of_mem _ h)) (by simpa using hi) j v hv
    simp only [List.flatten_cons]
    rw [List.getElem?_append_right (by rw [hc, Nat.succ_mul]; omega), hc, show (i + 1) * m + j - m = i * m + j by rw [Nat.succ_mul]; omega]
    exact ih
/-- Element i of a slice. -/
theorem Sl.at {w : World} {s : Value} {n m : Nat} {css : List (List Value)} (h : Sl w s n css.flatten) (hm : ∀ c ∈ css, c.length = m) (h0 : 0 < m) {i : Nat} {cs : List Value} (hi : css[i]? = some cs) :
    ∃ b o c, s = .slice (some ⟨b, o, none⟩) n c ∧ At w b (o + i * m) cs := by
  obtain ⟨a, c, h1, h2, h3⟩ := h
  have hg := flat_get css i cs hm hi
  have hcs := hm cs (List.mem_of_getElem? hi)
  rcases h3 with h3 | ⟨b, o, h4, h5⟩
  · have := hg 0 (cs[0]'(by omega)) (List.getElem?_eq_getElem (by omega))
    rw [h3] at this
    simp at this
  · subst h4
    refine ⟨b, o, c, h1, fun j v hv => ?_⟩
    rw [Nat.add_assoc]
    exact h5 _ v (hg j v hv)
theorem zrep_len (z : List Value) (n : Nat) : (zrep z n).length = n * z.length := by
  induction n with
  | zero => simp [zrep]
  | succ n ih => simp only [zrep, List.length_append, ih, Nat.succ_mul]; omega
def tagCs (ts : List Tag) : List Value := (ts.map tagC).flatten
def rTags (w : World) (s : Value) (ts : List Tag) : Prop := Sl w s ts.length (tagCs ts) ∧ ts.length ≤ 8796093021952
theorem rTags.mono {w w' : World} {s : Value} {ts : List Tag} (h : rTags w s ts) (k : Keep w w') : rTags w' s ts := ⟨Sl.mono h.1 k, h.2⟩
theorem rTags.at {w : World} {s : Value} {ts : List Tag} (h : rTags w s ts) {i : Nat} {t : Tag} (hi : ts[i]? = some t) :
    ∃ b o c, s = .slice (some ⟨b, o, none⟩) ts.length c ∧ At w b (o + i * 2) (tagC t) :=
  Sl.at (css := ts.map tagC) h.1 (fun c hc => by obtain ⟨t, _, rfl⟩ := List.mem_map.1 hc; rfl) (by omega) (by simp [hi])
theorem rTags.len {w : World} {s : Value} {ts : List Tag} (h : rTags w s ts) : ∃ a c, s = .slice a ts.length c ∧ ts.length ≤ 8796093021952 := by
  obtain ⟨⟨a, c, h1, h2, _⟩, h3⟩ := h
  exact ⟨a, c, h1, h3⟩
theorem At.same {w w' : World} {b o : Nat} {l : List Value} (h : At w b o l) (he : hp w' b = hp w b) : At w' b o l := by
  intro j v hv; rw [he]; exact h j v hv
theorem Sl.keep {w w' : World} {s : Value} {n : Nat} {l : List Value} (h : Sl w s n l) (k : ∀ b ∈ (blkOf s).toList, hp w' b = hp w b) : Sl w' s n l := by
  obtain ⟨a, c, h1, h2, h3⟩ := h
  refine ⟨a, c, h1, h2, h3.imp id fun ⟨b, o, h4, h5⟩ => ⟨b, o, h4, h5.same (k b ?_)⟩⟩
  subst h1; subst h4; simp [blkOf]
theorem rTags.keep {w w' : World} {s : Value} {ts : List Tag} (h : rTags w s ts) (k : ∀ b ∈ (blkOf s).toList, hp w' b = hp w b) : rTags w' s ts := ⟨Sl.keep h.1 k, h.2⟩
theorem Own.sl {w : World} {B : Nat} {e : TypeId} {size : Nat} {s : Value} {n : Nat} {l : List Value} (h : Own w B e size s n l) : Sl w s n l := by
  obtain ⟨a, c, h1, h2, h3⟩ := h.at
  exact ⟨a, c, h1, h2, h3⟩
theorem tagCs_length (ts : List Tag) : (tagCs ts).length = ts.length * 2 := by
  induction ts with
  | nil => rfl
  | cons t ts ih => simp only [tagCs, List.map_cons, List.flatten_cons, List.length_append] at ih ⊢; rw [ih]; simp only [List.length_cons, List.length_nil]; omega
theorem tagCs_cons (a : Tag) (b : List Tag) : tagCs (a :: b) = tagC a ++ tagCs b := by simp [tagCs]
theorem take_at {α : Type} {l : List α} {k : Nat} {x : α} (h : l[k]? = some x) : l.take (k + 1) = l.take k ++ [x] := by
  rw [List.take_add_one, h]; rfl
structure Ver where
  key : Int
  tag : Tag
  past : List Tag
  text : ByteArray
  gone : Bool
/-- The cells of a version. -/
def rVer (w : World) (cs : List Value) (v : Ver) : Prop := ∃ s, cs = [i64 v.key, i64 v.tag.t, i64 v.tag.p, s, .string v.text, .bool v.gone] ∧ rTags w s v.past ∧ v.text.size ≤ 140737488351232
/-- The row of the causes. -/
def pastB : List Value → List Nat
  | _ :: _ :: _ :: s :: _ => (blkOf s).toList
  | _ => []
theorem rVer.keep {w w' : World} {cs : List Value} {v : Ver} (h : rVer w cs v) (k : ∀ b ∈ pastB cs, hp w' b = hp w b) : rVer w' cs v := by
  obtain ⟨s, rfl, h2, h3⟩ := h
  exact ⟨s, rfl, h2.keep k, h3⟩
theorem rVer.mono {w w' : World} {cs : List Value} {v : Ver} (h : rVer w cs v) (k : Keep w w') : rVer w' cs v := by
  obtain ⟨s, h1, h2, h3⟩ := h
  exact ⟨s, h1, h2.mono k, h3⟩
theorem rVer.length {w : World} {cs : List Value} {v : Ver} (h : rVer w cs v) : cs.length = 6 := by
  obtain ⟨s, h1, _⟩ := h
  rw [h1]; rfl
/-- Each of these as the other. -/
def All2 {α β : Type} (R : α → β → Prop) : List α → List β → Prop
  | [], [] => True
  | a :: l, b :: m => R a b ∧ All2 R l m
  | _, _ => False
theorem All2.length {α β : Type} {R : α → β → Prop} : ∀ {l : List α} {m : List β}, All2 R l m → l.length = m.length
  | [], [], _ => rfl
  | a :: l, b :: m, h => by simp [All2.length h.2]
  | [], _ :: _, h => h.elim
  | _ :: _, [], h => h.elim
theorem All2.imp {α β : Type} {R S : α → β → Prop} (hrs : ∀ a b, R a b → S a b) : ∀ {l : List α} {m : List β}, All2 R l m → All2 S l m
  | [], [], _ => trivial
  | a :: l, b :: m, h => ⟨hrs _ _ h.1, All2.imp hrs h.2⟩
  | [], _ :: _, h => h.elim
  | _ :: _, [], h => h.elim
theorem All2.get {α β : Type} {R : α → β → Prop} : ∀ {l : List α} {m : List β}, All2 R l m → ∀ {i : Nat} {b : β}, m[i]? = some b → ∃ a, l[i]? = some a ∧ R a b
  | a :: l, b :: m, h, 0, b', hb => by simp only [List.getElem?_cons_zero, Option.some.injEq] at hb; subst hb; exact ⟨a, rfl, h.1⟩
  | a :: l, b :: m, h, i + 1, b', hb => by simpa using All2.get h.2 (by simpa using hb)
  | [], [], _, i, b', hb => by simp at hb
  | [], _ :: _, h, _, _, _ => h.elim
  | _ :: _, [], h, _, _, _ => h.elim
theorem All2.mem {α β : Type} {R : α → β → Prop} : ∀ {l : List α} {m : List β}, All2 R l m → ∀ {a : α}, a ∈ l → ∃ b, b ∈ m ∧ R a b
  | a :: l, b :: m, h, x, hx => by
    rcases List.mem_cons.1 hx with rfl | hx
    · exact ⟨b, List.mem_cons_self, h.1⟩
    · obtain ⟨b', h1, h2⟩ := All2.mem h.2 hx
      exact ⟨b', List.mem_cons_of_mem _ h1, h2⟩
  | [], [], _, _, hx => by simp at hx
  | [], _ :: _, h, _, _ => h.elim
  | _ :: _, [], h, _, _ => h.elim
theorem All2.app {α β : Type} {R : α → β → Prop} : ∀ {l : List α} {m : List β} {a : α} {b : β}, All2 R l m → R a b → All2 R (l ++ [a]) (m ++ [b])
  | [], [], _, _, _, h => ⟨h, trivial⟩
  | a :: l, b :: m, _, _, h, h' => ⟨h.1, All2.app h.2 h'⟩
  | [], _ :: _, _, _, h, _ => h.elim
  | _ :: _, [], _, _, h, _ => h.elim
def rVers (w : World) (s : Value) (vs : List Ver) : Prop := ∃ css, Sl w s vs.length css.flatten ∧ All2 (rVer w) css vs ∧ vs.length ≤ 1954687338211
theorem rVers.mono {w w' : World} {s : Value} {vs : List Ver} (h : rVers w s vs) (k : Keep w w') : rVers w' s vs := by
  obtain ⟨css, h1, h2, h3⟩ := h
  exact ⟨css, h1.mono k, h2.imp fun _ _ h => h.mono k, h3⟩
theorem rVers.at {w : World} {s : Value} {vs : List Ver} (h : rVers w s vs) {i : Nat} {v : Ver} (hi : vs[i]? = some v) :
    ∃ b o c cs, s = .slice (some ⟨b, o, none⟩) vs.length c ∧ At w b (o + i * 6) cs ∧ rVer w cs v := by
  obtain ⟨css, h1, h2, _⟩ := h
  obtain ⟨cs, h3, h4⟩ := h2.get hi
  obtain ⟨b, o, c, h5, h6⟩ := Sl.at h1 (fun c hc => by obtain ⟨v, _, hv⟩ := h2.mem hc; exact hv.length) (m := 6) (by omega) h3
  exact ⟨b, o, c, cs, h5, h6, h4⟩
theorem rVers.len {w : World} {s : Value} {vs : List Ver} (h : rVers w s vs) : ∃ a c, s = .slice a vs.length c ∧ vs.length ≤ 1954687338211 := by
  obtain ⟨css, ⟨a, c, h1, h2, _⟩, _, h3⟩ := h
  exact ⟨a, c, h1, h3⟩
/-- Rows of one's own: tags, a version's cells, versions. -/
def fTags (E B : Nat) (w : World) (s : Value) (ts : List Tag) : Prop := Own w B E 2 s ts.length (tagCs ts) ∧ ts.length ≤ 8796093021952
def fVer (E B : Nat) (w : World) (cs : List Value) (v : Ver) : Prop := ∃ s, cs = [i64 v.key, i64 v.tag.t, i64 v.tag.p, s, .string v.text, .bool v.gone] ∧ fTags E B w s v.past ∧ v.text.size ≤ 140737488351232
def versB (s : Value) (css : List (List Value)) : List Nat := (blkOf s).toList ++ css.flatMap pastB
def fVers (E F B : Nat) (w : World) (s : Value) (vs : List Ver) : Prop := ∃ css, Own w B F 6 s vs.length css.flatten ∧ All2 (fVer E B w) css vs ∧ vs.length ≤ 1954687338211 ∧ (versB s css).Nodup
theorem fTags.r {E B : Nat} {w : World} {s : Value} {ts : List Tag} (h : fTags E B w s ts) : rTags w s ts := ⟨h.1.sl, h.2⟩
theorem fVer.r {E B : Nat} {w : World} {cs : List Value} {v : Ver} (h : fVer E B w cs v) : rVer w cs v := by
  obtain ⟨s, h1, h2, h3⟩ := h
  exact ⟨s, h1, h2.r, h3⟩
theorem fVers.r {E F B : Nat} {w : World} {s : Value} {vs : List Ver} (h : fVers E F B w s vs) : rVers w s vs := by
  obtain ⟨css, h1, h2, h3, _⟩ := h
  exact ⟨css, h1.sl, h2.imp fun _ _ h => h.r, h3⟩
theorem fTags.keep {E B : Nat} {w w' : World} {s : Value} {ts : List Tag} (h : fTags E B w s ts) (k : ∀ b ∈ (blkOf s).toList, hp w' b = hp w b) : fTags E B w' s ts :=
  ⟨h.1.keep fun g hg => k g (by simp [hg]), h.2⟩
theorem fTags.lt {E B : Nat} {w : World} {s : Value} {ts : List Tag} (h : fTags E B w s ts) : ∀ b ∈ (blkOf s).toList, B ≤ b ∧ b < w.heap.size := by
  intro b hb
  have := h.1.lt (g := b) (by simpa using hb)
  exact ⟨this.1, this.2.1⟩
theorem fVer.keep {E B : Nat} {w w' : World} {cs : List Value} {v : Ver} (h : fVer E B w cs v) (k : ∀ b ∈ pastB cs, hp w' b = hp w b) : fVer E B w' cs v := by
  obtain ⟨s, rfl, h2, h3⟩ := h
  exact ⟨s, rfl, h2.keep k, h3⟩
theorem fVer.lt {E B : Nat} {w : World} {cs : List Value} {v : Ver} (h : fVer E B w cs v) : ∀ b ∈ pastB cs, B ≤ b ∧ b < w.heap.size := by
  obtain ⟨s, rfl, h2, h3⟩ := h
  exact h2.lt
theorem fVer.length {E B : Nat} {w : World} {cs : List Value} {v : Ver} (h : fVer E B w cs v) : cs.length = 6 := h.r.length
theorem fVers.keep {E F B : Nat} {w w' : World} {s : Value} {vs : List Ver} (h : fVers E F B w s vs) (k : ∀ b, B ≤ b → b < w.heap.size → hp w' b = hp w b) : fVers E F B w' s vs := by
  obtain ⟨css, h1, h2, h3, h4⟩ := h
  exact ⟨css, h1.keep fun g hg => k g (h1.lt hg).1 (h1.lt hg).2.1, h2.imp fun _ _ h => h.keep fun b hb => k b (h.lt b hb).1 (h.lt b hb).2, h3, h4⟩
theorem fTags.from {E B C : Nat} {w : World} {s : Value} {ts : List Tag} (h : fTags E B w s ts) (hC : C ≤ B) : fTags E C w s ts := ⟨h.1.from hC, h.2⟩
theorem fVer.from {E B C : Nat} {w : World} {cs : List Value} {v : Ver} (h : fVer E B w cs v) (hC : C ≤ B) : fVer E C w cs v := by
  obtain ⟨s, rfl, h2, h3⟩ := h
  exact ⟨s, rfl, h2.from hC, h3⟩
theorem fVers.from {E F B C : Nat} {w : World} {s : Value} {vs : List Ver} (h : fVers E F B w s vs) (hC : C ≤ B) : fVers E F C w s vs := by
  obtain ⟨css, h1, h2, h3, h4⟩ := h
  exact ⟨css, h1.from hC, h2.imp fun _ _ h => h.from hC, h3, h4⟩
theorem drop_at {α : Type} {l : List α} {k : Nat} (h : k < l.length) : ∃ a, l[k]? = some a ∧ l.drop k = a :: l.drop (k + 1) :=
  ⟨l[k], List.getElem?_eq_getElem h, List.drop_eq_getElem_cons h⟩
/-- The cells hold these tags. -/
def TagsIn (cur : List Value) (L : List Tag) : Prop := ∀ (i : Nat) (x : Tag), L[i]? = some x → cur[i * 2]? = some (i64 x.t) ∧ cur[i * 2 + 1]? = some (i64 x.p)
theorem TagsIn.take : ∀ {L : List Tag} {cur : List Value}, TagsIn cur L → L.length * 2 ≤ cur.length → cur.take (L.length * 2) = tagCs L
  | [], cur, _, _ => by simp [tagCs]
  | x :: L, cur, h, hl => by
    have h0 := h 0 x rfl
    match cur, h0 with
    | a :: b :: cur, h0 =>
      simp only [Nat.zero_mul, List.getElem?_cons_zero, Option.some.injEq, Nat.zero_add, List.getElem?_cons_succ] at h0
      have ih := TagsIn.take (L := L) (cur := cur) (fun i y hy => by
        have := h (i + 1) y (by simpa using hy)
        rw [Nat.succ_mul] at this
        simpa using this) (by simp only [List.length_cons, Nat.succ_mul] at hl; omega)
      rw [List.length_cons, Nat.succ_mul, List.take_succ_cons, List.take_succ_cons, ih, tagCs_cons, h0.1, h0.2]; rfl
    | [a], h0 => simp at h0
    | [], h0 => simp at h0
theorem TagsIn.of {L : List Tag} {cur : List Value} (h : cur.take (L.length * 2) = tagCs L) : TagsIn cur L := by
  intro i x hx
  have hg := flat_get (m := 2) (L.map tagC) i (tagC x) (fun c hc => by obtain ⟨t, _, rfl⟩ := List.mem_map.1 hc; rfl) (by simp [hx])
  have hi : i < L.length := (List.getElem?_eq_some_iff.1 hx).1
  have g : ∀ j v, (tagCs L)[j]? = some v → j < L.length * 2 → cur[j]? = some v := fun j v hv hj => by
    rw [← h, List.getElem?_take, if_pos hj] at hv
    exact hv
  exact ⟨g _ _ (hg 0 _ rfl) (by omega), g _ _ (hg 1 _ rfl) (by omega)⟩
/-- Tag j of a row of one's own is written. -/
theorem fTags.put {E B : Nat} {w : World} {s : Value} {L : List Tag} (hf : fTags E B w s L) {j : Nat} (hj : j < L.length) :
    ∃ g cap cur, s = .slice (some ⟨g, 0, none⟩) L.length cap ∧ B ≤ g ∧ g < w.heap.size ∧ hp w g = some (.cells cur E (0, 0)) ∧ L.length * 2 ≤ cur.size ∧
      ∀ (y : Tag) (w' : World), hp w' g = some (.cells ((cur.toList.set (j * 2) (i64 y.t)).set (j * 2 + 1) (i64 y.p)).toArray E (0, 0)) → fTags E B w' s (L.set j y) := by
  obtain ⟨⟨hcl, hn, ho⟩, hbd⟩ := hf
  rcases ho with ⟨_, h⟩ | ⟨g, cap, cur, hs, hg, hh, hc, hcm, hcs, ht⟩
  · omega
  have hle : L.length * 2 ≤ cur.size := Nat.le_trans (Nat.mul_le_mul_right _ hc) hcs
  refine ⟨g, cap, cur, hs, hg, hp_lt hh, hh, hle, fun y w' hw => ⟨⟨by rw [tagCs_length], by simpa using hn, .inr ⟨g, cap, _, by rw [hs, List.length_set], hg, hw, by simpa using hc, hcm, by simpa using hcs, ?_⟩⟩, by simpa using hbd⟩⟩
  have hin := TagsIn.of ht
  refine TagsIn.take (L := L.set j y) (fun i x hx => ?_) (by simpa using hle)
  rw [List.getElem?_set] at hx
  simp only [List.getElem?_set]
  split at hx
  · rename_i hij
    subst hij
    obtain rfl : y = x := by simpa [hj] using hx
    have h1 : j * 2 + 1 < cur.toList.length := by simp; omega
    have h2 : j * 2 < cur.toList.length := by omega
    have h3 : ¬ j * 2 + 1 = j * 2 := by omega
    simp only [h3, if_false, if_true, h2, List.length_set, h1, and_self]
  · rename_i hij
    have := hin i x hx
    have h1 : ¬ j * 2 + 1 = i * 2 := by omega
    have h2 : ¬ j * 2 = i * 2 := by omega
    have h3 : ¬ j * 2 + 1 = i * 2 + 1 := by omega
    have h4 : ¬ j * 2 = i * 2 + 1 := by omega
    simp only [h1, h2, h3, h4, if_false]
    exact this
theorem But.tr {a b c : World} {g : Option Nat} (h : But a b g) (k : But b c g) : But a c g :=
  ⟨k.os.trans h.os, k.tape.trans h.tape, k.output.trans h.output, Nat.le_trans h.size k.size, fun x hx hg => (k.blk x (Nat.lt_of_lt_of_le hx h.size) hg).trans (h.blk x hx hg)⟩
theorem But.set (w : World) (g : Nat) (cs : Array Value) : But w (w.setRow g cs) (some g) := ⟨rfl, rfl, rfl, by simp, fun b _ hb => hp_set_ne fun e => hb (by rw [e])⟩
theorem But.of {a b : World} (h : Ext a b) (g : Option Nat) : But a b g := ⟨h.os, h.tape, h.output, h.size, fun x hx _ => h.blk hx⟩
theorem All2.imp_mem {α β : Type} {R S : α → β → Prop} : ∀ {l : List α} {m : List β}, (∀ a b, a ∈ l → R a b → S a b) → All2 R l m → All2 S l m
  | [], [], _, _ => trivial
  | a :: l, b :: m, f, h => ⟨f _ _ List.mem_cons_self h.1, All2.imp_mem (fun a b ha => f a b (List.mem_cons_of_mem _ ha)) h.2⟩
  | [], _ :: _, _, h => h.elim
  | _ :: _, [], _, h => h.elim
/-! ### What the program says of tags -/
/-! ### Marks of versions -/
/-- Nothing changed but in the blocks from B to T. -/
structure Zon (B T : Nat) (w w' : World) : Prop where
  os : w'.os = w.os
  tape : w'.tape = w.tape
  output : w'.output = w.output
  size : w.heap.size ≤ w'.heap.size
  blk : ∀ b, b < w.heap.size → (b < B ∨ T ≤ b) → hp w' b = hp w b
theorem Zon.tr {B T : Nat} {a b c : World} (h : Zon B T a b) (k : Zon B T b c) : Zon B T a c :=
  ⟨k.os.trans h.os, k.tape.trans h.tape, k.output.trans h.output, Nat.le_trans h.size k.size, fun x hx hb => (k.blk x (Nat.lt_of_lt_of_le hx h.size) hb).trans (h.blk x hx hb)⟩
theorem Zon.of {a b : World} (h : Ext a b) (B T : Nat) : Zon B T a b := ⟨h.os, h.tape, h.output, h.size, fun x hx _ => h.blk hx⟩
theorem Zon.set {B T g : Nat} (h0 : B ≤ g) (h1 : g < T) (w : World) (cs : Array Value) : Zon B T w (w.setRow g cs) := ⟨rfl, rfl, rfl, by simp, fun b _ hb => hp_set_ne (by omega)⟩
theorem Zon.ext {B T : Nat} {a w w' : World} (h : Ext a w) (k : Zon B T w w') (hB : a.heap.size ≤ B) : Ext a w' :=
  Below.trans h ⟨k.os, k.tape, k.output, k.size, fun x hx => k.blk x (Nat.lt_of_lt_of_le hx h.size) (.inl (by omega))⟩
/-- The cells hold these rows of six. -/
def RowIn (cur : List Value) (css : List (List Value)) : Prop := ∀ (i : Nat) (cs : List Value), css[i]? = some cs → ∀ (r : Nat) (v : Value), cs[r]? = some v → cur[i * 6 + r]? = some v
theorem RowIn.take : ∀ {css : List (List Value)} {cur : List Value}, RowIn cur css → (∀ c ∈ css, c.length = 6) → css.length * 6 ≤ cur.length → cur.take (css.length * 6) = css.flatten
  | [], cur, _, _, _ => by simp
  | c :: css, cur, h, hc, hl => by
    have hc0 := hc c List.mem_cons_self
    simp only [List.length_cons, Nat.succ_mul] at hl
    have ih := RowIn.take (css := css) (cur := cur.drop 6) (fun i d hd r v hv => by
      have := h (i + 1) d (by simpa using hd) r v hv
      rw [List.getElem?_drop, ← this]
      congr 1
      omega) (fun d hd => hc d (List.mem_cons_of_mem _ hd)) (by simp; omega)
    rw [List.length_cons, Nat.succ_mul, Nat.add_comm, List.take_add, ih, List.flatten_cons]
    congr 1
    apply List.ext_getElem?
    intro r
    rcases Nat.lt_or_ge r 6 with hr | hr
    · rw [List.getElem?_take, if_pos hr]
      have := h 0 c rfl r (c[r]'(by omega)) (List.getElem?_eq_getElem (by omega))
      rw [Nat.zero_mul, Nat.zero_add] at this
      rw [this, List.getElem?_eq_getElem (by omega)]
    · rw [List.getElem?_take, if_neg (by omega), List.getElem?_eq_none (by omega)]
theorem RowIn.of {css : List (List Value)} {cur : List Value} (hc : ∀ c ∈ css, c.length = 6) (h : cur.take (css.length * 6) = css.flatten) : RowIn cur css := by
  intro i cs hi r v hv
  have hg := flat_get css i cs hc hi r v hv
  have hil : i < css.length := (List.getElem?_eq_some_iff.1 hi).1
  have hr : r < cs.length := (List.getElem?_eq_some_iff.1 hv).1
  rw [hc cs (List.mem_of_getElem? hi)] at hr
  rw [← h, List.getElem?_take, if_pos (by omega)] at hg
  exact hg
theorem RowIn.set {css : List (List Value)} {cur cs : List Value} {j r : Nat} (h : RowIn cur css) (hc : ∀ c ∈ css, c.length = 6) (hj : css[j]? = some cs) (hr : r < 6) (hl : j * 6 + r < cur.length) (x : Value) : RowIn (cur.set (j * 6 + r) x) (css.set j (cs.set r x)) := by
  intro i ds hi q v hv
  rw [List.getElem?_set] at hi
  rw [List.getElem?_set]
  split at hi
  · rename_i hij
    subst hij
    have hjl : j < css.length := (List.getElem?_eq_some_iff.1 hj).1
    obtain rfl : cs.set r x = ds := by simpa [hjl] using hi
    rw [List.getElem?_set] at hv
    split at hv
    · rename_i hrq
      subst hrq
      split at hv
      · rw [if_pos rfl, if_pos hl]; exact hv
      · contradiction
    · rw [if_neg (by omega)]
      exact h j cs hj q v hv
  · have hq : q < ds.length := (List.getElem?_eq_some_iff.1 hv).1
    rw [hc ds (List.mem_of_getElem? hi)] at hq
    rw [if_neg (by omega)]
    exact h i ds hi q v hv
theorem RowIn.put {css : List (List Value)} {cur ds : List Value} {j r : Nat} (h : RowIn cur (css.set j ds)) (hc : ∀ c ∈ css, c.length = 6) (hj : j < css.length) (hd : ds.length = 6) (hr : r < 6) (hl : j * 6 + r < cur.length) (x : Value) : RowIn (cur.set (j * 6 + r) x) (css.set j (ds.set r x)) := by
  have := RowIn.set h (fun c hcc => by
    rcases List.mem_or_eq_of_mem_set hcc with h | h
    · exact hc c h
    · rw [h]; exact hd) (by rw [List.getElem?_set_self hj]) hr hl x
  rwa [List.set_set] at this
theorem All2.set {α β : Type} {R S : α → β → Prop} {x : α} {y : β} : ∀ {l : List α} {m : List β} (j : Nat), All2 R l m → (∀ (i : Nat) (a : α) (b : β), i ≠ j → l[i]? = some a → m[i]? = some b → R a b → S a b) → S x y → All2 S (l.set j x) (m.set j y)
  | [], [], _, _, _, _ => trivial
  | a :: l, b :: m, 0, h, f, hs => ⟨hs, by
    have : ∀ {l : List α} {m : List β}, (∀ (i : Nat) (a : α) (b : β), l[i]? = some a → m[i]? = some b → R a b → S a b) → All2 R l m → All2 S l m := by
      intro l
      induction l with
      | nil => intro m _ h; cases m with
        | nil => trivial
        | cons _ _ => exact h.elim
      | cons a l ih => intro m g h; cases m with
        | nil => exact h.elim
        | cons b m => exact ⟨g 0 a b rfl rfl h.1, ih (fun i a b ha hb => g (i + 1) a b (by simpa using ha) (by simpa using hb)) h.2⟩
    exact this (fun i a b ha hb => f (i + 1) a b (by omega) (by simpa using ha) (by simpa using hb)) h.2⟩
  | a :: l, b :: m, j + 1, h, f, hs => ⟨f 0 a b (by omega) rfl rfl h.1, All2.set j h.2 (fun i a b hi ha hb => f (i + 1) a b (by omega) (by simpa using ha) (by simpa using hb)) hs⟩
  | [], _ :: _, _, h, _, _ => h.elim
  | _ :: _, [], _, h, _, _ => h.elim
theorem flat_apart {α β : Type} {f : α → List β} : ∀ {l : List α} {i j : Nat} {a b : α}, (l.flatMap f).Nodup → l[i]? = some a → l[j]? = some b → i ≠ j → ∀ x ∈ f a, x ∉ f b
  | [], i, j, a, b, _, hi, _, _ => by simp at hi
  | c :: l, i, j, a, b, hn, hi, hj, hne => by
    rw [List.flatMap_cons, List.nodup_append] at hn
    intro x hx hx2
    match i, j, hi, hj, hne with
    | 0, 0, _, _, hne => exact hne rfl
    | 0, j + 1, hi, hj, _ =>
      obtain rfl : c = a := by simpa using hi
      exact hn.2.2 x hx x (List.mem_flatMap.2 ⟨b, List.mem_of_getElem? (by simpa using hj), hx2⟩) rfl
    | i + 1, 0, hi, hj, _ =>
      obtain rfl : c = b := by simpa using hj
      exact hn.2.2 x hx2 x (List.mem_flatMap.2 ⟨a, List.mem_of_getElem? (by simpa using hi), hx⟩) rfl
    | i + 1, j + 1, hi, hj, hne => exact flat_apart hn.2.1 (by simpa using hi) (by simpa using hj) (by omega) x hx hx2
/-- Rows of versions of one's own, all in the blocks from B to T. -/
def fVT (E F B T : Nat) (w : World) (s : Value) (vs : List Ver) : Prop := ∃ css, Own w B F 6 s vs.length css.flatten ∧ All2 (fVer E B w) css vs ∧ vs.length ≤ 1954687338211 ∧ (versB s css).Nodup ∧ ∀ b ∈ versB s css, b < T
theorem fVers.lt {E F B : Nat} {w : World} {s : Value} {css : List (List Value)} {vs : List Ver} (h1 : Own w B F 6 s vs.length css.flatten) (h2 : All2 (fVer E B w) css vs) : ∀ b ∈ versB s css, B ≤ b ∧ b < w.heap.size := by
  intro b hb
  rcases List.mem_append.1 hb with hb | hb
  · have := h1.lt (g := b) (by simpa using hb)
    exact ⟨this.1, this.2.1⟩
  · obtain ⟨c, hc, hbc⟩ := List.mem_flatMap.1 hb
    obtain ⟨v, _, hv⟩ := h2.mem hc
    exact hv.lt b hbc
theorem fVers.t {E F B : Nat} {w : World} {s : Value} {vs : List Ver} (h : fVers E F B w s vs) : fVT E F B w.heap.size w s vs := by
  obtain ⟨css, h1, h2, h3, h4⟩ := h
  exact ⟨css, h1, h2, h3, h4, fun b hb => (fVers.lt h1 h2 b hb).2⟩
theorem fVT.f {E F B T : Nat} {w : World} {s : Value} {vs : List Ver} (h : fVT E F B T w s vs) : fVers E F B w s vs := by
  obtain ⟨css, h1, h2, h3, h4, _⟩ := h
  exact ⟨css, h1, h2, h3, h4⟩
theorem fVT.keep {E F B T : Nat} {w w' : World} {s : Value} {vs : List Ver} (h : fVT E F B T w s vs) (k : ∀ b, B ≤ b → b < T → b < w.heap.size → hp w' b = hp w b) : fVT E F B T w' s vs := by
  obtain ⟨css, h1, h2, h3, h4, h5⟩ := h
  have hl := fVers.lt h1 h2
  have hm : ∀ b ∈ versB s css, hp w' b = hp w b := fun b hb => k b (hl b hb).1 (h5 b hb) (hl b hb).2
  refine ⟨css, h1.keep fun g hg => hm g (List.mem_append_left _ (by simp [hg])), All2.imp_mem (fun c v hc hv => hv.keep fun b hb => hm b (List.mem_append_right _ (List.mem_flatMap.2 ⟨c, hc, hb⟩))) h2, h3, h4, h5⟩
theorem fVT.ext {E F B T : Nat} {w w' : World} {s : Value} {vs : List Ver} (h : fVT E F B T w s vs) (k : Ext w w') : fVT E F B T w' s vs := h.keep fun b _ _ hb => k.blk hb
/-! ### Joins of causes -/
/-! ### What is drawn -/
/-- A row of bytes. -/
def rBytes (w : World) (s : Value) (ns : List Int) : Prop :=
  ∃ a c, s = .slice a ns.length c ∧ ns.length ≤ c ∧ c ≤ 9223372036854775807 ∧ (∀ n ∈ ns, 0 ≤ n ∧ n ≤ 255) ∧ (ns = [] ∨ ∃ b o, a = some ⟨b, o, none⟩ ∧ At w b o (ns.map (Value.int .u8)))
theorem rBytes.mono {w w' : World} {s : Value} {ns : List Int} (h : rBytes w s ns) (k : Keep w w') : rBytes w' s ns := by
  obtain ⟨a, c, h1, h2, h3, h4, h5⟩ := h
  exact ⟨a, c, h1, h2, h3, h4, h5.imp id fun ⟨b, o, h6, h7⟩ => ⟨b, o, h6, h7.mono k⟩⟩
end Go.Ev
