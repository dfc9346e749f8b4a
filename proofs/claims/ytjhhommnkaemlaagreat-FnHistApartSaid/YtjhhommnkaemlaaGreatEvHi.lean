/- A part of the proof: an evaluator of the model, its laws, and contracts of functions; no condition. -/
import Derived.Test.YtjhhommnkaemlaaGreatEvN
import Derived.Test.YtjhhommnkaemlaaGreatEvY
set_option linter.unusedVariables false
set_option linter.unusedSimpArgs false
set_option linter.deprecated false
namespace Go.Ev
open Go Go.RowKit
structure Done where
 Ao : Int
 kind : Int
 key : Int
 tag : Tag
def GG : Lay Done := LN (BB GJ (BB GJ (BB GJ Eu))) fun d => (d.Ao, d.kind, d.key, d.tag)
abbrev Hi (E : TypeId) : Lay (List Done) := AN E 3518437208883 GG
abbrev BE (d : Done) : List Value := [i64 d.Ao, i64 d.kind, i64 d.key, i64 d.tag.t, i64 d.tag.p]
theorem Ey : GG.n = 5 := rfl
section
variable {S : Nat → Prop} {w : World} {cs : List Value} {d : Done}
theorem D.done : D GG S w cs d ↔ cs = BE d := by
 unfold GG
 rw [D.map]
 simp only [D.pair, D.int, D.tag]
 constructor
 ·rintro ⟨c1, d1, rfl, rfl, c2, d2, rfl, rfl, c3, d3, rfl, rfl, rfl⟩
  rfl
 ·rintro rfl
  exact ⟨[_], _, rfl, rfl, [_], _, rfl, rfl, [_], _, rfl, rfl, rfl⟩
theorem O.done : O GG S w cs d ↔ cs = BE d := by
 constructor
 ·rintro ⟨bs, h, _⟩
  have : D GG (fun _ => True) w cs d := by
   obtain ⟨bs', h', _⟩ := GG.read h
   exact ⟨bs', h', fun _ _ => trivial⟩
  exact D.done.1 this
 ·rintro rfl
  exact ⟨[], ⟨[_], _, [], [], rfl, ⟨rfl, rfl⟩, ⟨[_], _, [], [], rfl, ⟨rfl, rfl⟩, ⟨[_], _, [], [], rfl, ⟨rfl, rfl⟩, ⟨rfl, rfl⟩, rfl⟩, rfl⟩, rfl⟩, by simp, by simp⟩
end
def CG (d : Done) : Bool := (decide (0 ≤ d.Ao) && decide (d.Ao ≤ 3)) && (decide (1 ≤ d.kind) && decide (d.kind ≤ 3)) && (decide (0 ≤ d.key) && decide (d.key ≤ 3)) && El d.tag && ((d.kind == 2) || decide (0 < d.tag.t))
def CT (l : List Done) : Bool := l.all CG && decide (l.length ≤ 80)
theorem B6 {d : Done} : CG d = true ↔ (0 ≤ d.Ao ∧ d.Ao ≤ 3) ∧ (1 ≤ d.kind ∧ d.kind ≤ 3) ∧ (0 ≤ d.key ∧ d.key ≤ 3) ∧ El d.tag = true ∧ (d.kind = 2 ∨ 0 < d.tag.t) := by
 simp only [CG, Bool.and_eq_true, Bool.or_eq_true, decide_eq_true_eq, beq_iff_eq]
 constructor
 ·rintro ⟨⟨⟨⟨a, b⟩, c⟩, d⟩, e⟩
  exact ⟨a, b, c, d, e⟩
 ·rintro ⟨a, b, c, d, e⟩
  exact ⟨⟨⟨⟨a, b⟩, c⟩, d⟩, e⟩
abbrev Wr := List (Tag × Int × Int × List Tag)
def Bj (wr : Wr) (t : Tag) : Option (Int × Int × List Tag) := (wr.find? fun p => p.1 == t).map (·.2)
structure Book where
 vs : List (List Tag)
 wr : Wr
def AW : Book := ⟨List.replicate 4 (List.replicate 4 ⟨0, 0⟩), []⟩
def view (b : Book) (d : Done) : List Tag := b.vs.getD d.Ao.toNat []
def Bm (p : List Tag) (k : Nat) (t : Tag) : List Tag := p.set k (Bn (p.getD k ⟨0, 0⟩) t)
def AZ (b : Book) (d : Done) : Option Book :=
 if d.kind == 1 then (if (Bj b.wr d.tag).isSome || decide (d.tag.t ≤ Cy 0 (view b d)) then none else some ⟨b.vs, b.wr ++ [(d.tag, d.Ao, d.key, view b d)]⟩)
 else if AF d.tag ((view b d).getD d.key.toNat ⟨0, 0⟩) then none
 else if decide (0 < d.tag.t) then (match Bj b.wr d.tag with
  | none => none
  | some (s, k, past) => if k != d.key || ((d.kind == 3) && (s != d.Ao)) then none else some ⟨b.vs.set d.Ao.toNat (Bm (AQ (view b d) past) d.key.toNat d.tag), b.wr⟩)
 else some b
def Eg : Book → List Done → Book × Nat
 | b, [] => (b, 0)
 | b, d :: l => match AZ b d with
  | none => (b, 0)
  | some b' => ((Eg b' l).1, (Eg b' l).2 + 1)
theorem ET {b : Book} {d : Done} {l : List Done} (h : AZ b d = none) : Eg b (d :: l) = (b, 0) := by rw [Eg, h]
theorem DC {b b' : Book} {d : Done} {l : List Done} (h : AZ b d = some b') : Eg b (d :: l) = ((Eg b' l).1, (Eg b' l).2 + 1) := by rw [Eg, h]
theorem SA : ∀ (l : List Done) (b : Book), (Eg b l).2 ≤ l.length
 | [], b => Nat.le_refl _
 | d :: l, b => by
  cases h : AZ b d with
  | none => rw [ET h]; exact Nat.zero_le _
  | some b' => rw [DC h]; have := SA l b'; simp only [List.length_cons]; omega
def Book.Ok (b : Book) : Prop := b.vs.length = 4 ∧ (∀ v ∈ b.vs, v.length = 4) ∧ ∀ p ∈ b.wr, p.2.2.2.length = 4
theorem DM : ∀ xs ys : List Tag, xs.length = ys.length → (AQ xs ys).length = xs.length
 | [], [], _ => rfl
 | x :: xs, y :: ys, h => by
  simp only [List.length_cons, Nat.add_right_cancel_iff] at h
  rw [AQ, List.length_cons, List.length_cons, DM xs ys h]
 | [], _ :: _, h => by simp at h
 | _ :: _, [], h => by simp at h
theorem DN (p : List Tag) (k : Nat) (t : Tag) : (Bm p k t).length = p.length := by simp [Bm]
theorem Ho {wr : Wr} {t : Tag} {x : Int × Int × List Tag} (h : Bj wr t = some x) : (t, x) ∈ wr := by
 unfold Bj at h
 simp only [Option.map_eq_some_iff] at h
 obtain ⟨p, h1, rfl⟩ := h
 have h2 := List.find?_some h1
 simp only [beq_iff_eq] at h2
 subst h2
 exact List.mem_of_find?_eq_some h1
theorem Gj {b : Book} (h : b.Ok) {d : Done} (hd : CG d = true) : (view b d).length = 4 := by
 have hs := (B6.1 hd).1
 obtain ⟨h1, h2, _⟩ := h
 have : d.Ao.toNat < b.vs.length := by omega
 unfold view
 rw [List.getD_eq_getElem?_getD, List.getElem?_eq_getElem this, Option.getD_some]
 exact h2 _ (List.getElem_mem _)
theorem Je {b : Book} (h : b.Ok) {d : Done} (hd : CG d = true) : b.vs[d.Ao.toNat]? = some (view b d) := by
 have hs := (B6.1 hd).1
 obtain ⟨h1, h2, _⟩ := h
 have : d.Ao.toNat < b.vs.length := by omega
 unfold view
 rw [List.getD_eq_getElem?_getD, List.getElem?_eq_getElem this, Option.getD_some]
theorem EU {b b' : Book} (h : b.Ok) {d : Done} (hd : CG d = true) (hs : AZ b d = some b') : b'.Ok := by
 have hv := Gj h hd
 obtain ⟨h1, h2, h3⟩ := h
 unfold AZ at hs
 split at hs
 ·split at hs
  ·cases hs
  ·cases hs
   refine ⟨h1, h2, fun p hp => ?_⟩
   rcases List.mem_append.1 hp with hp | hp
   ·exact h3 p hp
   ·simp only [List.mem_singleton] at hp
    subst hp
    exact hv
 ·split at hs
  ·cases hs
  ·split at hs
   ·split at hs
    ·cases hs
    ·rename_i s k past hf
     split at hs
     ·cases hs
     ·cases hs
      refine ⟨by simp [h1], fun v hvm => ?_, h3⟩
      have hp : past.length = 4 := h3 _ (Ho hf)
      rcases List.mem_or_eq_of_mem_set hvm with hvm | rfl
      ·exact h2 v hvm
      ·rw [DN, DM _ _ (by omega), hv]
   ·cases hs
    exact ⟨h1, h2, h3⟩
theorem SB (a b : Tag) : (a == b) = ((a.t == b.t) && (a.p == b.p)) := by
 rw [Bool.eq_iff_iff]
 simp only [beq_iff_eq, Bool.and_eq_true]
 exact ⟨fun h => by subst h; exact ⟨rfl, rfl⟩, fun h => Tf h.1 h.2⟩
def GH : List Done → Tag → Option Done
 | [], _ => none
 | d :: l, t => if (d.kind == 1) && ((d.tag.t == t.t) && (d.tag.p == t.p)) then some d else GH l t
def Ot : List Done → List (List Tag) → Wr
 | d :: l, p :: sn => if d.kind == 1 then (d.tag, d.Ao, d.key, p) :: Ot l sn else Ot l sn
 | _, _ => []
def Gk : List Done → List (List Tag) → Tag → Option (List Tag)
 | d :: l, p :: sn, t => if (d.kind == 1) && ((d.tag.t == t.t) && (d.tag.p == t.p)) then some p else Gk l sn t
 | _, _, _ => none
theorem Mg (p : Tag × Int × Int × List Tag) (wr : Wr) (t : Tag) : Bj (p :: wr) t = if p.1 == t then some p.2 else Bj wr t := by
 unfold Bj
 rw [List.find?_cons]
 cases p.1 == t <;> rfl
theorem Pn : ∀ (l : List Done) (sn : List (List Tag)) (t : Tag), sn.length = l.length → (Bj (Ot l sn) t = none ∧ GH l t = none ∧ Gk l sn t = none) ∨ ∃ d p, Bj (Ot l sn) t = some (d.Ao, d.key, p) ∧ GH l t = some d ∧ Gk l sn t = some p
 | [], sn, t, h => by
  left
  cases sn <;> exact ⟨rfl, rfl, rfl⟩
 | d :: l, [], t, h => by simp at h
 | d :: l, p :: sn, t, h => by
  have ih := Pn l sn t (by simpa using h)
  have hb := SB d.tag t
  rw [Ot, GH, Gk, ← hb]
  cases h1 : (d.kind == 1)
  ·simpa using ih
  ·simp only [if_true, Bool.true_and, Mg]
   cases h2 : (d.tag == t)
   ·simpa using ih
   ·exact .inr ⟨d, p, rfl, rfl, rfl⟩
theorem Ou : ∀ (l : List Done) (sn : List (List Tag)) (d : Done) (p : List Tag), sn.length = l.length → Ot (l ++ [d]) (sn ++ [p]) = Ot l sn ++ (if d.kind == 1 then [(d.tag, d.Ao, d.key, p)] else [])
 | [], [], d, p, _ => by
  show Ot [d] [p] = _
  rw [Ot]
  cases d.kind == 1 <;> rfl
 | [], _ :: _, d, p, h => by simp at h
 | _ :: _, [], d, p, h => by simp at h
 | x :: l, q :: sn, d, p, h => by
  have ih := Ou l sn d p (by simpa using h)
  simp only [List.cons_append, Ot, ih]
  split <;> rfl
def Hj (p : List Tag) (t : Tag) : Bool := p.all fun x => !decide (t.t ≤ x.t)
theorem NC : ∀ (p : List Tag) (m t : Int), decide (t ≤ Cy m p) = (decide (t ≤ m) || p.any fun x => decide (t ≤ x.t))
 | [], m, t => by rw [Cy, List.any_nil, Bool.or_false]
 | x :: p, m, t => by
  rw [Cy, NC p, List.any_cons, ← Bool.or_assoc]
  congr 1
  rw [Bool.eq_iff_iff]
  simp only [Bool.or_eq_true, decide_eq_true_eq]
  split <;> omega
theorem Q4 (p : List Tag) (t : Tag) (h : 0 < t.t) : Hj p t = !decide (t.t ≤ Cy 0 p) := by
 rw [NC, show decide (t.t ≤ 0) = false by simp; omega, Bool.false_or]
 unfold Hj
 induction p with
 | nil => rfl
 | cons x p ih => simp [ih]
def Vw (L : Lay (List Tag)) (w : World) (S : Nat → Prop) (E : TypeId) (g : Nat) (cur : List Value) (vs : List (List Tag)) : Prop :=
 hp w g = some (.cells cur.toArray E (0, 0)) ∧ vs.length ≤ cur.length ∧ ∀ (i : Nat) v, vs[i]? = some v → ∃ a c, cur[i]? = some (.slice a v.length c) ∧ D L S w [.slice a v.length c] v
section
variable {L : Lay (List Tag)} {w w' : World} {S S' : Nat → Prop} {E : TypeId} {g : Nat} {cur : List Value} {vs : List (List Tag)}
theorem Vw.Aj (h : Vw L w S E g cur vs) (hg : hp w' g = hp w g) (k : ∀ b, S b → b < w.heap.size → hp w' b = hp w b) (k' : ∀ b, S b → b < w'.heap.size → S' b) : Vw L w' S' E g cur vs := by
 obtain ⟨h1, h2, h3⟩ := h
 refine ⟨hg.trans h1, h2, fun i v hv => ?_⟩
 obtain ⟨a, c, h4, h5⟩ := h3 i v hv
 exact ⟨a, c, h4, (h5.Aj k).wide k'⟩
theorem Vw.put (h : Vw L w S E g cur vs) (hS : ¬ S g) {i : Nat} (hi : i < vs.length) {a : Option Addr} {c : Nat} {x : List Tag} (hx : D L S w [.slice a x.length c] x) {cur' : List Value}
  (hc : cur' = AG cur i [.slice a x.length c]) : Vw L (w.setRow g cur'.toArray) S E g cur' (vs.set i x) := by
 obtain ⟨h1, h2, h3⟩ := h
 have hl : cur' = cur.set i (.slice a x.length c) := by
  rw [hc]
  unfold AG
  rw [List.set_eq_take_append_cons_drop, if_pos (by omega)]
  rfl
 have kk : ∀ b, S b → b < w.heap.size → hp (w.setRow g cur'.toArray) b = hp w b := fun b hb _ => Ac (fun e => hS (e ▸ hb))
 refine ⟨by rw [B7, h1]; rfl, by rw [hl]; simpa using h2, fun j v hv => ?_⟩
 by_cases hj : j = i
 ·subst hj
  rw [List.getElem?_set_self hi] at hv
  obtain rfl := Option.some.inj hv
  refine ⟨a, c, by rw [hl, List.getElem?_set_self (by omega)], hx.Aj kk⟩
 ·rw [List.getElem?_set_ne (Ne.symm hj)] at hv
  obtain ⟨a', c', h4, h5⟩ := h3 j v hv
  exact ⟨a', c', by rw [hl, List.getElem?_set_ne (Ne.symm hj)]; exact h4, h5.Aj kk⟩
def Mp (L : Lay (List Tag)) (w : World) (S : Nat → Prop) (m : Nat) (wr : Wr) : Prop :=
 ∃ l : List (Tag × Value), hp w m = some (ES l) ∧ BS (fun p q => p.1 = q.1 ∧ ∃ a c, p.2 = .agg #[i64 q.2.1, i64 q.2.2.1, .slice a q.2.2.2.length c] ∧ D L S w [.slice a q.2.2.2.length c] q.2.2.2) l wr
theorem Mp.Aj {m : Nat} {wr : Wr} (h : Mp L w S m wr) (hg : hp w' m = hp w m) (k : ∀ b, S b → b < w.heap.size → hp w' b = hp w b) (k' : ∀ b, S b → b < w'.heap.size → S' b) : Mp L w' S' m wr := by
 obtain ⟨l, h1, h2⟩ := h
 refine ⟨l, hg.trans h1, h2.imp fun p q h => ?_⟩
 obtain ⟨h3, a, c, h4, h5⟩ := h
 exact ⟨h3, a, c, h4, (h5.Aj k).wide k'⟩
theorem JT : ∀ {l : List (Tag × Value)} {wr : Wr}, BS (fun p q => p.1 = q.1 ∧ ∃ a c, p.2 = .agg #[i64 q.2.1, i64 q.2.2.1, .slice a q.2.2.2.length c] ∧ D L S w [.slice a q.2.2.2.length c] q.2.2.2) l wr →
  ∀ t, (DY l t = none ∧ Bj wr t = none) ∨ ∃ s k p a c, DY l t = some (.agg #[i64 s, i64 k, .slice a p.length c]) ∧ Bj wr t = some (s, k, p) ∧ D L S w [.slice a p.length c] p
 | [], [], _, t => .inl ⟨rfl, rfl⟩
 | p :: l, q :: wr, h, t => by
  obtain ⟨⟨h1, a, c, h2, h3⟩, h4⟩ := h
  rw [Md, Mg, h1]
  cases q.1 == t
  ·simpa using JT h4 t
  ·right
   exact ⟨q.2.1, q.2.2.1, q.2.2.2, a, c, by simp [h2], by simp, h3⟩
 | [], _ :: _, h, _ => h.elim
 | _ :: _, [], h, _ => h.elim
end
theorem Gl : AW.Ok := ⟨by simp [AW], by simp [AW], by simp [AW]⟩
end Go.Ev
