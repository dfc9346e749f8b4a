/- A part of the proof: an evaluator of the model, its laws, and contracts of functions; no condition. -/
import Derived.Test.YtjhhommnkaemlaaGreatEvN
import Derived.Test.YtjhhommnkaemlaaGreatEvY
set_option linter.unusedVariables false
set_option linter.unusedSimpArgs false
set_option linter.deprecated false
namespace Go.Ev
open Go Go.RowKit
structure Done where
 Ar : Int
 kind : Int
 key : Int
 tag : Tag
def Hh : Lay Done := Mi (BA GK (BA GK (BA GK EA))) fun d => (d.Ar, d.kind, d.key, d.tag)
abbrev Hi (E : TypeId) : Lay (List Done) := AO E 3518437208883 Hh
abbrev BU (d : Done) : List Value := [i64 d.Ar, i64 d.kind, i64 d.key, i64 d.tag.t, i64 d.tag.p]
theorem EC : Hh.n = 5 := rfl
section
variable {S : Nat → Prop} {w : World} {cs : List Value} {d : Done}
theorem D.done : D Hh S w cs d ↔ cs = BU d := by
 unfold Hh
 rw [D.map]
 simp only [D.pair, D.int, D.tag]
 constructor
 ·rintro ⟨c1, d1, rfl, rfl, c2, d2, rfl, rfl, c3, d3, rfl, rfl, rfl⟩
  rfl
 ·rintro rfl
  exact ⟨[_], _, rfl, rfl, [_], _, rfl, rfl, [_], _, rfl, rfl, rfl⟩
theorem O.done : O Hh S w cs d ↔ cs = BU d := by
 constructor
 ·rintro ⟨bs, h, _⟩
  have : D Hh (fun _ => True) w cs d := by
   obtain ⟨bs', h', _⟩ := Hh.read h
   exact ⟨bs', h', fun _ _ => trivial⟩
  exact D.done.1 this
 ·rintro rfl
  exact ⟨[], ⟨[_], _, [], [], rfl, ⟨rfl, rfl⟩, ⟨[_], _, [], [], rfl, ⟨rfl, rfl⟩, ⟨[_], _, [], [], rfl, ⟨rfl, rfl⟩, ⟨rfl, rfl⟩, rfl⟩, rfl⟩, rfl⟩, by simp, by simp⟩
end
def B9 (d : Done) : Bool := (decide (0 ≤ d.Ar) && decide (d.Ar ≤ 3)) && (decide (1 ≤ d.kind) && decide (d.kind ≤ 3)) && (decide (0 ≤ d.key) && decide (d.key ≤ 3)) && Cs d.tag && ((d.kind == 2) || decide (0 < d.tag.t))
def CL (l : List Done) : Bool := l.all B9 && decide (l.length ≤ 80)
theorem BH {d : Done} : B9 d = true ↔ (0 ≤ d.Ar ∧ d.Ar ≤ 3) ∧ (1 ≤ d.kind ∧ d.kind ≤ 3) ∧ (0 ≤ d.key ∧ d.key ≤ 3) ∧ Cs d.tag = true ∧ (d.kind = 2 ∨ 0 < d.tag.t) := by
 simp only [B9, Bool.and_eq_true, Bool.or_eq_true, decide_eq_true_eq, beq_iff_eq]
 constructor
 ·rintro ⟨⟨⟨⟨a, b⟩, c⟩, d⟩, e⟩
  exact ⟨a, b, c, d, e⟩
 ·rintro ⟨a, b, c, d, e⟩
  exact ⟨⟨⟨⟨a, b⟩, c⟩, d⟩, e⟩
abbrev Wr := List (Tag × Int × Int × List Tag)
def BD (wr : Wr) (t : Tag) : Option (Int × Int × List Tag) := (wr.find? fun p => p.1 == t).map (·.2)
structure Book where
 vs : List (List Tag)
 wr : Wr
def AR : Book := ⟨List.replicate 4 (List.replicate 4 ⟨0, 0⟩), []⟩
def view (b : Book) (d : Done) : List Tag := b.vs.getD d.Ar.toNat []
def Bl (p : List Tag) (k : Nat) (t : Tag) : List Tag := p.set k (Br (p.getD k ⟨0, 0⟩) t)
def Bb (b : Book) (d : Done) : Option Book :=
 if d.kind == 1 then (if (BD b.wr d.tag).isSome || decide (d.tag.t ≤ ET 0 (view b d)) then none else some ⟨b.vs, b.wr ++ [(d.tag, d.Ar, d.key, view b d)]⟩)
 else if AE d.tag ((view b d).getD d.key.toNat ⟨0, 0⟩) then none
 else if decide (0 < d.tag.t) then (match BD b.wr d.tag with
  | none => none
  | some (s, k, past) => if k != d.key || ((d.kind == 3) && (s != d.Ar)) then none else some ⟨b.vs.set d.Ar.toNat (Bl (AU (view b d) past) d.key.toNat d.tag), b.wr⟩)
 else some b
def CG : Book → List Done → Book × Nat
 | b, [] => (b, 0)
 | b, d :: l => match Bb b d with
  | none => (b, 0)
  | some b' => ((CG b' l).1, (CG b' l).2 + 1)
theorem Ca {b : Book} {d : Done} {l : List Done} (h : Bb b d = none) : CG b (d :: l) = (b, 0) := by rw [CG, h]
theorem BC {b b' : Book} {d : Done} {l : List Done} (h : Bb b d = some b') : CG b (d :: l) = ((CG b' l).1, (CG b' l).2 + 1) := by rw [CG, h]
theorem SZ : ∀ (l : List Done) (b : Book), (CG b l).2 ≤ l.length
 | [], b => Nat.le_refl _
 | d :: l, b => by
  cases h : Bb b d with
  | none => rw [Ca h]; exact Nat.zero_le _
  | some b' => rw [BC h]; have := SZ l b'; simp only [List.length_cons]; omega
def Book.Ok (b : Book) : Prop := b.vs.length = 4 ∧ (∀ v ∈ b.vs, v.length = 4) ∧ ∀ p ∈ b.wr, p.2.2.2.length = 4
theorem C4 : ∀ xs ys : List Tag, xs.length = ys.length → (AU xs ys).length = xs.length
 | [], [], _ => rfl
 | x :: xs, y :: ys, h => by
  simp only [List.length_cons, Nat.add_right_cancel_iff] at h
  rw [AU, List.length_cons, List.length_cons, C4 xs ys h]
 | [], _ :: _, h => by simp at h
 | _ :: _, [], h => by simp at h
theorem DT (p : List Tag) (k : Nat) (t : Tag) : (Bl p k t).length = p.length := by simp [Bl]
theorem EE {wr : Wr} {t : Tag} {x : Int × Int × List Tag} (h : BD wr t = some x) : (t, x) ∈ wr := by
 unfold BD at h
 simp only [Option.map_eq_some_iff] at h
 obtain ⟨p, h1, rfl⟩ := h
 have h2 := List.find?_some h1
 simp only [beq_iff_eq] at h2
 subst h2
 exact List.mem_of_find?_eq_some h1
theorem E8 {b : Book} (h : b.Ok) {d : Done} (hd : B9 d = true) : (view b d).length = 4 := by
 have hs := (BH.1 hd).1
 obtain ⟨h1, h2, _⟩ := h
 have : d.Ar.toNat < b.vs.length := by omega
 unfold view
 rw [List.getD_eq_getElem?_getD, List.getElem?_eq_getElem this, Option.getD_some]
 exact h2 _ (List.getElem_mem _)
theorem Jn {b : Book} (h : b.Ok) {d : Done} (hd : B9 d = true) : b.vs[d.Ar.toNat]? = some (view b d) := by
 have hs := (BH.1 hd).1
 obtain ⟨h1, h2, _⟩ := h
 have : d.Ar.toNat < b.vs.length := by omega
 unfold view
 rw [List.getD_eq_getElem?_getD, List.getElem?_eq_getElem this, Option.getD_some]
theorem Fa {b b' : Book} (h : b.Ok) {d : Done} (hd : B9 d = true) (hs : Bb b d = some b') : b'.Ok := by
 have hv := E8 h hd
 obtain ⟨h1, h2, h3⟩ := h
 unfold Bb at hs
 split at hs
 ·split at hs
  ·cases hs
  ·cases hs
   refine ⟨h1, h2, fun p hp => ?_⟩
   rcases List.mem_append.1 hp with hp | hp
   ·exact h3 p hp
   ·simp only [List.mem_singleton] at hp
    subst hp
    exact hv
 ·split at hs
  ·cases hs
  ·split at hs
   ·split at hs
    ·cases hs
    ·rename_i s k past hf
     split at hs
     ·cases hs
     ·cases hs
      refine ⟨by simp [h1], fun v hvm => ?_, h3⟩
      have hp : past.length = 4 := h3 _ (EE hf)
      rcases List.mem_or_eq_of_mem_set hvm with hvm | rfl
      ·exact h2 v hvm
      ·rw [DT, C4 _ _ (by omega), hv]
   ·cases hs
    exact ⟨h1, h2, h3⟩
theorem S6 (a b : Tag) : (a == b) = ((a.t == b.t) && (a.p == b.p)) := by
 rw [Bool.eq_iff_iff]
 simp only [beq_iff_eq, Bool.and_eq_true]
 exact ⟨fun h => by subst h; exact ⟨rfl, rfl⟩, fun h => QF h.1 h.2⟩
def GI : List Done → Tag → Option Done
 | [], _ => none
 | d :: l, t => if (d.kind == 1) && ((d.tag.t == t.t) && (d.tag.p == t.p)) then some d else GI l t
def OH : List Done → List (List Tag) → Wr
 | d :: l, p :: sn => if d.kind == 1 then (d.tag, d.Ar, d.key, p) :: OH l sn else OH l sn
 | _, _ => []
def Gp : List Done → List (List Tag) → Tag → Option (List Tag)
 | d :: l, p :: sn, t => if (d.kind == 1) && ((d.tag.t == t.t) && (d.tag.p == t.p)) then some p else Gp l sn t
 | _, _, _ => none
theorem MD (p : Tag × Int × Int × List Tag) (wr : Wr) (t : Tag) : BD (p :: wr) t = if p.1 == t then some p.2 else BD wr t := by
 unfold BD
 rw [List.find?_cons]
 cases p.1 == t <;> rfl
theorem PH : ∀ (l : List Done) (sn : List (List Tag)) (t : Tag), sn.length = l.length → (BD (OH l sn) t = none ∧ GI l t = none ∧ Gp l sn t = none) ∨ ∃ d p, BD (OH l sn) t = some (d.Ar, d.key, p) ∧ GI l t = some d ∧ Gp l sn t = some p
 | [], sn, t, h => by
  left
  cases sn <;> exact ⟨rfl, rfl, rfl⟩
 | d :: l, [], t, h => by simp at h
 | d :: l, p :: sn, t, h => by
  have ih := PH l sn t (by simpa using h)
  have hb := S6 d.tag t
  rw [OH, GI, Gp, ← hb]
  cases h1 : (d.kind == 1)
  ·simpa using ih
  ·simp only [if_true, Bool.true_and, MD]
   cases h2 : (d.tag == t)
   ·simpa using ih
   ·exact .inr ⟨d, p, rfl, rfl, rfl⟩
theorem OI : ∀ (l : List Done) (sn : List (List Tag)) (d : Done) (p : List Tag), sn.length = l.length → OH (l ++ [d]) (sn ++ [p]) = OH l sn ++ (if d.kind == 1 then [(d.tag, d.Ar, d.key, p)] else [])
 | [], [], d, p, _ => by
  show OH [d] [p] = _
  rw [OH]
  cases d.kind == 1 <;> rfl
 | [], _ :: _, d, p, h => by simp at h
 | _ :: _, [], d, p, h => by simp at h
 | x :: l, q :: sn, d, p, h => by
  have ih := OI l sn d p (by simpa using h)
  simp only [List.cons_append, OH, ih]
  split <;> rfl
def Hj (p : List Tag) (t : Tag) : Bool := p.all fun x => !decide (t.t ≤ x.t)
theorem NT : ∀ (p : List Tag) (m t : Int), decide (t ≤ ET m p) = (decide (t ≤ m) || p.any fun x => decide (t ≤ x.t))
 | [], m, t => by rw [ET, List.any_nil, Bool.or_false]
 | x :: p, m, t => by
  rw [ET, NT p, List.any_cons, ← Bool.or_assoc]
  congr 1
  rw [Bool.eq_iff_iff]
  simp only [Bool.or_eq_true, decide_eq_true_eq]
  split <;> omega
theorem Ro (p : List Tag) (t : Tag) (h : 0 < t.t) : Hj p t = !decide (t.t ≤ ET 0 p) := by
 rw [NT, show decide (t.t ≤ 0) = false by simp; omega, Bool.false_or]
 unfold Hj
 induction p with
 | nil => rfl
 | cons x p ih => simp [ih]
def Vw (L : Lay (List Tag)) (w : World) (S : Nat → Prop) (E : TypeId) (g : Nat) (cur : List Value) (vs : List (List Tag)) : Prop :=
 hp w g = some (.cells cur.toArray E (0, 0)) ∧ vs.length ≤ cur.length ∧ ∀ (i : Nat) v, vs[i]? = some v → ∃ a c, cur[i]? = some (.slice a v.length c) ∧ D L S w [.slice a v.length c] v
section
variable {L : Lay (List Tag)} {w w' : World} {S S' : Nat → Prop} {E : TypeId} {g : Nat} {cur : List Value} {vs : List (List Tag)}
theorem Vw.Aj (h : Vw L w S E g cur vs) (hg : hp w' g = hp w g) (k : ∀ b, S b → b < w.heap.size → hp w' b = hp w b) (k' : ∀ b, S b → b < w'.heap.size → S' b) : Vw L w' S' E g cur vs := by
 obtain ⟨h1, h2, h3⟩ := h
 refine ⟨hg.trans h1, h2, fun i v hv => ?_⟩
 obtain ⟨a, c, h4, h5⟩ := h3 i v hv
 exact ⟨a, c, h4, (h5.Aj k).wide k'⟩
theorem Vw.put (h : Vw L w S E g cur vs) (hS : ¬ S g) {i : Nat} (hi : i < vs.length) {a : Option Addr} {c : Nat} {x : List Tag} (hx : D L S w [.slice a x.length c] x) {cur' : List Value}
  (hc : cur' = AG cur i [.slice a x.length c]) : Vw L (w.setRow g cur'.toArray) S E g cur' (vs.set i x) := by
 obtain ⟨h1, h2, h3⟩ := h
 have hl : cur' = cur.set i (.slice a x.length c) := by
  rw [hc]
  unfold AG
  rw [List.set_eq_take_append_cons_drop, if_pos (by omega)]
  rfl
 have kk : ∀ b, S b → b < w.heap.size → hp (w.setRow g cur'.toArray) b = hp w b := fun b hb _ => Ad (fun e => hS (e ▸ hb))
 refine ⟨by rw [Cb, h1]; rfl, by rw [hl]; simpa using h2, fun j v hv => ?_⟩
 by_cases hj : j = i
 ·subst hj
  rw [List.getElem?_set_self hi] at hv
  obtain rfl := Option.some.inj hv
  refine ⟨a, c, by rw [hl, List.getElem?_set_self (by omega)], hx.Aj kk⟩
 ·rw [List.getElem?_set_ne (Ne.symm hj)] at hv
  obtain ⟨a', c', h4, h5⟩ := h3 j v hv
  exact ⟨a', c', by rw [hl, List.getElem?_set_ne (Ne.symm hj)]; exact h4, h5.Aj kk⟩
def Mp (L : Lay (List Tag)) (w : World) (S : Nat → Prop) (m : Nat) (wr : Wr) : Prop :=
 ∃ l : List (Tag × Value), hp w m = some (E7 l) ∧ BV (fun p q => p.1 = q.1 ∧ ∃ a c, p.2 = .agg #[i64 q.2.1, i64 q.2.2.1, .slice a q.2.2.2.length c] ∧ D L S w [.slice a q.2.2.2.length c] q.2.2.2) l wr
theorem Mp.Aj {m : Nat} {wr : Wr} (h : Mp L w S m wr) (hg : hp w' m = hp w m) (k : ∀ b, S b → b < w.heap.size → hp w' b = hp w b) (k' : ∀ b, S b → b < w'.heap.size → S' b) : Mp L w' S' m wr := by
 obtain ⟨l, h1, h2⟩ := h
 refine ⟨l, hg.trans h1, h2.imp fun p q h => ?_⟩
 obtain ⟨h3, a, c, h4, h5⟩ := h
 exact ⟨h3, a, c, h4, (h5.Aj k).wide k'⟩
theorem J5 : ∀ {l : List (Tag × Value)} {wr : Wr}, BV (fun p q => p.1 = q.1 ∧ ∃ a c, p.2 = .agg #[i64 q.2.1, i64 q.2.2.1, .slice a q.2.2.2.length c] ∧ D L S w [.slice a q.2.2.2.length c] q.2.2.2) l wr →
  ∀ t, (Ee l t = none ∧ BD wr t = none) ∨ ∃ s k p a c, Ee l t = some (.agg #[i64 s, i64 k, .slice a p.length c]) ∧ BD wr t = some (s, k, p) ∧ D L S w [.slice a p.length c] p
 | [], [], _, t => .inl ⟨rfl, rfl⟩
 | p :: l, q :: wr, h, t => by
  obtain ⟨⟨h1, a, c, h2, h3⟩, h4⟩ := h
  rw [Mx, MD, h1]
  cases q.1 == t
  ·simpa using J5 h4 t
  ·right
   exact ⟨q.2.1, q.2.2.1, q.2.2.2, a, c, by simp [h2], by simp, h3⟩
 | [], _ :: _, h, _ => h.elim
 | _ :: _, [], h, _ => h.elim
end
theorem Hk : AR.Ok := ⟨by simp [AR], by simp [AR], by simp [AR]⟩
end Go.Ev
