/- A part of the proof, without conditions. -/
import Derived.Test.YtjhhommnkaemlaaGreatEvN
import Derived.Test.YtjhhommnkaemlaaGreatEvY
set_option linter.unusedVariables false
set_option linter.unusedSimpArgs false
set_option linter.deprecated false
namespace Go.Ev
open Go Go.RowKit
structure Done where
 Ar : Int
 kind : Int
 key : Int
 tag : Tag
def Gi : Lay Done := LR (BC GH (BC GH (BC GH Ey))) fun d => (d.Ar, d.kind, d.key, d.tag)
abbrev Hg (E : TypeId) : Lay (List Done) := AP E 3518437208883 Gi
abbrev Bp (d : Done) : List Value := [i64 d.Ar, i64 d.kind, i64 d.key, i64 d.tag.t, i64 d.tag.p]
theorem FG : Gi.n = 5 := rfl
section
variable {S : Nat → Prop} {w : World} {cs : List Value} {d : Done}
theorem D.done : D Gi S w cs d ↔ cs = Bp d := by
 unfold Gi
 rw [D.map]
 simp only [D.pair, D.int, D.tag]
 constructor
 ·rintro ⟨c1, d1, rfl, rfl, c2, d2, rfl, rfl, c3, d3, rfl, rfl, rfl⟩
  rfl
 ·rintro rfl
  exact ⟨[_], _, rfl, rfl, [_], _, rfl, rfl, [_], _, rfl, rfl, rfl⟩
theorem O.done : O Gi S w cs d ↔ cs = Bp d := by
 constructor
 ·rintro ⟨bs, h, _⟩
  have : D Gi (fun _ => True) w cs d := by
   obtain ⟨bs', h', _⟩ := Gi.read h
   exact ⟨bs', h', fun _ _ => trivial⟩
  exact D.done.1 this
 ·rintro rfl
  exact ⟨[], ⟨[_], _, [], [], rfl, ⟨rfl, rfl⟩, ⟨[_], _, [], [], rfl, ⟨rfl, rfl⟩, ⟨[_], _, [], [], rfl, ⟨rfl, rfl⟩, ⟨rfl, rfl⟩, rfl⟩, rfl⟩, rfl⟩, by simp, by simp⟩
end
def Cw (d : Done) : Bool := (decide (0 ≤ d.Ar) && decide (d.Ar ≤ 3)) && (decide (1 ≤ d.kind) && decide (d.kind ≤ 3)) && (decide (0 ≤ d.key) && decide (d.key ≤ 3)) && DC d.tag && ((d.kind == 2) || decide (0 < d.tag.t))
def Dy (l : List Done) : Bool := l.all Cw && decide (l.length ≤ 80)
theorem BS {d : Done} : Cw d = true ↔ (0 ≤ d.Ar ∧ d.Ar ≤ 3) ∧ (1 ≤ d.kind ∧ d.kind ≤ 3) ∧ (0 ≤ d.key ∧ d.key ≤ 3) ∧ DC d.tag = true ∧ (d.kind = 2 ∨ 0 < d.tag.t) := by
 simp only [Cw, Bool.and_eq_true, Bool.or_eq_true, decide_eq_true_eq, beq_iff_eq]
 constructor
 ·rintro ⟨⟨⟨⟨a, b⟩, c⟩, d⟩, e⟩
  exact ⟨a, b, c, d, e⟩
 ·rintro ⟨a, b, c, d, e⟩
  exact ⟨⟨⟨⟨a, b⟩, c⟩, d⟩, e⟩
abbrev Wr := List (Tag × Int × Int × List Tag)
def BE (wr : Wr) (t : Tag) : Option (Int × Int × List Tag) := (wr.find? fun p => p.1 == t).map (·.2)
structure Book where
 vs : List (List Tag)
 wr : Wr
def AU : Book := ⟨List.replicate 4 (List.replicate 4 ⟨0, 0⟩), []⟩
def view (b : Book) (d : Done) : List Tag := b.vs.getD d.Ar.toNat []
def Bb (p : List Tag) (k : Nat) (t : Tag) : List Tag := p.set k (Bl (p.getD k ⟨0, 0⟩) t)
def AZ (b : Book) (d : Done) : Option Book :=
 if d.kind == 1 then (if (BE b.wr d.tag).isSome || decide (d.tag.t ≤ EP 0 (view b d)) then none else some ⟨b.vs, b.wr ++ [(d.tag, d.Ar, d.key, view b d)]⟩)
 else if AG d.tag ((view b d).getD d.key.toNat ⟨0, 0⟩) then none
 else if decide (0 < d.tag.t) then (match BE b.wr d.tag with
  | none => none
  | some (s, k, past) => if k != d.key || ((d.kind == 3) && (s != d.Ar)) then none else some ⟨b.vs.set d.Ar.toNat (Bb (AF (view b d) past) d.key.toNat d.tag), b.wr⟩)
 else some b
def DB : Book → List Done → Book × Nat
 | b, [] => (b, 0)
 | b, d :: l => match AZ b d with
  | none => (b, 0)
  | some b' => ((DB b' l).1, (DB b' l).2 + 1)
theorem Dz {b : Book} {d : Done} {l : List Done} (h : AZ b d = none) : DB b (d :: l) = (b, 0) := by rw [DB, h]
theorem BT {b b' : Book} {d : Done} {l : List Done} (h : AZ b d = some b') : DB b (d :: l) = ((DB b' l).1, (DB b' l).2 + 1) := by rw [DB, h]
theorem SI : ∀ (l : List Done) (b : Book), (DB b l).2 ≤ l.length
 | [], b => Nat.le_refl _
 | d :: l, b => by
  cases h : AZ b d with
  | none => rw [Dz h]; exact Nat.zero_le _
  | some b' => rw [BT h]; have := SI l b'; simp only [List.length_cons]; omega
def Book.Ok (b : Book) : Prop := b.vs.length = 4 ∧ (∀ v ∈ b.vs, v.length = 4) ∧ ∀ p ∈ b.wr, p.2.2.2.length = 4
theorem DM : ∀ xs ys : List Tag, xs.length = ys.length → (AF xs ys).length = xs.length
 | [], [], _ => rfl
 | x :: xs, y :: ys, h => by
  simp only [List.length_cons, Nat.add_right_cancel_iff] at h
  rw [AF, List.length_cons, List.length_cons, DM xs ys h]
 | [], _ :: _, h => by simp at h
 | _ :: _, [], h => by simp at h
theorem DN (p : List Tag) (k : Nat) (t : Tag) : (Bb p k t).length = p.length := by simp [Bb]
theorem EB {wr : Wr} {t : Tag} {x : Int × Int × List Tag} (h : BE wr t = some x) : (t, x) ∈ wr := by
 unfold BE at h
 simp only [Option.map_eq_some_iff] at h
 obtain ⟨p, h1, rfl⟩ := h
 have h2 := List.find?_some h1
 simp only [beq_iff_eq] at h2
 subst h2
 exact List.mem_of_find?_eq_some h1
theorem Gj {b : Book} (h : b.Ok) {d : Done} (hd : Cw d = true) : (view b d).length = 4 := by
 have hs := (BS.1 hd).1
 obtain ⟨h1, h2, _⟩ := h
 have : d.Ar.toNat < b.vs.length := by omega
 unfold view
 rw [List.getD_eq_getElem?_getD, List.getElem?_eq_getElem this, Option.getD_some]
 exact h2 _ (List.getElem_mem _)
theorem Je {b : Book} (h : b.Ok) {d : Done} (hd : Cw d = true) : b.vs[d.Ar.toNat]? = some (view b d) := by
 have hs := (BS.1 hd).1
 obtain ⟨h1, h2, _⟩ := h
 have : d.Ar.toNat < b.vs.length := by omega
 unfold view
 rw [List.getD_eq_getElem?_getD, List.getElem?_eq_getElem this, Option.getD_some]
theorem Gk {b b' : Book} (h : b.Ok) {d : Done} (hd : Cw d = true) (hs : AZ b d = some b') : b'.Ok := by
 have hv := Gj h hd
 obtain ⟨h1, h2, h3⟩ := h
 unfold AZ at hs
 split at hs
 ·split at hs
  ·cases hs
  ·cases hs
   refine ⟨h1, h2, fun p hp => ?_⟩
   rcases List.mem_append.1 hp with hp | hp
   ·exact h3 p hp
   ·simp only [List.mem_singleton] at hp
    subst hp
    exact hv
 ·split at hs
  ·cases hs
  ·split at hs
   ·split at hs
    ·cases hs
    ·rename_i s k past hf
     split at hs
     ·cases hs
     ·cases hs
      refine ⟨by simp [h1], fun v hvm => ?_, h3⟩
      have hp : past.length = 4 := h3 _ (EB hf)
      rcases List.mem_or_eq_of_mem_set hvm with hvm | rfl
      ·exact h2 v hvm
      ·rw [DN, DM _ _ (by omega), hv]
   ·cases hs
    exact ⟨h1, h2, h3⟩
theorem SJ (a b : Tag) : (a == b) = ((a.t == b.t) && (a.p == b.p)) := by
 rw [Bool.eq_iff_iff]
 simp only [beq_iff_eq, Bool.and_eq_true]
 exact ⟨fun h => by subst h; exact ⟨rfl, rfl⟩, fun h => To h.1 h.2⟩
def GF : List Done → Tag → Option Done
 | [], _ => none
 | d :: l, t => if (d.kind == 1) && ((d.tag.t == t.t) && (d.tag.p == t.p)) then some d else GF l t
def Oy : List Done → List (List Tag) → Wr
 | d :: l, p :: sn => if d.kind == 1 then (d.tag, d.Ar, d.key, p) :: Oy l sn else Oy l sn
 | _, _ => []
def Gl : List Done → List (List Tag) → Tag → Option (List Tag)
 | d :: l, p :: sn, t => if (d.kind == 1) && ((d.tag.t == t.t) && (d.tag.p == t.p)) then some p else Gl l sn t
 | _, _, _ => none
theorem Ml (p : Tag × Int × Int × List Tag) (wr : Wr) (t : Tag) : BE (p :: wr) t = if p.1 == t then some p.2 else BE wr t := by
 unfold BE
 rw [List.find?_cons]
 cases p.1 == t <;> rfl
theorem Pq : ∀ (l : List Done) (sn : List (List Tag)) (t : Tag), sn.length = l.length → (BE (Oy l sn) t = none ∧ GF l t = none ∧ Gl l sn t = none) ∨ ∃ d p, BE (Oy l sn) t = some (d.Ar, d.key, p) ∧ GF l t = some d ∧ Gl l sn t = some p
 | [], sn, t, h => by
  left
  cases sn <;> exact ⟨rfl, rfl, rfl⟩
 | d :: l, [], t, h => by simp at h
 | d :: l, p :: sn, t, h => by
  have ih := Pq l sn t (by simpa using h)
  have hb := SJ d.tag t
  rw [Oy, GF, Gl, ← hb]
  cases h1 : (d.kind == 1)
  ·simpa using ih
  ·simp only [if_true, Bool.true_and, Ml]
   cases h2 : (d.tag == t)
   ·simpa using ih
   ·exact .inr ⟨d, p, rfl, rfl, rfl⟩
theorem Oz : ∀ (l : List Done) (sn : List (List Tag)) (d : Done) (p : List Tag), sn.length = l.length → Oy (l ++ [d]) (sn ++ [p]) = Oy l sn ++ (if d.kind == 1 then [(d.tag, d.Ar, d.key, p)] else [])
 | [], [], d, p, _ => by
  show Oy [d] [p] = _
  rw [Oy]
  cases d.kind == 1 <;> rfl
 | [], _ :: _, d, p, h => by simp at h
 | _ :: _, [], d, p, h => by simp at h
 | x :: l, q :: sn, d, p, h => by
  have ih := Oz l sn d p (by simpa using h)
  simp only [List.cons_append, Oy, ih]
  split <;> rfl
def Hh (p : List Tag) (t : Tag) : Bool := p.all fun x => !decide (t.t ≤ x.t)
theorem NJ : ∀ (p : List Tag) (m t : Int), decide (t ≤ EP m p) = (decide (t ≤ m) || p.any fun x => decide (t ≤ x.t))
 | [], m, t => by rw [EP, List.any_nil, Bool.or_false]
 | x :: p, m, t => by
  rw [EP, NJ p, List.any_cons, ← Bool.or_assoc]
  congr 1
  rw [Bool.eq_iff_iff]
  simp only [Bool.or_eq_true, decide_eq_true_eq]
  split <;> omega
theorem Q6 (p : List Tag) (t : Tag) (h : 0 < t.t) : Hh p t = !decide (t.t ≤ EP 0 p) := by
 rw [NJ, show decide (t.t ≤ 0) = false by simp; omega, Bool.false_or]
 unfold Hh
 induction p with
 | nil => rfl
 | cons x p ih => simp [ih]
def Vw (L : Lay (List Tag)) (w : World) (S : Nat → Prop) (E : TypeId) (g : Nat) (cur : List Value) (vs : List (List Tag)) : Prop :=
 hp w g = some (.cells cur.toArray E (0, 0)) ∧ vs.length ≤ cur.length ∧ ∀ (i : Nat) v, vs[i]? = some v → ∃ a c, cur[i]? = some (.slice a v.length c) ∧ D L S w [.slice a v.length c] v
section
variable {L : Lay (List Tag)} {w w' : World} {S S' : Nat → Prop} {E : TypeId} {g : Nat} {cur : List Value} {vs : List (List Tag)}
theorem Vw.Aj (h : Vw L w S E g cur vs) (hg : hp w' g = hp w g) (k : ∀ b, S b → b < w.heap.size → hp w' b = hp w b) (k' : ∀ b, S b → b < w'.heap.size → S' b) : Vw L w' S' E g cur vs := by
 obtain ⟨h1, h2, h3⟩ := h
 refine ⟨hg.trans h1, h2, fun i v hv => ?_⟩
 obtain ⟨a, c, h4, h5⟩ := h3 i v hv
 exact ⟨a, c, h4, (h5.Aj k).wide k'⟩
theorem Vw.put (h : Vw L w S E g cur vs) (hS : ¬ S g) {i : Nat} (hi : i < vs.length) {a : Option Addr} {c : Nat} {x : List Tag} (hx : D L S w [.slice a x.length c] x) {cur' : List Value}
  (hc : cur' = AH cur i [.slice a x.length c]) : Vw L (w.setRow g cur'.toArray) S E g cur' (vs.set i x) := by
 obtain ⟨h1, h2, h3⟩ := h
 have hl : cur' = cur.set i (.slice a x.length c) := by
  rw [hc]
  unfold AH
  rw [List.set_eq_take_append_cons_drop, if_pos (by omega)]
  rfl
 have kk : ∀ b, S b → b < w.heap.size → hp (w.setRow g cur'.toArray) b = hp w b := fun b hb _ => Ac (fun e => hS (e ▸ hb))
 refine ⟨by rw [B8, h1]; rfl, by rw [hl]; simpa using h2, fun j v hv => ?_⟩
 by_cases hj : j = i
 ·subst hj
  rw [List.getElem?_set_self hi] at hv
  obtain rfl := Option.some.inj hv
  refine ⟨a, c, by rw [hl, List.getElem?_set_self (by omega)], hx.Aj kk⟩
 ·rw [List.getElem?_set_ne (Ne.symm hj)] at hv
  obtain ⟨a', c', h4, h5⟩ := h3 j v hv
  exact ⟨a', c', by rw [hl, List.getElem?_set_ne (Ne.symm hj)]; exact h4, h5.Aj kk⟩
def Mp (L : Lay (List Tag)) (w : World) (S : Nat → Prop) (m : Nat) (wr : Wr) : Prop :=
 ∃ l : List (Tag × Value), hp w m = some (EY l) ∧ BU (fun p q => p.1 = q.1 ∧ ∃ a c, p.2 = .agg #[i64 q.2.1, i64 q.2.2.1, .slice a q.2.2.2.length c] ∧ D L S w [.slice a q.2.2.2.length c] q.2.2.2) l wr
theorem Mp.Aj {m : Nat} {wr : Wr} (h : Mp L w S m wr) (hg : hp w' m = hp w m) (k : ∀ b, S b → b < w.heap.size → hp w' b = hp w b) (k' : ∀ b, S b → b < w'.heap.size → S' b) : Mp L w' S' m wr := by
 obtain ⟨l, h1, h2⟩ := h
 refine ⟨l, hg.trans h1, h2.imp fun p q h => ?_⟩
 obtain ⟨h3, a, c, h4, h5⟩ := h
 exact ⟨h3, a, c, h4, (h5.Aj k).wide k'⟩
theorem JU : ∀ {l : List (Tag × Value)} {wr : Wr}, BU (fun p q => p.1 = q.1 ∧ ∃ a c, p.2 = .agg #[i64 q.2.1, i64 q.2.2.1, .slice a q.2.2.2.length c] ∧ D L S w [.slice a q.2.2.2.length c] q.2.2.2) l wr →
  ∀ t, (DZ l t = none ∧ BE wr t = none) ∨ ∃ s k p a c, DZ l t = some (.agg #[i64 s, i64 k, .slice a p.length c]) ∧ BE wr t = some (s, k, p) ∧ D L S w [.slice a p.length c] p
 | [], [], _, t => .inl ⟨rfl, rfl⟩
 | p :: l, q :: wr, h, t => by
  obtain ⟨⟨h1, a, c, h2, h3⟩, h4⟩ := h
  rw [Mh, Ml, h1]
  cases q.1 == t
  ·simpa using JU h4 t
  ·right
   exact ⟨q.2.1, q.2.2.1, q.2.2.2, a, c, by simp [h2], by simp, h3⟩
 | [], _ :: _, h, _ => h.elim
 | _ :: _, [], h, _ => h.elim
end
theorem Gm : AU.Ok := ⟨by simp [AU], by simp [AU], by simp [AU]⟩
end Go.Ev
