/- A part of the proof: an evaluator of the model, its laws, and contracts of functions; no condition. -/
import Derived.Test.YtjhhommnkaemlaaGreatEvN
import Derived.Test.YtjhhommnkaemlaaGreatEvY
set_option linter.unusedVariables false
set_option linter.unusedSimpArgs false
set_option linter.deprecated false
namespace Go.Ev
open Go Go.RowKit
structure Done where
 Ar : Int
 kind : Int
 key : Int
 tag : Tag
def GL : Lay Done := Lm (Bv Gj (Bv Gj (Bv Gj Ef))) fun d => (d.Ar, d.kind, d.key, d.tag)
abbrev GM (E : TypeId) : Lay (List Done) := AO E 3518437208883 GL
abbrev BJ (d : Done) : List Value := [i64 d.Ar, i64 d.kind, i64 d.key, i64 d.tag.t, i64 d.tag.p]
theorem Gc : GL.n = 5 := rfl
section
variable {S : Nat → Prop} {w : World} {cs : List Value} {d : Done}
theorem D.done : D GL S w cs d ↔ cs = BJ d := by
 unfold GL
 rw [D.map]
 simp only [D.pair, D.int, D.tag]
 constructor
 ·rintro ⟨c1, d1, rfl, rfl, c2, d2, rfl, rfl, c3, d3, rfl, rfl, rfl⟩
  rfl
 ·rintro rfl
  exact ⟨[_], _, rfl, rfl, [_], _, rfl, rfl, [_], _, rfl, rfl, rfl⟩
theorem O.done : O GL S w cs d ↔ cs = BJ d := by
 constructor
 ·rintro ⟨bs, h, _⟩
  have : D GL (fun _ => True) w cs d := by
   obtain ⟨bs', h', _⟩ := GL.read h
   exact ⟨bs', h', fun _ _ => trivial⟩
  exact D.done.1 this
 ·rintro rfl
  exact ⟨[], ⟨[_], _, [], [], rfl, ⟨rfl, rfl⟩, ⟨[_], _, [], [], rfl, ⟨rfl, rfl⟩, ⟨[_], _, [], [], rfl, ⟨rfl, rfl⟩, ⟨rfl, rfl⟩, rfl⟩, rfl⟩, rfl⟩, by simp, by simp⟩
end
def DU (d : Done) : Bool := (decide (0 ≤ d.Ar) && decide (d.Ar ≤ 3)) && (decide (1 ≤ d.kind) && decide (d.kind ≤ 3)) && (decide (0 ≤ d.key) && decide (d.key ≤ 3)) && Fb d.tag && ((d.kind == 2) || decide (0 < d.tag.t))
def Ch (l : List Done) : Bool := l.all DU && decide (l.length ≤ 80)
theorem DL {d : Done} : DU d = true ↔ (0 ≤ d.Ar ∧ d.Ar ≤ 3) ∧ (1 ≤ d.kind ∧ d.kind ≤ 3) ∧ (0 ≤ d.key ∧ d.key ≤ 3) ∧ Fb d.tag = true ∧ (d.kind = 2 ∨ 0 < d.tag.t) := by
 simp only [DU, Bool.and_eq_true, Bool.or_eq_true, decide_eq_true_eq, beq_iff_eq]
 constructor
 ·rintro ⟨⟨⟨⟨a, b⟩, c⟩, d⟩, e⟩
  exact ⟨a, b, c, d, e⟩
 ·rintro ⟨a, b, c, d, e⟩
  exact ⟨⟨⟨⟨a, b⟩, c⟩, d⟩, e⟩
abbrev Wr := List (Tag × Int × Int × List Tag)
def Cb (wr : Wr) (t : Tag) : Option (Int × Int × List Tag) := (wr.find? fun p => p.1 == t).map (·.2)
structure Book where
 vs : List (List Tag)
 wr : Wr
def Bm : Book := ⟨List.replicate 4 (List.replicate 4 ⟨0, 0⟩), []⟩
def view (b : Book) (d : Done) : List Tag := b.vs.getD d.Ar.toNat []
def Br (p : List Tag) (k : Nat) (t : Tag) : List Tag := p.set k (BT (p.getD k ⟨0, 0⟩) t)
def Bw (b : Book) (d : Done) : Option Book :=
 if d.kind == 1 then (if (Cb b.wr d.tag).isSome || decide (d.tag.t ≤ Fz 0 (view b d)) then none else some ⟨b.vs, b.wr ++ [(d.tag, d.Ar, d.key, view b d)]⟩)
 else if AL d.tag ((view b d).getD d.key.toNat ⟨0, 0⟩) then none
 else if decide (0 < d.tag.t) then (match Cb b.wr d.tag with
  | none => none
  | some (s, k, past) => if k != d.key || ((d.kind == 3) && (s != d.Ar)) then none else some ⟨b.vs.set d.Ar.toNat (Br (AY (view b d) past) d.key.toNat d.tag), b.wr⟩)
 else some b
def EC : Book → List Done → Book × Nat
 | b, [] => (b, 0)
 | b, d :: l => match Bw b d with
  | none => (b, 0)
  | some b' => ((EC b' l).1, (EC b' l).2 + 1)
theorem FX {b : Book} {d : Done} {l : List Done} (h : Bw b d = none) : EC b (d :: l) = (b, 0) := by rw [EC, h]
theorem EA {b b' : Book} {d : Done} {l : List Done} (h : Bw b d = some b') : EC b (d :: l) = ((EC b' l).1, (EC b' l).2 + 1) := by rw [EC, h]
theorem Pk : ∀ (l : List Done) (b : Book), (EC b l).2 ≤ l.length
 | [], b => Nat.le_refl _
 | d :: l, b => by
  cases h : Bw b d with
  | none => rw [FX h]; exact Nat.zero_le _
  | some b' => rw [EA h]; have := Pk l b'; simp only [List.length_cons]; omega
def Book.Ok (b : Book) : Prop := b.vs.length = 4 ∧ (∀ v ∈ b.vs, v.length = 4) ∧ ∀ p ∈ b.wr, p.2.2.2.length = 4
theorem Dx : ∀ xs ys : List Tag, xs.length = ys.length → (AY xs ys).length = xs.length
 | [], [], _ => rfl
 | x :: xs, y :: ys, h => by
  simp only [List.length_cons, Nat.add_right_cancel_iff] at h
  rw [AY, List.length_cons, List.length_cons, Dx xs ys h]
 | [], _ :: _, h => by simp at h
 | _ :: _, [], h => by simp at h
theorem Dy (p : List Tag) (k : Nat) (t : Tag) : (Br p k t).length = p.length := by simp [Br]
theorem Jr {wr : Wr} {t : Tag} {x : Int × Int × List Tag} (h : Cb wr t = some x) : (t, x) ∈ wr := by
 unfold Cb at h
 simp only [Option.map_eq_some_iff] at h
 obtain ⟨p, h1, rfl⟩ := h
 have h2 := List.find?_some h1
 simp only [beq_iff_eq] at h2
 subst h2
 exact List.mem_of_find?_eq_some h1
theorem GN {b : Book} (h : b.Ok) {d : Done} (hd : DU d = true) : (view b d).length = 4 := by
 have hs := (DL.1 hd).1
 obtain ⟨h1, h2, _⟩ := h
 have : d.Ar.toNat < b.vs.length := by omega
 unfold view
 rw [List.getD_eq_getElem?_getD, List.getElem?_eq_getElem this, Option.getD_some]
 exact h2 _ (List.getElem_mem _)
theorem LF {b : Book} (h : b.Ok) {d : Done} (hd : DU d = true) : b.vs[d.Ar.toNat]? = some (view b d) := by
 have hs := (DL.1 hd).1
 obtain ⟨h1, h2, _⟩ := h
 have : d.Ar.toNat < b.vs.length := by omega
 unfold view
 rw [List.getD_eq_getElem?_getD, List.getElem?_eq_getElem this, Option.getD_some]
theorem LG {b b' : Book} (h : b.Ok) {d : Done} (hd : DU d = true) (hs : Bw b d = some b') : b'.Ok := by
 have hv := GN h hd
 obtain ⟨h1, h2, h3⟩ := h
 unfold Bw at hs
 split at hs
 ·split at hs
  ·cases hs
  ·cases hs
   refine ⟨h1, h2, fun p hp => ?_⟩
   rcases List.mem_append.1 hp with hp | hp
   ·exact h3 p hp
   ·simp only [List.mem_singleton] at hp
    subst hp
    exact hv
 ·split at hs
  ·cases hs
  ·split at hs
   ·split at hs
    ·cases hs
    ·rename_i s k past hf
     split at hs
     ·cases hs
     ·cases hs
      refine ⟨by simp [h1], fun v hvm => ?_, h3⟩
      have hp : past.length = 4 := h3 _ (Jr hf)
      rcases List.mem_or_eq_of_mem_set hvm with hvm | rfl
      ·exact h2 v hvm
      ·rw [Dy, Dx _ _ (by omega), hv]
   ·cases hs
    exact ⟨h1, h2, h3⟩
theorem RB (a b : Tag) : (a == b) = ((a.t == b.t) && (a.p == b.p)) := by
 rw [Bool.eq_iff_iff]
 simp only [beq_iff_eq, Bool.and_eq_true]
 exact ⟨fun h => by subst h; exact ⟨rfl, rfl⟩, fun h => Se h.1 h.2⟩
def Gh : List Done → Tag → Option Done
 | [], _ => none
 | d :: l, t => if (d.kind == 1) && ((d.tag.t == t.t) && (d.tag.p == t.p)) then some d else Gh l t
def NI : List Done → List (List Tag) → Wr
 | d :: l, p :: sn => if d.kind == 1 then (d.tag, d.Ar, d.key, p) :: NI l sn else NI l sn
 | _, _ => []
def FY : List Done → List (List Tag) → Tag → Option (List Tag)
 | d :: l, p :: sn, t => if (d.kind == 1) && ((d.tag.t == t.t) && (d.tag.p == t.p)) then some p else FY l sn t
 | _, _, _ => none
theorem LH (p : Tag × Int × Int × List Tag) (wr : Wr) (t : Tag) : Cb (p :: wr) t = if p.1 == t then some p.2 else Cb wr t := by
 unfold Cb
 rw [List.find?_cons]
 cases p.1 == t <;> rfl
theorem OO : ∀ (l : List Done) (sn : List (List Tag)) (t : Tag), sn.length = l.length → (Cb (NI l sn) t = none ∧ Gh l t = none ∧ FY l sn t = none) ∨ ∃ d p, Cb (NI l sn) t = some (d.Ar, d.key, p) ∧ Gh l t = some d ∧ FY l sn t = some p
 | [], sn, t, h => by
  left
  cases sn <;> exact ⟨rfl, rfl, rfl⟩
 | d :: l, [], t, h => by simp at h
 | d :: l, p :: sn, t, h => by
  have ih := OO l sn t (by simpa using h)
  have hb := RB d.tag t
  rw [NI, Gh, FY, ← hb]
  cases h1 : (d.kind == 1)
  ·simpa using ih
  ·simp only [if_true, Bool.true_and, LH]
   cases h2 : (d.tag == t)
   ·simpa using ih
   ·exact .inr ⟨d, p, rfl, rfl, rfl⟩
theorem NJ : ∀ (l : List Done) (sn : List (List Tag)) (d : Done) (p : List Tag), sn.length = l.length → NI (l ++ [d]) (sn ++ [p]) = NI l sn ++ (if d.kind == 1 then [(d.tag, d.Ar, d.key, p)] else [])
 | [], [], d, p, _ => by
  show NI [d] [p] = _
  rw [NI]
  cases d.kind == 1 <;> rfl
 | [], _ :: _, d, p, h => by simp at h
 | _ :: _, [], d, p, h => by simp at h
 | x :: l, q :: sn, d, p, h => by
  have ih := NJ l sn d p (by simpa using h)
  simp only [List.cons_append, NI, ih]
  split <;> rfl
def GO (p : List Tag) (t : Tag) : Bool := p.all fun x => !decide (t.t ≤ x.t)
theorem MQ : ∀ (p : List Tag) (m t : Int), decide (t ≤ Fz m p) = (decide (t ≤ m) || p.any fun x => decide (t ≤ x.t))
 | [], m, t => by rw [Fz, List.any_nil, Bool.or_false]
 | x :: p, m, t => by
  rw [Fz, MQ p, List.any_cons, ← Bool.or_assoc]
  congr 1
  rw [Bool.eq_iff_iff]
  simp only [Bool.or_eq_true, decide_eq_true_eq]
  split <;> omega
theorem Qq (p : List Tag) (t : Tag) (h : 0 < t.t) : GO p t = !decide (t.t ≤ Fz 0 p) := by
 rw [MQ, show decide (t.t ≤ 0) = false by simp; omega, Bool.false_or]
 unfold GO
 induction p with
 | nil => rfl
 | cons x p ih => simp [ih]
def Vw (L : Lay (List Tag)) (w : World) (S : Nat → Prop) (E : TypeId) (g : Nat) (cur : List Value) (vs : List (List Tag)) : Prop :=
 hp w g = some (.cells cur.toArray E (0, 0)) ∧ vs.length ≤ cur.length ∧ ∀ (i : Nat) v, vs[i]? = some v → ∃ a c, cur[i]? = some (.slice a v.length c) ∧ D L S w [.slice a v.length c] v
section
variable {L : Lay (List Tag)} {w w' : World} {S S' : Nat → Prop} {E : TypeId} {g : Nat} {cur : List Value} {vs : List (List Tag)}
theorem Vw.Aj (h : Vw L w S E g cur vs) (hg : hp w' g = hp w g) (k : ∀ b, S b → b < w.heap.size → hp w' b = hp w b) (k' : ∀ b, S b → b < w'.heap.size → S' b) : Vw L w' S' E g cur vs := by
 obtain ⟨h1, h2, h3⟩ := h
 refine ⟨hg.trans h1, h2, fun i v hv => ?_⟩
 obtain ⟨a, c, h4, h5⟩ := h3 i v hv
 exact ⟨a, c, h4, (h5.Aj k).wide k'⟩
theorem Vw.put (h : Vw L w S E g cur vs) (hS : ¬ S g) {i : Nat} (hi : i < vs.length) {a : Option Addr} {c : Nat} {x : List Tag} (hx : D L S w [.slice a x.length c] x) {cur' : List Value}
  (hc : cur' = AF cur i [.slice a x.length c]) : Vw L (w.setRow g cur'.toArray) S E g cur' (vs.set i x) := by
 obtain ⟨h1, h2, h3⟩ := h
 have hl : cur' = cur.set i (.slice a x.length c) := by
  rw [hc]
  unfold AF
  rw [List.set_eq_take_append_cons_drop, if_pos (by omega)]
  rfl
 have kk : ∀ b, S b → b < w.heap.size → hp (w.setRow g cur'.toArray) b = hp w b := fun b hb _ => Ac (fun e => hS (e ▸ hb))
 refine ⟨by rw [BS, h1]; rfl, by rw [hl]; simpa using h2, fun j v hv => ?_⟩
 by_cases hj : j = i
 ·subst hj
  rw [List.getElem?_set_self hi] at hv
  obtain rfl := Option.some.inj hv
  refine ⟨a, c, by rw [hl, List.getElem?_set_self (by omega)], hx.Aj kk⟩
 ·rw [List.getElem?_set_ne (Ne.symm hj)] at hv
  obtain ⟨a', c', h4, h5⟩ := h3 j v hv
  exact ⟨a', c', by rw [hl, List.getElem?_set_ne (Ne.symm hj)]; exact h4, h5.Aj kk⟩
def Mp (L : Lay (List Tag)) (w : World) (S : Nat → Prop) (m : Nat) (wr : Wr) : Prop :=
 ∃ l : List (Tag × Value), hp w m = some (Ez l) ∧ BK (fun p q => p.1 = q.1 ∧ ∃ a c, p.2 = .agg #[i64 q.2.1, i64 q.2.2.1, .slice a q.2.2.2.length c] ∧ D L S w [.slice a q.2.2.2.length c] q.2.2.2) l wr
theorem Mp.Aj {m : Nat} {wr : Wr} (h : Mp L w S m wr) (hg : hp w' m = hp w m) (k : ∀ b, S b → b < w.heap.size → hp w' b = hp w b) (k' : ∀ b, S b → b < w'.heap.size → S' b) : Mp L w' S' m wr := by
 obtain ⟨l, h1, h2⟩ := h
 refine ⟨l, hg.trans h1, h2.imp fun p q h => ?_⟩
 obtain ⟨h3, a, c, h4, h5⟩ := h
 exact ⟨h3, a, c, h4, (h5.Aj k).wide k'⟩
theorem Js : ∀ {l : List (Tag × Value)} {wr : Wr}, BK (fun p q => p.1 = q.1 ∧ ∃ a c, p.2 = .agg #[i64 q.2.1, i64 q.2.2.1, .slice a q.2.2.2.length c] ∧ D L S w [.slice a q.2.2.2.length c] q.2.2.2) l wr →
  ∀ t, (DK l t = none ∧ Cb wr t = none) ∨ ∃ s k p a c, DK l t = some (.agg #[i64 s, i64 k, .slice a p.length c]) ∧ Cb wr t = some (s, k, p) ∧ D L S w [.slice a p.length c] p
 | [], [], _, t => .inl ⟨rfl, rfl⟩
 | p :: l, q :: wr, h, t => by
  obtain ⟨⟨h1, a, c, h2, h3⟩, h4⟩ := h
  rw [LB, LH, h1]
  cases q.1 == t
  ·simpa using Js h4 t
  ·right
   exact ⟨q.2.1, q.2.2.1, q.2.2.2, a, c, by simp [h2], by simp, h3⟩
 | [], _ :: _, h, _ => h.elim
 | _ :: _, [], h, _ => h.elim
end
theorem OP : Bm.Ok := ⟨by simp [Bm], by simp [Bm], by simp [Bm]⟩
end Go.Ev
