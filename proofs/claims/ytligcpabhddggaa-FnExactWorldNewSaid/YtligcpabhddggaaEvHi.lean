/- A part of the proof: an evaluator of the model, its laws, and contracts of functions; no condition. -/
import Derived.Test.YtligcpabhddggaaEvN
import Derived.Test.YtligcpabhddggaaEvY
set_option linter.unusedVariables false
set_option linter.unusedSimpArgs false
namespace Go.Ev
open Go Go.RowKit
/-! ### Histories -/
structure Done where
  sess : Int
  kind : Int
  key : Int
  tag : Tag
def LDone : Lay Done := LMap (LPair LInt (LPair LInt (LPair LInt LTag))) fun d => (d.sess, d.kind, d.key, d.tag)
abbrev LDones (E : TypeId) : Lay (List Done) := LList E 3518437208883 LDone
abbrev doneC (d : Done) : List Value := [i64 d.sess, i64 d.kind, i64 d.key, i64 d.tag.t, i64 d.tag.p]
section
variable {S : Nat → Prop} {w : World} {cs : List Value} {d : Done}
theorem D.done : D LDone S w cs d ↔ cs = doneC d := by
  unfold LDone
  rw [D.map]
  simp only [D.pair, D.int, D.tag]
  constructor
  · rintro ⟨c1, d1, rfl, rfl, c2, d2, rfl, rfl, c3, d3, rfl, rfl, rfl⟩
    rfl
  · rintro rfl
    exact ⟨[_], _, rfl, rfl, [_], _, rfl, rfl, [_], _, rfl, rfl, rfl⟩
theorem O.done : O LDone S w cs d ↔ cs = doneC d := by
  constructor
  · rintro ⟨bs, h, _⟩
    have : D LDone (fun _ => True) w cs d := by
      obtain ⟨bs', h', _⟩ := LDone.read h
      exact ⟨bs', h', fun _ _ => trivial⟩
    exact D.done.1 this
  · rintro rfl
    exact ⟨[], ⟨[_], _, [], [], rfl, ⟨rfl, rfl⟩, ⟨[_], _, [], [], rfl, ⟨rfl, rfl⟩, ⟨[_], _, [], [], rfl, ⟨rfl, rfl⟩, ⟨rfl, rfl⟩, rfl⟩, rfl⟩, rfl⟩, by simp, by simp⟩
end
/-- What was written: its tag, by whom, of which key, and what was seen then. -/
abbrev Wr := List (Tag × Int × Int × List Tag)
structure Book where
  vs : List (List Tag)
  wr : Wr
/-- Views that stand in a block's first cells. -/
def Vw (L : Lay (List Tag)) (w : World) (S : Nat → Prop) (E : TypeId) (g : Nat) (cur : List Value) (vs : List (List Tag)) : Prop :=
  hp w g = some (.cells cur.toArray E (0, 0)) ∧ vs.length ≤ cur.length ∧ ∀ (i : Nat) v, vs[i]? = some v → ∃ a c, cur[i]? = some (.slice a v.length c) ∧ D L S w [.slice a v.length c] v
section
variable {L : Lay (List Tag)} {w w' : World} {S S' : Nat → Prop} {E : TypeId} {g : Nat} {cur : List Value} {vs : List (List Tag)}
theorem Vw.keep (h : Vw L w S E g cur vs) (hg : hp w' g = hp w g) (k : ∀ b, S b → b < w.heap.size → hp w' b = hp w b) (k' : ∀ b, S b → b < w'.heap.size → S' b) : Vw L w' S' E g cur vs := by
  obtain ⟨h1, h2, h3⟩ := h
  refine ⟨hg.trans h1, h2, fun i v hv => ?_⟩
  obtain ⟨a, c, h4, h5⟩ := h3 i v hv
  exact ⟨a, c, h4, (h5.keep k).wide k'⟩
theorem Vw.put (h : Vw L w S E g cur vs) (hS : ¬ S g) {i : Nat} (hi : i < vs.length) {a : Option Addr} {c : Nat} {x : List Tag} (hx : D L S w [.slice a x.length c] x) {cur' : List Value}
    (hc : cur' = splice cur i [.slice a x.length c]) : Vw L (w.setRow g cur'.toArray) S E g cur' (vs.set i x) := by
  obtain ⟨h1, h2, h3⟩ := h
  have hl : cur' = cur.set i (.slice a x.length c) := by
    rw [hc]
    unfold splice
    rw [List.set_eq_take_append_cons_drop, if_pos (by omega)]
    rfl
  have kk : ∀ b, S b → b < w.heap.size → hp (w.setRow g cur'.toArray) b = hp w b := fun b hb _ => hp_set_ne (fun e => hS (e ▸ hb))
  refine ⟨by rw [hp_set_eq, h1]; rfl, by rw [hl]; simpa using h2, fun j v hv => ?_⟩
  by_cases hj : j = i
  · subst hj
    rw [List.getElem?_set_self hi] at hv
    obtain rfl := Option.some.inj hv
    refine ⟨a, c, by rw [hl, List.getElem?_set_self (by omega)], hx.keep kk⟩
  · rw [List.getElem?_set_ne (Ne.symm hj)] at hv
    obtain ⟨a', c', h4, h5⟩ := h3 j v hv
    exact ⟨a', c', by rw [hl, List.getElem?_set_ne (Ne.symm hj)]; exact h4, h5.keep kk⟩
/-- The map of what was written. -/
def Mp (L : Lay (List Tag)) (w : World) (S : Nat → Prop) (m : Nat) (wr : Wr) : Prop :=
  ∃ l : List (Tag × Value), hp w m = some (mapO l) ∧ All2 (fun p q => p.1 = q.1 ∧ ∃ a c, p.2 = .agg #[i64 q.2.1, i64 q.2.2.1, .slice a q.2.2.2.length c] ∧ D L S w [.slice a q.2.2.2.length c] q.2.2.2) l wr
theorem Mp.keep {m : Nat} {wr : Wr} (h : Mp L w S m wr) (hg : hp w' m = hp w m) (k : ∀ b, S b → b < w.heap.size → hp w' b = hp w b) (k' : ∀ b, S b → b < w'.heap.size → S' b) : Mp L w' S' m wr := by
  obtain ⟨l, h1, h2⟩ := h
  refine ⟨l, hg.trans h1, h2.imp fun p q h => ?_⟩
  obtain ⟨h3, a, c, h4, h5⟩ := h
  exact ⟨h3, a, c, h4, (h5.keep k).wide k'⟩
end
end Go.Ev
