/- A part of the proof, without conditions. -/
import Derived.Lib.AppendZeros
import Derived.Test.YtkhbpmhagpljiaaGreatDoorEvX
import Derived.Test.YtkhbpmhagpljiaaGreatDoorEvN
set_option linter.unusedVariables false
set_option linter.unusedSimpArgs false
set_option linter.deprecated false
namespace Go.Ev
open Go Go.RowKit
section
variable {P : Program} {α : Type} {L : Lay α} {S S1 : Nat → Prop} {w w' : World} {E mx B : Nat}
theorem DG.Yp {β γ : Type} {R : β → γ → Prop} : ∀ {l : List β} {m : List γ} {l' : List β} {m' : List γ}, DG R l m → DG R l' m' → DG R (l ++ l') (m ++ m')
 | [], [], _, _, _, h => h
 | a :: l, b :: m, _, _, h, h' => ⟨h.1, DG.Yp h.2 h'⟩
 | [], _ :: _, _, _, h, _ => h.elim
 | _ :: _, [], _, _, h, _ => h.elim
end
structure Done where
 Ay : Int
 kind : Int
 key : Int
 tag : Tag
def GK : Lay Done := Nu (BX HZ (BX HZ (BX HZ F6))) fun d => (d.Ay, d.kind, d.key, d.tag)
abbrev HJ (E : TypeId) : Lay (List Done) := AY E 3518437208883 GK
abbrev Cd (d : Done) : List Value := [i64 d.Ay, i64 d.kind, i64 d.key, i64 d.tag.t, i64 d.tag.p]
theorem Ko : GK.n = 5 := rfl
section
variable {S : Nat → Prop} {w : World} {cs : List Value} {d : Done}
theorem D.done : D GK S w cs d ↔ cs = Cd d := by
 unfold GK
 rw [D.map]
 simp only [D.pair, D.int, D.tag]
 constructor
 ·rintro ⟨c1, d1, rfl, rfl, c2, d2, rfl, rfl, c3, d3, rfl, rfl, rfl⟩
  rfl
 ·rintro rfl
  exact ⟨[_], _, rfl, rfl, [_], _, rfl, rfl, [_], _, rfl, rfl, rfl⟩
theorem O.done : O GK S w cs d ↔ cs = Cd d := by
 constructor
 ·rintro ⟨bs, h, _⟩
  have : D GK (fun _ => True) w cs d := by
   obtain ⟨bs', h', _⟩ := GK.read h
   exact ⟨bs', h', fun _ _ => trivial⟩
  exact D.done.1 this
 ·rintro rfl
  exact ⟨[], ⟨[_], _, [], [], rfl, ⟨rfl, rfl⟩, ⟨[_], _, [], [], rfl, ⟨rfl, rfl⟩, ⟨[_], _, [], [], rfl, ⟨rfl, rfl⟩, ⟨rfl, rfl⟩, rfl⟩, rfl⟩, rfl⟩, by simp, by simp⟩
end
def Dq (d : Done) : Bool := (decide (0 ≤ d.Ay) && decide (d.Ay ≤ 3)) && (decide (1 ≤ d.kind) && decide (d.kind ≤ 3)) && (decide (0 ≤ d.key) && decide (d.key ≤ 3)) && Cc d.tag && ((d.kind == 2) || decide (0 < d.tag.t))
def BM (l : List Done) : Bool := l.all Dq && decide (l.length ≤ 80)
theorem Fh {d : Done} : Dq d = true ↔ (0 ≤ d.Ay ∧ d.Ay ≤ 3) ∧ (1 ≤ d.kind ∧ d.kind ≤ 3) ∧ (0 ≤ d.key ∧ d.key ≤ 3) ∧ Cc d.tag = true ∧ (d.kind = 2 ∨ 0 < d.tag.t) := by
 simp only [Dq, Bool.and_eq_true, Bool.or_eq_true, decide_eq_true_eq, beq_iff_eq]
 constructor
 ·rintro ⟨⟨⟨⟨a, b⟩, c⟩, d⟩, e⟩
  exact ⟨a, b, c, d, e⟩
 ·rintro ⟨a, b, c, d, e⟩
  exact ⟨⟨⟨⟨a, b⟩, c⟩, d⟩, e⟩
abbrev Wr := List (Tag × Int × Int × List Tag)
structure Book where
 vs : List (List Tag)
 wr : Wr
def Ey (p : List Tag) (k : Nat) (t : Tag) : List Tag := p.set k (FZ (p.getD k ⟨0, 0⟩) t)
theorem Ht (p : List Tag) (k : Nat) (t : Tag) : (Ey p k t).length = p.length := by simp [Ey]
section
variable {L : Lay (List Tag)} {w w' : World} {S S' : Nat → Prop} {E : TypeId} {g : Nat} {cur : List Value} {vs : List (List Tag)}
end
section
variable {P : Program} {α : Type} {L : Lay α} {S S1 S' : Nat → Prop} {w w' : World} {E mx B : Nat}
end
section
variable {L : Lay (List Tag)} {S S' : Nat → Prop} {w0 w w' : World} {E B : Nat}
end
end Go.Ev
namespace Go.Ev
open Go Go.RowKit
end Go.Ev
