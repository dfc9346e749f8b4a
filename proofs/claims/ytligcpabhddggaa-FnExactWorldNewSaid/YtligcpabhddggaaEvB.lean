/- A part of the proof: an evaluator of the model, its laws, and contracts of functions; no condition. -/
import Derived.Test.YtligcpabhddggaaEvA
set_option linter.unusedVariables false
namespace Go.Ev
open Go
/-! ### Operations in a region -/
def gval (ops : List Oper) (e : Env) (j : Nat) : Value :=
  match ops[j]? with
  | some o => match o.dst with | some d => e d | none => undef
  | none => undef
def wants : Value → Bool → Bool
  | .bool true, t => t
  | .bool false, t => !t
  | _, _ => false
def gif (v : Value) (t : Bool) (x : Option (Value × World)) (w : World) : Option (Value × World) :=
  match wants v t with
  | true => x
  | false => some (undef, w)
def opG (P : Program) (call : Cl) (ops : List Oper) (e : Env) (o : Oper) (w : World) : Option (Value × World) :=
  match o.guard with
  | none => opD P call e o w
  | some (j, t) => gif (gval ops e j) t (opD P call e o w) w
def opsD (P : Program) (call : Cl) (n : Nat) (ops : List Oper) : List Oper → Env → World → Option (Env × World)
  | [], e, w => some (e, w)
  | o :: l, e, w => (opG P call ops e o w).bind fun r => opsD P call n ops l (put n e o.dst r.1) r.2
/-! ### A region that draws its order -/
def bindsA (ed : Edge) : Bool := match ed.ground with | .textOnly _ => false | .gcOnly _ => false | _ => true
def depL : List Edge → Nat
  | [] => 0
  | ed :: l => bif bindsA ed then 2 ^ ed.on ||| depL l else depL l
def ancL (A : List Nat) : List Edge → Nat
  | [] => 0
  | ed :: l => bif bindsA ed then (2 ^ ed.on ||| A.getD ed.on 0) ||| ancL A l else ancL A l
def ancs : List Oper → List Nat → List Nat
  | [], A => A
  | o :: l, A => ancs l (A ++ [ancL A o.after.toList])
def ancChk (A : List Nat) : List Oper → List Nat → Bool
  | o :: l, x :: r => Nat.beq x (ancL A o.after.toList) && ancChk A l r
  | [], [] => true
  | _, _ => false
def quietOp : Op → Bool
  | .move _ | .assign _ | .pick .. | .build .. | .load .. | .nilCheck _ | .binOp .. | .unOp .. | .convert .. | .makeInterface .. | .makeFunc .. | .slice ..
  | .fieldAddr .. | .field .. | .indexAddr .. | .index .. | .lookup .. | .typeAssert .. | .extract .. => true
  | .call ⟨.builtin .len, _, _⟩ | .call ⟨.builtin .cap, _, _⟩ | .call ⟨.builtin .max, _, _⟩ | .call ⟨.builtin .min, _, _⟩ => true
  | _ => false
/-- The same in whatever world, to see. -/
def pureOp : Op → Bool
  | .move _ | .assign _ | .pick .. | .makeFunc .. => true
  | _ => false
def tmpsOf : List Operand → List Nat
  | [] => []
  | .tmp t :: l => t :: tmpsOf l
  | _ :: l => tmpsOf l
def looks (ops : List Oper) (o : Oper) : List Nat :=
  tmpsOf o.op.operands.toList ++ (match o.guard with | some (j, _) => (match ops[j]? with | some x => x.dst.toList | none => []) | none => [])
def notIn (d : Option Nat) (l : List Nat) : Bool := match d with | some d => l.all fun t => !Nat.beq t d | none => true
def offDst (d d' : Option Nat) : Bool := match d, d' with | some a, some b => !Nat.beq a b | _, _ => true
def apartB (ops : List Oper) (x y : Oper) : Bool := notIn x.dst (looks ops y) && notIn y.dst (looks ops x) && offDst x.dst y.dst
def readyB (L : Nat) (i : Nat) (o : Oper) : Bool := !L.testBit i && Nat.beq (depL o.after.toList &&& L) (depL o.after.toList)
/-- No other that has not come up waits for nothing. -/
def onlyB (L : Nat) (i : Nat) : List Oper → Nat → Bool
  | [], _ => true
  | o :: l, j => (Nat.beq j i || !readyB L j o) && onlyB L i l (j + 1)
/-- Whoever has not come up waits for i, or is apart from it. -/
def freeB (ops : List Oper) (A : List Nat) (L : Nat) (i : Nat) (oi : Oper) : List Oper → Nat → Bool
  | [], _ => true
  | o :: l, j => (Nat.beq j i || L.testBit j || (A.getD j 0).testBit i || apartB ops oi o) && freeB ops A L i oi l (j + 1)
def pickB (q : Bool) (L : Nat) : List Oper → Nat → Option Nat
  | [], _ => none
  | o :: l, j => bif readyB L j o && (!q || quietOp o.op) then some j else pickB q L l (j + 1)
def nextB (ops : List Oper) (L : Nat) : Option Nat := match pickB true L ops 0 with | some j => some j | none => pickB false L ops 0
def planOf (ops : List Oper) : Nat → Nat → List Nat
  | 0, _ => []
  | f + 1, L => match nextB ops L with
    | some i => i :: planOf ops f (L ||| 2 ^ i)
    | none => []
def planOk (ops : List Oper) (A : List Nat) : List Nat → Nat → Bool
  | [], L => Nat.beq (L + 1) (2 ^ ops.length)
  | i :: l, L => (match ops[i]? with
    | some o => readyB L i o && (bif quietOp o.op then freeB ops A L i o ops 0 else onlyB L i ops 0)
    | none => false) && planOk ops A l (L ||| 2 ^ i)
abbrev Pend := List (Nat × (World → Option (Value × World)) × Value)
def chkP (a : Nat) (w : World) : Pend → Prop
  | [] => True
  | p :: l => (match a.testBit p.1 with | true => True | false => p.2.1 w = some (p.2.2, w)) ∧ chkP a w l
open Classical in
noncomputable def ifP {R : Type} (p : Prop) (x : Option R) : Option R := if p then x else none
noncomputable def drGo (P : Program) (call : Cl) (n : Nat) (ops : List Oper) (A : List Nat) : List Nat → Env → World → Pend → Option (Env × World)
  | [], e, w, _ => some (e, w)
  | i :: l, e, w, pd => match ops[i]? with
    | none => none
    | some o => (opG P call ops e o w).bind fun r => match quietOp o.op with
      | true => ifP (r.2 = w) (drGo P call n ops A l (put n e o.dst r.1) w (match pureOp o.op with | true => pd | false => (i, fun u => opG P call ops e o u, r.1) :: pd))
      | false => ifP (chkP (A.getD i 0) r.2 pd) (drGo P call n ops A l (put n e o.dst r.1) r.2 pd)
/-- In the order of a list. -/
def opsL (P : Program) (call : Cl) (n : Nat) (ops : List Oper) : List Nat → Env → World → Option (Env × World)
  | [], e, w => some (e, w)
  | i :: l, e, w => match ops[i]? with
    | none => opsL P call n ops l e w
    | some o => (opG P call ops e o w).bind fun r => opsL P call n ops l (put n e o.dst r.1) r.2
/-- One order alone comes to be. -/
def oneB (ops : List Oper) : Bool := ancChk (ancs ops []) ops (ancs ops []) && planOk ops (ancs ops []) (planOf ops ops.length 0) 0
noncomputable def drD (P : Program) (call : Cl) (fid : FuncId) (id : Nat) (n : Nat) (ops : List Oper) (e : Env) (w : World) : Option (Env × World) :=
  match oneB ops with
  | true => drGo P call n ops (ancs ops []) (planOf ops ops.length 0) e { w with drawn := w.drawn + 1 } []
  | false => opsL P call n ops (Region.schedule true ops.toArray (w.tape w.drawn (.order fid id))) e { w with drawn := w.drawn + 1 }
/-- Whatever order: what it comes to. -/
def rdyL (L : Nat) : List Oper → Nat → List Nat
  | [], _ => []
  | o :: l, j => bif readyB L j o then j :: rdyL L l (j + 1) else rdyL L l (j + 1)
def conjF (F : Nat → Prop) : List Nat → Prop
  | [] => False
  | i :: l => match l with | [] => F i | _ :: _ => F i ∧ conjF F l
/-- What a run comes to. -/
def Ret {R : Type} (x : Option R) (Q : R → Prop) : Prop := ∃ r, x = some r ∧ Q r
def drW (P : Program) (call : Cl) (n : Nat) (ops : List Oper) (A : List Nat) (K : Env → World → Prop) : Nat → Nat → Env → World → Pend → Prop
  | fu, L, e, w, pd => match Nat.beq (L + 1) (2 ^ ops.length) with
    | true => K e w
    | false => match fu with
      | 0 => False
      | fu + 1 => match pickB true L ops 0 with
        | some i => (match ops[i]? with
          | some o => (match readyB L i o && (quietOp o.op && freeB ops A L i o ops 0) with
            | true => Ret (opG P call ops e o w) fun r => r.2 = w ∧ drW P call n ops A K fu (L ||| 2 ^ i) (put n e o.dst r.1) w (match pureOp o.op with | true => pd | false => (i, fun u => opG P call ops e o u, r.1) :: pd)
            | false => False)
          | none => False)
        | none => conjF (fun i => match ops[i]? with
          | some o => Ret (opG P call ops e o w) fun r => chkP (A.getD i 0) r.2 pd ∧ drW P call n ops A K fu (L ||| 2 ^ i) (put n e o.dst r.1) r.2 pd
          | none => False) (rdyL L ops 0)
/-! ### Code -/
inductive Ex where
  | normal
  | exit (id : Nat)
  | ret
abbrev St := Ex × Env × World
open Classical in
noncomputable def lim {α : Type} (s : Nat → Option α) : Option α := if h : ∃ m r, s m = some r then s (Classical.choose h) else none
def iterL (f : Env → World → Option St) : Nat → Env → World → Option St
  | 0, _, _ => none
  | m + 1, e, w => (f e w).bind fun r => match r.1 with | .normal => iterL f m r.2.1 r.2.2 | _ => some r
noncomputable def loopL (f : Env → World → Option St) (e : Env) (w : World) : Option St := lim fun m => iterL f m e w
noncomputable def exD (P : Program) (call : Cl) (fid : FuncId) (n : Nat) : Code → Env → World → Option St
  | .skip, e, w => some (.normal, e, w)
  | .label _, e, w => some (.normal, e, w)
  | .region id ops draw, e, w => match draw with
    | false => (opsD P call n ops.toList ops.toList e w).bind fun r => some (.normal, r.1, r.2)
    | true => (drD P call fid id n ops.toList e w).bind fun r => some (.normal, r.1, r.2)
  | .seq a b, e, w => (exD P call fid n a e w).bind fun r => match r.1 with | .normal => exD P call fid n b r.2.1 r.2.2 | _ => some r
  | .cond c a b, e, w => match val e c with
    | .bool true => exD P call fid n a e w
    | .bool false => exD P call fid n b e w
    | _ => none
  | .block id c, e, w => (exD P call fid n c e w).bind fun r => match r.1 with
    | .exit i => some ((bif Nat.beq i id then .normal else .exit i), r.2)
    | _ => some r
  | .loop c, e, w => loopL (exD P call fid n c) e w
  | .exit id, e, w => some (.exit id, e, w)
  | .ret, e, w => some (.ret, e, w)
  | _, _, _ => none
noncomputable def resV (P : Program) (e : Env) (w : World) : ResultVar → Option Value
  | .tmp t => some (e t)
  | .cell a t => (ro ((Instr.loadAt t (e a)).run P w)).bind fun r => ifP (r.2 = w) (some r.1)
noncomputable def resD (P : Program) (fn : Func) (e : Env) (w : World) : Option (Value × World) :=
  match fn.results.toList with
  | [] => some (.tuple #[], w)
  | [x] => (resV P e w x).bind fun v => some (v, w)
  | [x, y] => (resV P e w x).bind fun v => (resV P e w y).bind fun u => some (.tuple #[v, u], w)
  | [x, y, z] => (resV P e w x).bind fun v => (resV P e w y).bind fun u => (resV P e w z).bind fun t => some (.tuple #[v, u, t], w)
  | _ => none
noncomputable def fnX (P : Program) (call : Cl) (f : FuncId) (args : Array Value) (w : World) : Option (Value × World) :=
  match P.funcs.toList[f]? with
  | some fn => match fn.body with
    | some c => (exD P call f fn.ntmps c (env0 args) w).bind fun r => match r.1 with | .exit _ => none | _ => resD P fn r.2.1 r.2.2
    | none => none
  | none => none
/-- A call that hands back this value and this world. -/
def CE (P : Program) (f : FuncId) (args : Array Value) (w : World) (r : Value × World) : Prop :=
  Calls P f args w fun e w' => e = .returned r.1 ∧ w' = r.2
open Classical in
/-- What a call of a function comes to, if it comes to an end. -/
noncomputable def EV (P : Program) : Cl := fun f args w =>
  if h : P.inits.idxOf? f = none ∧ ∃ r, CE P f args w r then some (Classical.choose h.2) else none
/-! ### More rounds, the same answer -/
theorem lim_of {α : Type} {s : Nat → Option α} (hm : ∀ m r, s m = some r → s (m + 1) = some r) {m : Nat} {r : α} (h : s m = some r) : lim s = some r := by
  have up : ∀ m k r, s m = some r → s (m + k) = some r := by
    intro m k
    induction k with
    | zero => exact fun r h => h
    | succ k ih => exact fun r h => hm _ _ (ih r h)
  have he : ∃ m r, s m = some r := ⟨m, r, h⟩
  unfold lim
  rw [dif_pos he]
  obtain ⟨r', h'⟩ := Classical.choose_spec he
  have h1 := up _ m _ h'
  have h2 := up _ (Classical.choose he) _ h
  rw [Nat.add_comm] at h2
  rw [h']
  rw [h1] at h2
  exact h2
theorem of_lim {α : Type} {s : Nat → Option α} {r : α} (h : lim s = some r) : ∃ m, s m = some r := by
  unfold lim at h
  split at h
  · exact ⟨_, h⟩
  · contradiction
theorem iterL_up {f : Env → World → Option St} : ∀ m e w r, iterL f m e w = some r → iterL f (m + 1) e w = some r
  | 0, e, w, r, h => by simp [iterL] at h
  | m + 1, e, w, r, h => by
    rw [iterL] at h ⊢
    cases hf : f e w with
    | none => simp [hf] at h
    | some x =>
      simp only [hf, Option.bind_some] at h ⊢
      obtain ⟨y, e', w'⟩ := x
      cases y <;> simp only [] at h ⊢
      · exact iterL_up m _ _ _ h
      · exact h
      · exact h
theorem loopL_eq (f : Env → World → Option St) (e : Env) (w : World) : loopL f e w = (f e w).bind fun r => match r.1 with | .normal => loopL f r.2.1 r.2.2 | _ => some r := by
  apply Option.ext
  intro r
  constructor
  · intro h
    obtain ⟨m, h⟩ := of_lim (show lim _ = some r from h)
    cases m with
    | zero => simp [iterL] at h
    | succ m =>
      rw [iterL] at h
      cases hf : f e w with
      | none => simp [hf] at h
      | some x =>
        simp only [hf, Option.bind_some] at h ⊢
        obtain ⟨y, e', w'⟩ := x
        cases y <;> simp only [] at h ⊢
        · exact lim_of (fun m r => iterL_up m _ _ r) h
        · exact h
        · exact h
  · intro h
    cases hf : f e w with
    | none => simp [hf] at h
    | some x =>
      simp only [hf, Option.bind_some] at h
      obtain ⟨y, e', w'⟩ := x
      cases y <;> simp only [] at h
      · obtain ⟨m, h⟩ := of_lim (show lim _ = some r from h)
        exact lim_of (m := m + 1) (fun m r => iterL_up m _ _ r) (by rw [iterL, hf]; exact h)
      · exact lim_of (m := 1) (fun m r => iterL_up m _ _ r) (by rw [iterL, hf]; exact h)
      · exact lim_of (m := 1) (fun m r => iterL_up m _ _ r) (by rw [iterL, hf]; exact h)
end Go.Ev
