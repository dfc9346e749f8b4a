/- A part of the proof: an evaluator of the model, its laws, and contracts of functions; no condition. -/
import Derived.Test.YtjhhommnkaemlaaGreatEvA
set_option linter.unusedVariables false
set_option linter.unusedSimpArgs false
set_option linter.deprecated false
namespace Go.Ev
open Go
def NY (ops : List Oper) (e : Env) (j : Nat) : Value :=
 match ops[j]? with
 | some o => match o.dst with | some d => e d | none => undef
 | none => undef
def IE : Value → Bool → Bool
 | .bool true, t => t
 | .bool false, t => !t
 | _, _ => false
def Ao (v : Value) (t : Bool) (x : Option (Value × World)) (w : World) : Option (Value × World) :=
 match IE v t with
 | true => x
 | false => some (undef, w)
def Hz (P : Program) (call : Cl) (ops : List Oper) (e : Env) (o : Oper) (w : World) : Option (Value × World) :=
 match o.guard with
 | none => Rj P call e o w
 | some (j, t) => Ao (NY ops e j) t (Rj P call e o w) w
def OO (P : Program) (call : Cl) (n : Nat) (ops : List Oper) : List Oper → Env → World → Option (Env × World)
 | [], e, w => some (e, w)
 | o :: l, e, w => (Hz P call ops e o w).bind fun r => OO P call n ops l (put n e o.dst r.1) r.2
def EM (ed : Edge) : Bool := match ed.ground with | .textOnly _ => false | .gcOnly _ => false | _ => true
def GJ : List Edge → Nat
 | [] => 0
 | ed :: l => bif EM ed then 2 ^ ed.on ||| GJ l else GJ l
def NZ (A : List Nat) : List Edge → Nat
 | [] => 0
 | ed :: l => bif EM ed then (2 ^ ed.on ||| A.getD ed.on 0) ||| NZ A l else NZ A l
def IF : List Oper → List Nat → List Nat
 | [], A => A
 | o :: l, A => IF l (A ++ [NZ A o.after.toList])
def GM (A : List Nat) : List Oper → List Nat → Bool
 | o :: l, x :: r => Nat.beq x (NZ A o.after.toList) && GM A l r
 | [], [] => true
 | _, _ => false
def Cd : Op → Bool
 | .move _ | .assign _ | .pick .. | .build .. | .load .. | .nilCheck _ | .binOp .. | .unOp .. | .convert .. | .makeInterface .. | .makeFunc .. | .slice ..
 | .fieldAddr .. | .field .. | .indexAddr .. | .index .. | .lookup .. | .typeAssert .. | .extract .. => true
 | .call ⟨.builtin .len, _, _⟩ | .call ⟨.builtin .cap, _, _⟩ | .call ⟨.builtin .max, _, _⟩ | .call ⟨.builtin .min, _, _⟩ => true
 | _ => false
def HZ : Op → Bool
 | .move _ | .assign _ | .pick .. | .makeFunc .. => true
 | _ => false
def tmpsOf : List Operand → List Nat
 | [] => []
 | .tmp t :: l => t :: tmpsOf l
 | _ :: l => tmpsOf l
def looks (ops : List Oper) (o : Oper) : List Nat :=
 tmpsOf o.op.operands.toList ++ (match o.guard with | some (j, _) => (match ops[j]? with | some x => x.dst.toList | none => []) | none => [])
def Ql (d : Option Nat) (l : List Nat) : Bool := match d with | some d => l.all fun t => !Nat.beq t d | none => true
def PK (d d' : Option Nat) : Bool := match d, d' with | some a, some b => !Nat.beq a b | _, _ => true
def Oa (ops : List Oper) (x y : Oper) : Bool := Ql x.dst (looks ops y) && Ql y.dst (looks ops x) && PK x.dst y.dst
def Ef (L : Nat) (i : Nat) (o : Oper) : Bool := !L.testBit i && Nat.beq (GJ o.after.toList &&& L) (GJ o.after.toList)
def Qm (L : Nat) (i : Nat) : List Oper → Nat → Bool
 | [], _ => true
 | o :: l, j => (Nat.beq j i || !Ef L j o) && Qm L i l (j + 1)
def Nz (ops : List Oper) (A : List Nat) (L : Nat) (i : Nat) (oi : Oper) : List Oper → Nat → Bool
 | [], _ => true
 | o :: l, j => (Nat.beq j i || L.testBit j || (A.getD j 0).testBit i || Oa ops oi o) && Nz ops A L i oi l (j + 1)
def K4 (q : Bool) (L : Nat) : List Oper → Nat → Option Nat
 | [], _ => none
 | o :: l, j => bif Ef L j o && (!q || Cd o.op) then some j else K4 q L l (j + 1)
def Vf (ops : List Oper) (L : Nat) : Option Nat := match K4 true L ops 0 with | some j => some j | none => K4 false L ops 0
def Ob (ops : List Oper) : Nat → Nat → List Nat
 | 0, _ => []
 | f + 1, L => match Vf ops L with
  | some i => i :: Ob ops f (L ||| 2 ^ i)
  | none => []
def GN (ops : List Oper) (A : List Nat) : List Nat → Nat → Bool
 | [], L => Nat.beq (L + 1) (2 ^ ops.length)
 | i :: l, L => (match ops[i]? with
  | some o => Ef L i o && (bif Cd o.op then Nz ops A L i o ops 0 else Qm L i ops 0)
  | none => false) && GN ops A l (L ||| 2 ^ i)
abbrev Oc := List (Nat × (World → Option (Value × World)) × Value)
def Ry (a : Nat) (w : World) : Oc → Prop
 | [] => True
 | p :: l => (match a.testBit p.1 with | true => True | false => p.2.1 w = some (p.2.2, w)) ∧ Ry a w l
open Classical in
noncomputable def Ah {R : Type} (p : Prop) (x : Option R) : Option R := if p then x else none
noncomputable def OP (P : Program) (call : Cl) (n : Nat) (ops : List Oper) (A : List Nat) : List Nat → Env → World → Oc → Option (Env × World)
 | [], e, w, _ => some (e, w)
 | i :: l, e, w, pd => match ops[i]? with
  | none => none
  | some o => (Hz P call ops e o w).bind fun r => match Cd o.op with
   | true => Ah (r.2 = w) (OP P call n ops A l (put n e o.dst r.1) w (match HZ o.op with | true => pd | false => (i, fun u => Hz P call ops e o u, r.1) :: pd))
   | false => Ah (Ry (A.getD i 0) r.2 pd) (OP P call n ops A l (put n e o.dst r.1) r.2 pd)
def opsL (P : Program) (call : Cl) (n : Nat) (ops : List Oper) : List Nat → Env → World → Option (Env × World)
 | [], e, w => some (e, w)
 | i :: l, e, w => match ops[i]? with
  | none => opsL P call n ops l e w
  | some o => (Hz P call ops e o w).bind fun r => opsL P call n ops l (put n e o.dst r.1) r.2
def QM (ops : List Oper) : Bool := GM (IF ops []) ops (IF ops []) && GN ops (IF ops []) (Ob ops ops.length 0) 0
noncomputable def UX (P : Program) (call : Cl) (fid : FuncId) (id : Nat) (n : Nat) (ops : List Oper) (e : Env) (w : World) : Option (Env × World) :=
 match QM ops with
 | true => OP P call n ops (IF ops []) (Ob ops ops.length 0) e { w with drawn := w.drawn + 1 } []
 | false => opsL P call n ops (Region.schedule true ops.toArray (w.tape w.drawn (.order fid id))) e { w with drawn := w.drawn + 1 }
def Od (L : Nat) : List Oper → Nat → List Nat
 | [], _ => []
 | o :: l, j => bif Ef L j o then j :: Od L l (j + 1) else Od L l (j + 1)
def Rz (F : Nat → Prop) : List Nat → Prop
 | [] => False
 | i :: l => match l with | [] => F i | _ :: _ => F i ∧ Rz F l
def Af {R : Type} (x : Option R) (Q : R → Prop) : Prop := ∃ r, x = some r ∧ Q r
def T8 (P : Program) (call : Cl) (n : Nat) (ops : List Oper) (A : List Nat) (K : Env → World → Prop) : Nat → Nat → Env → World → Oc → Prop
 | fu, L, e, w, pd => match Nat.beq (L + 1) (2 ^ ops.length) with
  | true => K e w
  | false => match fu with
   | 0 => False
   | fu + 1 => match K4 true L ops 0 with
    | some i => (match ops[i]? with
     | some o => (match Ef L i o && (Cd o.op && Nz ops A L i o ops 0) with
      | true => Af (Hz P call ops e o w) fun r => r.2 = w ∧ T8 P call n ops A K fu (L ||| 2 ^ i) (put n e o.dst r.1) w (match HZ o.op with | true => pd | false => (i, fun u => Hz P call ops e o u, r.1) :: pd)
      | false => False)
     | none => False)
    | none => Rz (fun i => match ops[i]? with
     | some o => Af (Hz P call ops e o w) fun r => Ry (A.getD i 0) r.2 pd ∧ T8 P call n ops A K fu (L ||| 2 ^ i) (put n e o.dst r.1) r.2 pd
     | none => False) (Od L ops 0)
inductive Ex where
 | normal
 | exit (id : Nat)
 | ret
abbrev St := Ex × Env × World
open Classical in
noncomputable def T9 {α : Type} (s : Nat → Option α) : Option α := if h : ∃ m r, s m = some r then s (Classical.choose h) else none
def Fo (f : Env → World → Option St) : Nat → Env → World → Option St
 | 0, _, _ => none
 | m + 1, e, w => (f e w).bind fun r => match r.1 with | .normal => Fo f m r.2.1 r.2.2 | _ => some r
noncomputable def OQ (f : Env → World → Option St) (e : Env) (w : World) : Option St := T9 fun m => Fo f m e w
noncomputable def Gs (P : Program) (call : Cl) (fid : FuncId) (n : Nat) : Code → Env → World → Option St
 | .skip, e, w => some (.normal, e, w)
 | .label _, e, w => some (.normal, e, w)
 | .region id ops draw, e, w => match draw with
  | false => (OO P call n ops.toList ops.toList e w).bind fun r => some (.normal, r.1, r.2)
  | true => (UX P call fid id n ops.toList e w).bind fun r => some (.normal, r.1, r.2)
 | .seq a b, e, w => (Gs P call fid n a e w).bind fun r => match r.1 with | .normal => Gs P call fid n b r.2.1 r.2.2 | _ => some r
 | .cond c a b, e, w => match val e c with
  | .bool true => Gs P call fid n a e w
  | .bool false => Gs P call fid n b e w
  | _ => none
 | .block id c, e, w => (Gs P call fid n c e w).bind fun r => match r.1 with
  | .exit i => some ((bif Nat.beq i id then .normal else .exit i), r.2)
  | _ => some r
 | .loop c, e, w => OQ (Gs P call fid n c) e w
 | .exit id, e, w => some (.exit id, e, w)
 | .ret, e, w => some (.ret, e, w)
 | _, _, _ => none
noncomputable def Oe (P : Program) (e : Env) (w : World) : ResultVar → Option Value
 | .tmp t => some (e t)
 | .cell a t => (ro ((Instr.loadAt t (e a)).run P w)).bind fun r => Ah (r.2 = w) (some r.1)
noncomputable def RA (P : Program) (fn : Func) (e : Env) (w : World) : Option (Value × World) :=
 match fn.results.toList with
 | [] => some (.tuple #[], w)
 | [x] => (Oe P e w x).bind fun v => some (v, w)
 | [x, y] => (Oe P e w x).bind fun v => (Oe P e w y).bind fun u => some (.tuple #[v, u], w)
 | [x, y, z] => (Oe P e w x).bind fun v => (Oe P e w y).bind fun u => (Oe P e w z).bind fun t => some (.tuple #[v, u, t], w)
 | _ => none
noncomputable def Vg (P : Program) (call : Cl) (f : FuncId) (args : Array Value) (w : World) : Option (Value × World) :=
 match P.funcs.toList[f]? with
 | some fn => match fn.body with
  | some c => (Gs P call f fn.ntmps c (AM args) w).bind fun r => match r.1 with | .exit _ => none | _ => RA P fn r.2.1 r.2.2
  | none => none
 | none => none
def CE (P : Program) (f : FuncId) (args : Array Value) (w : World) (r : Value × World) : Prop :=
 Calls P f args w fun e w' => e = .returned r.1 ∧ w' = r.2
open Classical in
/-- What a call of a function comes to, if it comes to an end. -/
noncomputable def EV (P : Program) : Cl := fun f args w =>
 if h : P.inits.idxOf? f = none ∧ ∃ r, CE P f args w r then some (Classical.choose h.2) else none
theorem Of {α : Type} {s : Nat → Option α} (hm : ∀ m r, s m = some r → s (m + 1) = some r) {m : Nat} {r : α} (h : s m = some r) : T9 s = some r := by
 have up : ∀ m k r, s m = some r → s (m + k) = some r := by
  intro m k
  induction k with
  | zero => exact fun r h => h
  | succ k ih => exact fun r h => hm _ _ (ih r h)
 have he : ∃ m r, s m = some r := ⟨m, r, h⟩
 unfold T9
 rw [dif_pos he]
 obtain ⟨r', h'⟩ := Classical.choose_spec he
 have h1 := up _ m _ h'
 have h2 := up _ (Classical.choose he) _ h
 rw [Nat.add_comm] at h2
 rw [h']
 rw [h1] at h2
 exact h2
theorem PL {α : Type} {s : Nat → Option α} {r : α} (h : T9 s = some r) : ∃ m, s m = some r := by
 unfold T9 at h
 split at h
 ·exact ⟨_, h⟩
 ·contradiction
theorem GO {f : Env → World → Option St} : ∀ m e w r, Fo f m e w = some r → Fo f (m + 1) e w = some r
 | 0, e, w, r, h => by simp [Fo] at h
 | m + 1, e, w, r, h => by
  rw [Fo] at h ⊢
  cases hf : f e w with
  | none => simp [hf] at h
  | some x =>
   simp only [hf, Option.bind_some] at h ⊢
   obtain ⟨y, e', w'⟩ := x
   cases y <;> simp only [] at h ⊢
   ·exact GO m _ _ _ h
   ·exact h
   ·exact h
theorem RB (f : Env → World → Option St) (e : Env) (w : World) : OQ f e w = (f e w).bind fun r => match r.1 with | .normal => OQ f r.2.1 r.2.2 | _ => some r := by
 apply Option.ext
 intro r
 constructor
 ·intro h
  obtain ⟨m, h⟩ := PL (show T9 _ = some r from h)
  cases m with
  | zero => simp [Fo] at h
  | succ m =>
   rw [Fo] at h
   cases hf : f e w with
   | none => simp [hf] at h
   | some x =>
    simp only [hf, Option.bind_some] at h ⊢
    obtain ⟨y, e', w'⟩ := x
    cases y <;> simp only [] at h ⊢
    ·exact Of (fun m r => GO m _ _ r) h
    ·exact h
    ·exact h
 ·intro h
  cases hf : f e w with
  | none => simp [hf] at h
  | some x =>
   simp only [hf, Option.bind_some] at h
   obtain ⟨y, e', w'⟩ := x
   cases y <;> simp only [] at h
   ·obtain ⟨m, h⟩ := PL (show T9 _ = some r from h)
    exact Of (m := m + 1) (fun m r => GO m _ _ r) (by rw [Fo, hf]; exact h)
   ·exact Of (m := 1) (fun m r => GO m _ _ r) (by rw [Fo, hf]; exact h)
   ·exact Of (m := 1) (fun m r => GO m _ _ r) (by rw [Fo, hf]; exact h)
end Go.Ev
