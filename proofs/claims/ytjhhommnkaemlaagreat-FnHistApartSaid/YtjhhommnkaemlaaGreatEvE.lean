/- A part of the proof: an evaluator of the model, its laws, and contracts of functions; no condition. -/
import Derived.KernelRfl
import Derived.Test.YtjhhommnkaemlaaGreatEvD
set_option linter.unusedVariables false
set_option linter.unusedSimpArgs false
set_option linter.deprecated false
namespace Go.Ev
open Go
def AR {R : Type} (v : Value) (a b : Option R) : Option R :=
 match v with
 | .bool true => a
 | .bool false => b
 | _ => none
def SQ {R : Type} (P : Program) (call : Cl) (n : Nat) (ops : List Oper) : List Oper → Env → World → (Env → World → Option R) → Option R
 | [], e, w, k => k e w
 | o :: l, e, w, k => (Hy P call ops e o w).bind fun r => SQ P call n ops l (put n e o.dst r.1) r.2 k
theorem Qf {R : Type} {P : Program} {call : Cl} {n : Nat} {ops : List Oper} (k : Env → World → Option R) : ∀ (l : List Oper) (e : Env) (w : World),
  SQ P call n ops l e w k = (Oz P call n ops l e w).bind fun r => k r.1 r.2
 | [], e, w => rfl
 | o :: l, e, w => by
  simp only [SQ, Oz]
  cases Hy P call ops e o w with
  | none => rfl
  | some r => exact Qf k l _ _
noncomputable def OO {R : Type} (P : Program) (call : Cl) (n : Nat) (ops : List Oper) (A : List Nat) : List Nat → Env → World → NL → (Env → World → Option R) → Option R
 | [], e, w, _, k => k e w
 | i :: l, e, w, pd, k => match ops[i]? with
  | none => none
  | some o => (Hy P call ops e o w).bind fun r => match Ca o.op with
   | true => Ah (r.2 = w) (OO P call n ops A l (put n e o.dst r.1) w (match HW o.op with | true => pd | false => (i, fun u => Hy P call ops e o u, r.1) :: pd) k)
   | false => Ah (Rf (A.getD i 0) r.2 pd) (OO P call n ops A l (put n e o.dst r.1) r.2 pd k)
theorem OP {R S : Type} (p : Prop) (x : Option R) (k : R → Option S) : (Ah p x).bind k = Ah p (x.bind k) := by
 unfold Ah
 split <;> rfl
theorem Lh {R : Type} {P : Program} {call : Cl} {n : Nat} {ops : List Oper} {A : List Nat} (k : Env → World → Option R) : ∀ (l : List Nat) (e : Env) (w : World) (pd : NL),
  OO P call n ops A l e w pd k = (OA P call n ops A l e w pd).bind fun r => k r.1 r.2
 | [], e, w, pd => rfl
 | i :: l, e, w, pd => by
  simp only [OO, OA]
  cases ops[i]? with
  | none => rfl
  | some o =>
   simp only []
   cases Hy P call ops e o w with
   | none => rfl
   | some r =>
    simp only [Option.bind_some]
    cases Ca o.op with
    | true => simp only [OP]; rw [Lh k l]; rfl
    | false => simp only [OP]; rw [Lh k l]
noncomputable def VB {R : Type} (P : Program) (call : Cl) (fid : FuncId) (id : Nat) (n : Nat) (ops : List Oper) (e : Env) (w : World) (k : Env → World → Option R) : Option R :=
 match Qu ops with
 | true => OO P call n ops (IC ops []) (NK ops ops.length 0) e { w with drawn := w.drawn + 1 } [] k
 | false => (opsL P call n ops (Region.schedule true ops.toArray (w.tape w.drawn (.order fid id))) e { w with drawn := w.drawn + 1 }).bind fun r => k r.1 r.2
theorem TP {R : Type} {P : Program} {call : Cl} {fid : FuncId} {id : Nat} {n : Nat} {ops : List Oper} (k : Env → World → Option R) (e : Env) (w : World) :
  VB P call fid id n ops e w k = (UC P call fid id n ops e w).bind fun r => k r.1 r.2 := by
 unfold VB UC
 generalize Qu ops = b
 cases b
 ·rfl
 ·exact Lh k _ _ _ _
noncomputable def Bu (P : Program) (call : Cl) (fid : FuncId) (n : Nat) : Code → {R : Type} → Env → World → (Ex → Env → World → Option R) → Option R
 | .skip, _, e, w, k => k .normal e w
 | .label _, _, e, w, k => k .normal e w
 | .region id ops draw, _, e, w, k => match draw with
  | false => SQ P call n ops.toList ops.toList e w (k .normal)
  | true => VB P call fid id n ops.toList e w (k .normal)
 | .seq a b, _, e, w, k => Bu P call fid n a e w fun x e w => match x with | .normal => Bu P call fid n b e w k | .exit i => k (.exit i) e w | .ret => k .ret e w
 | .cond c a b, _, e, w, k => AR (val e c) (Bu P call fid n a e w k) (Bu P call fid n b e w k)
 | .block id c, _, e, w, k => Bu P call fid n c e w fun x e w => match x with | .normal => k .normal e w | .exit i => (match Nat.beq i id with | true => k .normal e w | false => k (.exit i) e w) | .ret => k .ret e w
 | .loop c, _, e, w, k => (OB (Gp P call fid n c) e w).bind fun r => k r.1 r.2.1 r.2.2
 | .exit id, _, e, w, k => k (.exit id) e w
 | .ret, _, e, w, k => k .ret e w
 | _, _, _, _, _ => none
theorem PA (P : Program) (call : Cl) (fid : FuncId) (n : Nat) : ∀ (c : Code) {R : Type} (e : Env) (w : World) (k : Ex → Env → World → Option R),
  Bu P call fid n c e w k = (Gp P call fid n c e w).bind fun r => k r.1 r.2.1 r.2.2 := by
 intro c
 induction c with
 | skip => intros; rfl
 | label => intros; rfl
 | region id ops draw =>
  intro R e w k
  cases draw with
  | false =>
   simp only [Bu, Gp, Qf, Option.bind_assoc]
   rfl
  | true =>
   simp only [Bu, Gp, TP, Option.bind_assoc]
   rfl
 | seq a b iha ihb =>
  intro R e w k
  simp only [Bu, Gp]
  rw [iha]
  cases Gp P call fid n a e w with
  | none => rfl
  | some r =>
   obtain ⟨x, e', w'⟩ := r
   cases x
   ·exact ihb _ _ _
   ·rfl
   ·rfl
 | cond c a b iha ihb =>
  intro R e w k
  simp only [Bu, Gp]
  generalize val e c = v
  cases v <;> try rfl
  rename_i t
  cases t
  ·exact ihb _ _ _
  ·exact iha _ _ _
 | block id c ih =>
  intro R e w k
  simp only [Bu, Gp]
  rw [ih]
  cases Gp P call fid n c e w with
  | none => rfl
  | some r =>
   obtain ⟨x, e', w'⟩ := r
   cases x with
   | normal => rfl
   | ret => rfl
   | exit i =>
    simp only [Option.bind_some]
    cases Nat.beq i id <;> rfl
 | loop c => intros; rfl
 | exit => intros; rfl
 | ret => intros; rfl
 | rangeFunc => intros; rfl
 | scope => intros; rfl
 | goto => intros; rfl
 | refuse => intros; rfl
noncomputable def Dm {R : Type} (P : Program) (call : Cl) (fid : FuncId) (n : Nat) (c : Code) (k : Ex → Env → World → Option R) : Ex → Env → World → Option R :=
 fun x e w => match x with | .normal => Bu P call fid n (.loop c) e w k | .exit i => k (.exit i) e w | .ret => k .ret e w
noncomputable def Az {R : Type} (P : Program) (call : Cl) (fid : FuncId) (n : Nat) (b : Code) (k : Ex → Env → World → Option R) : Ex → Env → World → Option R :=
 fun x e w => match x with | .normal => Bu P call fid n b e w k | .exit i => k (.exit i) e w | .ret => k .ret e w
noncomputable def Am {R : Type} (id : Nat) (k : Ex → Env → World → Option R) : Ex → Env → World → Option R :=
 fun x e w => match x with | .normal => k .normal e w | .exit i => (match Nat.beq i id with | true => k .normal e w | false => k (.exit i) e w) | .ret => k .ret e w
noncomputable def Be (P : Program) (fn : Func) : Ex → Env → World → Option (Value × World) :=
 fun x e w => match x with | .normal => Rh P fn e w | .exit _ => none | .ret => Rh P fn e w
theorem AA {R : Type} (P : Program) (call : Cl) (fid : FuncId) (n : Nat) (c : Code) (e : Env) (w : World) (k : Ex → Env → World → Option R) :
  Bu P call fid n (.loop c) e w k = Bu P call fid n c e w (Dm P call fid n c k) := by
 rw [PA P call fid n c, PA P call fid n (.loop c)]
 simp only [Gp]
 rw [Ri]
 cases Gp P call fid n c e w with
 | none => rfl
 | some r =>
  obtain ⟨x, e', w'⟩ := r
  cases x with
  | normal => rfl
  | exit i => rfl
  | ret => rfl
noncomputable def Br (P : Program) (call : Cl) (f : FuncId) (args : Array Value) (w : World) : Option (Value × World) :=
 match P.funcs.toList[f]? with
 | some fn => match fn.body with
  | some c => Bu P call f fn.ntmps c (AM args) w (Be P fn)
  | none => none
 | none => none
theorem TQ (P : Program) (call : Cl) (f : FuncId) (args : Array Value) (w : World) : Br P call f args w = US P call f args w := by
 unfold Br US
 cases P.funcs.toList[f]? with
 | none => rfl
 | some fn =>
  simp only []
  cases fn.body with
  | none => rfl
  | some c =>
   simp only []
   rw [PA]
   cases Gp P call f fn.ntmps c (AM args) w with
   | none => rfl
   | some r =>
    obtain ⟨x, e', w'⟩ := r
    cases x <;> rfl
theorem Fv {R : Type} {P : Program} {call : Cl} {fid : FuncId} {n id : Nat} {ops : Array Oper} (h0 : Qu ops.toList = false) (hc : GL (IC ops.toList []) ops.toList (IC ops.toList []) = true) {e : Env} {w : World} {k : Ex → Env → World → Option R} {Q : R → Prop}
  (h : TI P call n ops.toList (IC ops.toList []) (fun e w => Ae (k .normal e w) Q) ops.toList.length 0 e { w with drawn := w.drawn + 1 } []) : Ae (Bu P call fid n (.region id ops true) e w k) Q := by
 have := RA (t := w.tape w.drawn (.order fid id)) hc h
 obtain ⟨r, h1, r2, h2, h3⟩ := this
 refine ⟨r2, ?_, h3⟩
 simp only [Bu, VB, h0]
 rw [show ops.toList.toArray = ops by simp, h1]
 exact h2
def cA : Code → Code | .seq a _ => a | .cond _ a _ => a | .block _ c => c | .loop c => c | c => c
def cB : Code → Code | .seq _ b => b | .cond _ _ b => b | c => c
def opsOf : Code → Array Oper | .region _ ops _ => ops | _ => #[]
def Af (P : Program) (f : Nat) : Code := match P.funcs.toList[f]? with | some fn => (match fn.body with | some c => c | none => .skip) | none => .skip
def AB (P : Program) (f : Nat) : Func := (P.funcs.toList[f]?).getD default
def AJ (e : Env) : List (Nat × Value) → Env
 | [] => e
 | p :: l => AJ (P9 e p.1 p.2) l
end Go.Ev
