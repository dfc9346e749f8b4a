/- A part of the proof, without conditions. -/
import Derived.KernelRfl
import Derived.Test.YtkhbpmhagpljiaaGreatDoorEvD
set_option linter.unusedVariables false
set_option linter.unusedSimpArgs false
set_option linter.deprecated false
namespace Go.Ev
open Go
def AK {R : Type} (v : Value) (a b : Option R) : Option R :=
 match v with
 | .bool true => a
 | .bool false => b
 | _ => none
def Ul {R : Type} (P : Program) (call : Cl) (n : Nat) (ops : List Oper) : List Oper → Env → World → (Env → World → Option R) → Option R
 | [], e, w, k => k e w
 | o :: l, e, w, k => (HW P call ops e o w).bind fun r => Ul P call n ops l (put n e o.dst r.1) r.2 k
theorem QS {R : Type} {P : Program} {call : Cl} {n : Nat} {ops : List Oper} (k : Env → World → Option R) : ∀ (l : List Oper) (e : Env) (w : World),
  Ul P call n ops l e w k = (OO P call n ops l e w).bind fun r => k r.1 r.2
 | [], e, w => rfl
 | o :: l, e, w => by
  simp only [Ul, OO]
  cases HW P call ops e o w with
  | none => rfl
  | some r => exact QS k l _ _
noncomputable def Pv {R : Type} (P : Program) (call : Cl) (n : Nat) (ops : List Oper) (A : List Nat) : List Nat → Env → World → Of → (Env → World → Option R) → Option R
 | [], e, w, _, k => k e w
 | i :: l, e, w, pd, k => match ops[i]? with
  | none => none
  | some o => (HW P call ops e o w).bind fun r => match Cv o.op with
   | true => Ag (r.2 = w) (Pv P call n ops A l (put n e o.dst r.1) w (match It o.op with | true => pd | false => (i, fun u => HW P call ops e o u, r.1) :: pd) k)
   | false => Ag (RV (A.getD i 0) r.2 pd) (Pv P call n ops A l (put n e o.dst r.1) r.2 pd k)
theorem Pw {R S : Type} (p : Prop) (x : Option R) (k : R → Option S) : (Ag p x).bind k = Ag p (x.bind k) := by
 unfold Ag
 split <;> rfl
theorem Mo {R : Type} {P : Program} {call : Cl} {n : Nat} {ops : List Oper} {A : List Nat} (k : Env → World → Option R) : ∀ (l : List Nat) (e : Env) (w : World) (pd : Of),
  Pv P call n ops A l e w pd k = (OP P call n ops A l e w pd).bind fun r => k r.1 r.2
 | [], e, w, pd => rfl
 | i :: l, e, w, pd => by
  simp only [Pv, OP]
  cases ops[i]? with
  | none => rfl
  | some o =>
   simp only []
   cases HW P call ops e o w with
   | none => rfl
   | some r =>
    simp only [Option.bind_some]
    cases Cv o.op with
    | true => simp only [Pw]; rw [Mo k l]; rfl
    | false => simp only [Pw]; rw [Mo k l]
noncomputable def XL {R : Type} (P : Program) (call : Cl) (fid : FuncId) (id : Nat) (n : Nat) (ops : List Oper) (e : Env) (w : World) (k : Env → World → Option R) : Option R :=
 match QZ ops with
 | true => Pv P call n ops (IU ops []) (Oe ops ops.length 0) e { w with drawn := w.drawn + 1 } [] k
 | false => (opsL P call n ops (Region.schedule true ops.toArray (w.tape w.drawn (.order fid id))) e { w with drawn := w.drawn + 1 }).bind fun r => k r.1 r.2
theorem VI {R : Type} {P : Program} {call : Cl} {fid : FuncId} {id : Nat} {n : Nat} {ops : List Oper} (k : Env → World → Option R) (e : Env) (w : World) :
  XL P call fid id n ops e w k = (VR P call fid id n ops e w).bind fun r => k r.1 r.2 := by
 unfold XL VR
 generalize QZ ops = b
 cases b
 ·rfl
 ·exact Mo k _ _ _ _
noncomputable def BB (P : Program) (call : Cl) (fid : FuncId) (n : Nat) : Code → {R : Type} → Env → World → (Ex → Env → World → Option R) → Option R
 | .skip, _, e, w, k => k .normal e w
 | .label _, _, e, w, k => k .normal e w
 | .region id ops draw, _, e, w, k => match draw with
  | false => Ul P call n ops.toList ops.toList e w (k .normal)
  | true => XL P call fid id n ops.toList e w (k .normal)
 | .seq a b, _, e, w, k => BB P call fid n a e w fun x e w => match x with | .normal => BB P call fid n b e w k | .exit i => k (.exit i) e w | .ret => k .ret e w
 | .cond c a b, _, e, w, k => AK (val e c) (BB P call fid n a e w k) (BB P call fid n b e w k)
 | .block id c, _, e, w, k => BB P call fid n c e w fun x e w => match x with | .normal => k .normal e w | .exit i => (match Nat.beq i id with | true => k .normal e w | false => k (.exit i) e w) | .ret => k .ret e w
 | .loop c, _, e, w, k => (OQ (GR P call fid n c) e w).bind fun r => k r.1 r.2.1 r.2.2
 | .exit id, _, e, w, k => k (.exit id) e w
 | .ret, _, e, w, k => k .ret e w
 | _, _, _, _, _ => none
theorem Qk (P : Program) (call : Cl) (fid : FuncId) (n : Nat) : ∀ (c : Code) {R : Type} (e : Env) (w : World) (k : Ex → Env → World → Option R),
  BB P call fid n c e w k = (GR P call fid n c e w).bind fun r => k r.1 r.2.1 r.2.2 := by
 intro c
 induction c with
 | skip => intros; rfl
 | label => intros; rfl
 | region id ops draw =>
  intro R e w k
  cases draw with
  | false =>
   simp only [BB, GR, QS, Option.bind_assoc]
   rfl
  | true =>
   simp only [BB, GR, VI, Option.bind_assoc]
   rfl
 | seq a b iha ihb =>
  intro R e w k
  simp only [BB, GR]
  rw [iha]
  cases GR P call fid n a e w with
  | none => rfl
  | some r =>
   obtain ⟨x, e', w'⟩ := r
   cases x
   ·exact ihb _ _ _
   ·rfl
   ·rfl
 | cond c a b iha ihb =>
  intro R e w k
  simp only [BB, GR]
  generalize val e c = v
  cases v <;> try rfl
  rename_i t
  cases t
  ·exact ihb _ _ _
  ·exact iha _ _ _
 | block id c ih =>
  intro R e w k
  simp only [BB, GR]
  rw [ih]
  cases GR P call fid n c e w with
  | none => rfl
  | some r =>
   obtain ⟨x, e', w'⟩ := r
   cases x with
   | normal => rfl
   | ret => rfl
   | exit i =>
    simp only [Option.bind_some]
    cases Nat.beq i id <;> rfl
 | loop c => intros; rfl
 | exit => intros; rfl
 | ret => intros; rfl
 | rangeFunc => intros; rfl
 | scope => intros; rfl
 | goto => intros; rfl
 | refuse => intros; rfl
noncomputable def GK {R : Type} (P : Program) (call : Cl) (fid : FuncId) (n : Nat) (c : Code) (k : Ex → Env → World → Option R) : Ex → Env → World → Option R :=
 fun x e w => match x with | .normal => BB P call fid n (.loop c) e w k | .exit i => k (.exit i) e w | .ret => k .ret e w
noncomputable def AB {R : Type} (P : Program) (call : Cl) (fid : FuncId) (n : Nat) (b : Code) (k : Ex → Env → World → Option R) : Ex → Env → World → Option R :=
 fun x e w => match x with | .normal => BB P call fid n b e w k | .exit i => k (.exit i) e w | .ret => k .ret e w
noncomputable def An {R : Type} (id : Nat) (k : Ex → Env → World → Option R) : Ex → Env → World → Option R :=
 fun x e w => match x with | .normal => k .normal e w | .exit i => (match Nat.beq i id with | true => k .normal e w | false => k (.exit i) e w) | .ret => k .ret e w
noncomputable def Bl (P : Program) (fn : Func) : Ex → Env → World → Option (Value × World) :=
 fun x e w => match x with | .normal => RY P fn e w | .exit _ => none | .ret => RY P fn e w
theorem AD {R : Type} (P : Program) (call : Cl) (fid : FuncId) (n : Nat) (c : Code) (e : Env) (w : World) (k : Ex → Env → World → Option R) :
  BB P call fid n (.loop c) e w k = BB P call fid n c e w (GK P call fid n c k) := by
 rw [Qk P call fid n c, Qk P call fid n (.loop c)]
 simp only [GR]
 rw [RZ]
 cases GR P call fid n c e w with
 | none => rfl
 | some r =>
  obtain ⟨x, e', w'⟩ := r
  cases x with
  | normal => rfl
  | exit i => rfl
  | ret => rfl
noncomputable def Bq (P : Program) (call : Cl) (f : FuncId) (args : Array Value) (w : World) : Option (Value × World) :=
 match P.funcs.toList[f]? with
 | some fn => match fn.body with
  | some c => BB P call f fn.ntmps c (AL args) w (Bl P fn)
  | none => none
 | none => none
theorem VJ (P : Program) (call : Cl) (f : FuncId) (args : Array Value) (w : World) : Bq P call f args w = V9 P call f args w := by
 unfold Bq V9
 cases P.funcs.toList[f]? with
 | none => rfl
 | some fn =>
  simp only []
  cases fn.body with
  | none => rfl
  | some c =>
   simp only []
   rw [Qk]
   cases GR P call f fn.ntmps c (AL args) w with
   | none => rfl
   | some r =>
    obtain ⟨x, e', w'⟩ := r
    cases x <;> rfl
theorem G8 {R : Type} {P : Program} {call : Cl} {fid : FuncId} {n id : Nat} {ops : Array Oper} (h0 : QZ ops.toList = false) (hc : Hq (IU ops.toList []) ops.toList (IU ops.toList []) = true) {e : Env} {w : World} {k : Ex → Env → World → Option R} {Q : R → Prop}
  (h : US P call n ops.toList (IU ops.toList []) (fun e w => Ad (k .normal e w) Q) ops.toList.length 0 e { w with drawn := w.drawn + 1 } []) : Ad (BB P call fid n (.region id ops true) e w k) Q := by
 have := R9 (t := w.tape w.drawn (.order fid id)) hc h
 obtain ⟨r, h1, r2, h2, h3⟩ := this
 refine ⟨r2, ?_, h3⟩
 simp only [BB, XL, h0]
 rw [show ops.toList.toArray = ops by simp, h1]
 exact h2
def cA : Code → Code | .seq a _ => a | .cond _ a _ => a | .block _ c => c | .loop c => c | c => c
def cB : Code → Code | .seq _ b => b | .cond _ _ b => b | c => c
def opsOf : Code → Array Oper | .region _ ops _ => ops | _ => #[]
def Af (P : Program) (f : Nat) : Code := match P.funcs.toList[f]? with | some fn => (match fn.body with | some c => c | none => .skip) | none => .skip
def AA (P : Program) (f : Nat) : Func := (P.funcs.toList[f]?).getD default
def AG (e : Env) : List (Nat × Value) → Env
 | [] => e
 | p :: l => AG (TF e p.1 p.2) l
end Go.Ev
