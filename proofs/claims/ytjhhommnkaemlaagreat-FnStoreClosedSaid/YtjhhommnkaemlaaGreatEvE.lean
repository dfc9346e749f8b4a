/- A part of the proof, without conditions. -/
import Derived.KernelRfl
import Derived.Test.YtjhhommnkaemlaaGreatEvD
set_option linter.unusedVariables false
set_option linter.unusedSimpArgs false
set_option linter.deprecated false
namespace Go.Ev
open Go
def AP {R : Type} (v : Value) (a b : Option R) : Option R :=
 match v with
 | .bool true => a
 | .bool false => b
 | _ => none
def RX {R : Type} (P : Program) (call : Cl) (n : Nat) (ops : List Oper) : List Oper → Env → World → (Env → World → Option R) → Option R
 | [], e, w, k => k e w
 | o :: l, e, w, k => (HI P call ops e o w).bind fun r => RX P call n ops l (put n e o.dst r.1) r.2 k
theorem PG {R : Type} {P : Program} {call : Cl} {n : Nat} {ops : List Oper} (k : Env → World → Option R) : ∀ (l : List Oper) (e : Env) (w : World),
  RX P call n ops l e w k = (Ow P call n ops l e w).bind fun r => k r.1 r.2
 | [], e, w => rfl
 | o :: l, e, w => by
  simp only [RX, Ow]
  cases HI P call ops e o w with
  | none => rfl
  | some r => exact PG k l _ _
noncomputable def Oj {R : Type} (P : Program) (call : Cl) (n : Nat) (ops : List Oper) (A : List Nat) : List Nat → Env → World → NG → (Env → World → Option R) → Option R
 | [], e, w, _, k => k e w
 | i :: l, e, w, pd, k => match ops[i]? with
  | none => none
  | some o => (HI P call ops e o w).bind fun r => match Ci o.op with
   | true => Aj (r.2 = w) (Oj P call n ops A l (put n e o.dst r.1) w (match Io o.op with | true => pd | false => (i, fun u => HI P call ops e o u, r.1) :: pd) k)
   | false => Aj (Q0 (A.getD i 0) r.2 pd) (Oj P call n ops A l (put n e o.dst r.1) r.2 pd k)
theorem Ok {R S : Type} (p : Prop) (x : Option R) (k : R → Option S) : (Aj p x).bind k = Aj p (x.bind k) := by
 unfold Aj
 split <;> rfl
theorem Lk {R : Type} {P : Program} {call : Cl} {n : Nat} {ops : List Oper} {A : List Nat} (k : Env → World → Option R) : ∀ (l : List Nat) (e : Env) (w : World) (pd : NG),
  Oj P call n ops A l e w pd k = (Ox P call n ops A l e w pd).bind fun r => k r.1 r.2
 | [], e, w, pd => rfl
 | i :: l, e, w, pd => by
  simp only [Oj, Ox]
  cases ops[i]? with
  | none => rfl
  | some o =>
   simp only []
   cases HI P call ops e o w with
   | none => rfl
   | some r =>
    simp only [Option.bind_some]
    cases Ci o.op with
    | true => simp only [Ok]; rw [Lk k l]; rfl
    | false => simp only [Ok]; rw [Lk k l]
noncomputable def UB {R : Type} (P : Program) (call : Cl) (fid : FuncId) (id : Nat) (n : Nat) (ops : List Oper) (e : Env) (w : World) (k : Env → World → Option R) : Option R :=
 match Qg ops with
 | true => Oj P call n ops (I9 ops []) (NF ops ops.length 0) e { w with drawn := w.drawn + 1 } [] k
 | false => (opsL P call n ops (Region.schedule true ops.toArray (w.tape w.drawn (.order fid id))) e { w with drawn := w.drawn + 1 }).bind fun r => k r.1 r.2
theorem SS {R : Type} {P : Program} {call : Cl} {fid : FuncId} {id : Nat} {n : Nat} {ops : List Oper} (k : Env → World → Option R) (e : Env) (w : World) :
  UB P call fid id n ops e w k = (TF P call fid id n ops e w).bind fun r => k r.1 r.2 := by
 unfold UB TF
 generalize Qg ops = b
 cases b
 ·rfl
 ·exact Lk k _ _ _ _
noncomputable def Bu (P : Program) (call : Cl) (fid : FuncId) (n : Nat) : Code → {R : Type} → Env → World → (Ex → Env → World → Option R) → Option R
 | .skip, _, e, w, k => k .normal e w
 | .label _, _, e, w, k => k .normal e w
 | .region id ops draw, _, e, w, k => match draw with
  | false => RX P call n ops.toList ops.toList e w (k .normal)
  | true => UB P call fid id n ops.toList e w (k .normal)
 | .seq a b, _, e, w, k => Bu P call fid n a e w fun x e w => match x with | .normal => Bu P call fid n b e w k | .exit i => k (.exit i) e w | .ret => k .ret e w
 | .cond c a b, _, e, w, k => AP (val e c) (Bu P call fid n a e w k) (Bu P call fid n b e w k)
 | .block id c, _, e, w, k => Bu P call fid n c e w fun x e w => match x with | .normal => k .normal e w | .exit i => (match Nat.beq i id with | true => k .normal e w | false => k (.exit i) e w) | .ret => k .ret e w
 | .loop c, _, e, w, k => (Oy (Gi P call fid n c) e w).bind fun r => k r.1 r.2.1 r.2.2
 | .exit id, _, e, w, k => k (.exit id) e w
 | .ret, _, e, w, k => k .ret e w
 | _, _, _, _, _ => none
theorem O6 (P : Program) (call : Cl) (fid : FuncId) (n : Nat) : ∀ (c : Code) {R : Type} (e : Env) (w : World) (k : Ex → Env → World → Option R),
  Bu P call fid n c e w k = (Gi P call fid n c e w).bind fun r => k r.1 r.2.1 r.2.2 := by
 intro c
 induction c with
 | skip => intros; rfl
 | label => intros; rfl
 | region id ops draw =>
  intro R e w k
  cases draw with
  | false =>
   simp only [Bu, Gi, PG, Option.bind_assoc]
   rfl
  | true =>
   simp only [Bu, Gi, SS, Option.bind_assoc]
   rfl
 | seq a b iha ihb =>
  intro R e w k
  simp only [Bu, Gi]
  rw [iha]
  cases Gi P call fid n a e w with
  | none => rfl
  | some r =>
   obtain ⟨x, e', w'⟩ := r
   cases x
   ·exact ihb _ _ _
   ·rfl
   ·rfl
 | cond c a b iha ihb =>
  intro R e w k
  simp only [Bu, Gi]
  generalize val e c = v
  cases v <;> try rfl
  rename_i t
  cases t
  ·exact ihb _ _ _
  ·exact iha _ _ _
 | block id c ih =>
  intro R e w k
  simp only [Bu, Gi]
  rw [ih]
  cases Gi P call fid n c e w with
  | none => rfl
  | some r =>
   obtain ⟨x, e', w'⟩ := r
   cases x with
   | normal => rfl
   | ret => rfl
   | exit i =>
    simp only [Option.bind_some]
    cases Nat.beq i id <;> rfl
 | loop c => intros; rfl
 | exit => intros; rfl
 | ret => intros; rfl
 | rangeFunc => intros; rfl
 | scope => intros; rfl
 | goto => intros; rfl
 | refuse => intros; rfl
noncomputable def F6 {R : Type} (P : Program) (call : Cl) (fid : FuncId) (n : Nat) (c : Code) (k : Ex → Env → World → Option R) : Ex → Env → World → Option R :=
 fun x e w => match x with | .normal => Bu P call fid n (.loop c) e w k | .exit i => k (.exit i) e w | .ret => k .ret e w
noncomputable def AD {R : Type} (P : Program) (call : Cl) (fid : FuncId) (n : Nat) (b : Code) (k : Ex → Env → World → Option R) : Ex → Env → World → Option R :=
 fun x e w => match x with | .normal => Bu P call fid n b e w k | .exit i => k (.exit i) e w | .ret => k .ret e w
noncomputable def Ao {R : Type} (id : Nat) (k : Ex → Env → World → Option R) : Ex → Env → World → Option R :=
 fun x e w => match x with | .normal => k .normal e w | .exit i => (match Nat.beq i id with | true => k .normal e w | false => k (.exit i) e w) | .ret => k .ret e w
noncomputable def Be (P : Program) (fn : Func) : Ex → Env → World → Option (Value × World) :=
 fun x e w => match x with | .normal => Q2 P fn e w | .exit _ => none | .ret => Q2 P fn e w
theorem Ay {R : Type} (P : Program) (call : Cl) (fid : FuncId) (n : Nat) (c : Code) (e : Env) (w : World) (k : Ex → Env → World → Option R) :
  Bu P call fid n (.loop c) e w k = Bu P call fid n c e w (F6 P call fid n c k) := by
 rw [O6 P call fid n c, O6 P call fid n (.loop c)]
 simp only [Gi]
 rw [Q3]
 cases Gi P call fid n c e w with
 | none => rfl
 | some r =>
  obtain ⟨x, e', w'⟩ := r
  cases x with
  | normal => rfl
  | exit i => rfl
  | ret => rfl
noncomputable def Bl (P : Program) (call : Cl) (f : FuncId) (args : Array Value) (w : World) : Option (Value × World) :=
 match P.funcs.toList[f]? with
 | some fn => match fn.body with
  | some c => Bu P call f fn.ntmps c (AL args) w (Be P fn)
  | none => none
 | none => none
theorem SU (P : Program) (call : Cl) (f : FuncId) (args : Array Value) (w : World) : Bl P call f args w = TY P call f args w := by
 unfold Bl TY
 cases P.funcs.toList[f]? with
 | none => rfl
 | some fn =>
  simp only []
  cases fn.body with
  | none => rfl
  | some c =>
   simp only []
   rw [O6]
   cases Gi P call f fn.ntmps c (AL args) w with
   | none => rfl
   | some r =>
    obtain ⟨x, e', w'⟩ := r
    cases x <;> rfl
theorem Gf {R : Type} {P : Program} {call : Cl} {fid : FuncId} {n id : Nat} {ops : Array Oper} (h0 : Qg ops.toList = false) (hc : GW (I9 ops.toList []) ops.toList (I9 ops.toList []) = true) {e : Env} {w : World} {k : Ex → Env → World → Option R} {Q : R → Prop}
  (h : SZ P call n ops.toList (I9 ops.toList []) (fun e w => Ag (k .normal e w) Q) ops.toList.length 0 e { w with drawn := w.drawn + 1 } []) : Ag (Bu P call fid n (.region id ops true) e w k) Q := by
 have := Q6 (t := w.tape w.drawn (.order fid id)) hc h
 obtain ⟨r, h1, r2, h2, h3⟩ := this
 refine ⟨r2, ?_, h3⟩
 simp only [Bu, UB, h0]
 rw [show ops.toList.toArray = ops by simp, h1]
 exact h2
def cA : Code → Code | .seq a _ => a | .cond _ a _ => a | .block _ c => c | .loop c => c | c => c
def cB : Code → Code | .seq _ b => b | .cond _ _ b => b | c => c
def opsOf : Code → Array Oper | .region _ ops _ => ops | _ => #[]
def Ai (P : Program) (f : Nat) : Code := match P.funcs.toList[f]? with | some fn => (match fn.body with | some c => c | none => .skip) | none => .skip
def AA (P : Program) (f : Nat) : Func := (P.funcs.toList[f]?).getD default
def AJ (e : Env) : List (Nat × Value) → Env
 | [] => e
 | p :: l => AJ (RK e p.1 p.2) l
end Go.Ev
