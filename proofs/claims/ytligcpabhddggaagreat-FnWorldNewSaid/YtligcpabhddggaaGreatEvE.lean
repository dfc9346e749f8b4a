/- A part of the proof, without conditions. -/
import Derived.KernelRfl
import Derived.Test.YtligcpabhddggaaGreatEvD
set_option linter.unusedVariables false
namespace Go.Ev
open Go
def cnd {R : Type} (v : Value) (a b : Option R) : Option R :=
  match v with
  | .bool true => a
  | .bool false => b
  | _ => none
def opsC {R : Type} (P : Program) (call : Cl) (n : Nat) (ops : List Oper) : List Oper → Env → World → (Env → World → Option R) → Option R
  | [], e, w, k => k e w
  | o :: l, e, w, k => (opG P call ops e o w).bind fun r => opsC P call n ops l (put n e o.dst r.1) r.2 k
theorem opsC_eq {R : Type} {P : Program} {call : Cl} {n : Nat} {ops : List Oper} (k : Env → World → Option R) : ∀ (l : List Oper) (e : Env) (w : World),
    opsC P call n ops l e w k = (opsD P call n ops l e w).bind fun r => k r.1 r.2
  | [], e, w => rfl
  | o :: l, e, w => by
    simp only [opsC, opsD]
    cases opG P call ops e o w with
    | none => rfl
    | some r => exact opsC_eq k l _ _
noncomputable def drGoC {R : Type} (P : Program) (call : Cl) (n : Nat) (ops : List Oper) (A : List Nat) : List Nat → Env → World → Pend → (Env → World → Option R) → Option R
  | [], e, w, _, k => k e w
  | i :: l, e, w, pd, k => match ops[i]? with
    | none => none
    | some o => (opG P call ops e o w).bind fun r => match quietOp o.op with
      | true => ifP (r.2 = w) (drGoC P call n ops A l (put n e o.dst r.1) w (match pureOp o.op with | true => pd | false => (i, fun u => opG P call ops e o u, r.1) :: pd) k)
      | false => ifP (chkP (A.getD i 0) r.2 pd) (drGoC P call n ops A l (put n e o.dst r.1) r.2 pd k)
theorem ifP_bind {R S : Type} (p : Prop) (x : Option R) (k : R → Option S) : (ifP p x).bind k = ifP p (x.bind k) := by
  unfold ifP
  split <;> rfl
theorem drGoC_eq {R : Type} {P : Program} {call : Cl} {n : Nat} {ops : List Oper} {A : List Nat} (k : Env → World → Option R) : ∀ (l : List Nat) (e : Env) (w : World) (pd : Pend),
    drGoC P call n ops A l e w pd k = (drGo P call n ops A l e w pd).bind fun r => k r.1 r.2
  | [], e, w, pd => rfl
  | i :: l, e, w, pd => by
    simp only [drGoC, drGo]
    cases ops[i]? with
    | none => rfl
    | some o =>
      simp only []
      cases opG P call ops e o w with
      | none => rfl
      | some r =>
        simp only [Option.bind_some]
        cases quietOp o.op with
        | true => simp only [ifP_bind]; rw [drGoC_eq k l]; rfl
        | false => simp only [ifP_bind]; rw [drGoC_eq k l]
noncomputable def drC {R : Type} (P : Program) (call : Cl) (fid : FuncId) (id : Nat) (n : Nat) (ops : List Oper) (e : Env) (w : World) (k : Env → World → Option R) : Option R :=
  match oneB ops with
  | true => drGoC P call n ops (ancs ops []) (planOf ops ops.length 0) e { w with drawn := w.drawn + 1 } [] k
  | false => (opsL P call n ops (Region.schedule true ops.toArray (w.tape w.drawn (.order fid id))) e { w with drawn := w.drawn + 1 }).bind fun r => k r.1 r.2
theorem drC_eq {R : Type} {P : Program} {call : Cl} {fid : FuncId} {id : Nat} {n : Nat} {ops : List Oper} (k : Env → World → Option R) (e : Env) (w : World) :
    drC P call fid id n ops e w k = (drD P call fid id n ops e w).bind fun r => k r.1 r.2 := by
  unfold drC drD
  generalize oneB ops = b
  cases b
  · rfl
  · exact drGoC_eq k _ _ _ _
noncomputable def exC (P : Program) (call : Cl) (fid : FuncId) (n : Nat) : Code → {R : Type} → Env → World → (Ex → Env → World → Option R) → Option R
  | .skip, _, e, w, k => k .normal e w
  | .label _, _, e, w, k => k .normal e w
  | .region id ops draw, _, e, w, k => match draw with
    | false => opsC P call n ops.toList ops.toList e w (k .normal)
    | true => drC P call fid id n ops.toList e w (k .normal)
  | .seq a b, _, e, w, k => exC P call fid n a e w fun x e w => match x with | .normal => exC P call fid n b e w k | .exit i => k (.exit i) e w | .ret => k .ret e w
  | .cond c a b, _, e, w, k => cnd (val e c) (exC P call fid n a e w k) (exC P call fid n b e w k)
  | .block id c, _, e, w, k => exC P call fid n c e w fun x e w => match x with | .normal => k .normal e w | .exit i => (match Nat.beq i id with | true => k .normal e w | false => k (.exit i) e w) | .ret => k .ret e w
  | .loop c, _, e, w, k => (loopL (exD P call fid n c) e w).bind fun r => k r.1 r.2.1 r.2.2
  | .exit id, _, e, w, k => k (.exit id) e w
  | .ret, _, e, w, k => k .ret e w
  | _, _, _, _, _ => none
theorem exC_eq (P : Program) (call : Cl) (fid : FuncId) (n : Nat) : ∀ (c : Code) {R : Type} (e : Env) (w : World) (k : Ex → Env → World → Option R),
    exC P call fid n c e w k = (exD P call fid n c e w).bind fun r => k r.1 r.2.1 r.2.2 := by
  intro c
  induction c with
  | skip => intros; rfl
  | label => intros; rfl
  | region id ops draw =>
    intro R e w k
    cases draw with
    | false =>
      simp only [exC, exD, opsC_eq, Option.bind_assoc]
      rfl
    | true =>
      simp only [exC, exD, drC_eq, Option.bind_assoc]
      rfl
  | seq a b iha ihb =>
    intro R e w k
    simp only [exC, exD]
    rw [iha]
    cases exD P call fid n a e w with
    | none => rfl
    | some r =>
      obtain ⟨x, e', w'⟩ := r
      cases x
      · exact ihb _ _ _
      · rfl
      · rfl
  | cond c a b iha ihb =>
    intro R e w k
    simp only [exC, exD]
    generalize val e c = v
    cases v <;> try rfl
    rename_i t
    cases t
    · exact ihb _ _ _
    · exact iha _ _ _
  | block id c ih =>
    intro R e w k
    simp only [exC, exD]
    rw [ih]
    cases exD P call fid n c e w with
    | none => rfl
    | some r =>
      obtain ⟨x, e', w'⟩ := r
      cases x with
      | normal => rfl
      | ret => rfl
      | exit i =>
        simp only [Option.bind_some]
        cases Nat.beq i id <;> rfl
  | loop c => intros; rfl
  | exit => intros; rfl
  | ret => intros; rfl
  | rangeFunc => intros; rfl
  | scope => intros; rfl
  | goto => intros; rfl
  | refuse => intros; rfl
/-- What stands behind a loop's body: the loop again. -/
noncomputable def kLoop {R : Type} (P : Program) (call : Cl) (fid : FuncId) (n : Nat) (c : Code) (k : Ex → Env → World → Option R) : Ex → Env → World → Option R :=
  fun x e w => match x with | .normal => exC P call fid n (.loop c) e w k | .exit i => k (.exit i) e w | .ret => k .ret e w
noncomputable def kSeq {R : Type} (P : Program) (call : Cl) (fid : FuncId) (n : Nat) (b : Code) (k : Ex → Env → World → Option R) : Ex → Env → World → Option R :=
  fun x e w => match x with | .normal => exC P call fid n b e w k | .exit i => k (.exit i) e w | .ret => k .ret e w
noncomputable def kBlock {R : Type} (id : Nat) (k : Ex → Env → World → Option R) : Ex → Env → World → Option R :=
  fun x e w => match x with | .normal => k .normal e w | .exit i => (match Nat.beq i id with | true => k .normal e w | false => k (.exit i) e w) | .ret => k .ret e w
noncomputable def kFn (P : Program) (fn : Func) : Ex → Env → World → Option (Value × World) :=
  fun x e w => match x with | .normal => resD P fn e w | .exit _ => none | .ret => resD P fn e w
theorem exC_loop {R : Type} (P : Program) (call : Cl) (fid : FuncId) (n : Nat) (c : Code) (e : Env) (w : World) (k : Ex → Env → World → Option R) :
    exC P call fid n (.loop c) e w k = exC P call fid n c e w (kLoop P call fid n c k) := by
  rw [exC_eq P call fid n c, exC_eq P call fid n (.loop c)]
  simp only [exD]
  rw [loopL_eq]
  cases exD P call fid n c e w with
  | none => rfl
  | some r =>
    obtain ⟨x, e', w'⟩ := r
    cases x with
    | normal => rfl
    | exit i => rfl
    | ret => rfl
noncomputable def fnC (P : Program) (call : Cl) (f : FuncId) (args : Array Value) (w : World) : Option (Value × World) :=
  match P.funcs.toList[f]? with
  | some fn => match fn.body with
    | some c => exC P call f fn.ntmps c (env0 args) w (kFn P fn)
    | none => none
  | none => none
theorem fnC_eq (P : Program) (call : Cl) (f : FuncId) (args : Array Value) (w : World) : fnC P call f args w = fnX P call f args w := by
  unfold fnC fnX
  cases P.funcs.toList[f]? with
  | none => rfl
  | some fn =>
    simp only []
    cases fn.body with
    | none => rfl
    | some c =>
      simp only []
      rw [exC_eq]
      cases exD P call f fn.ntmps c (env0 args) w with
      | none => rfl
      | some r =>
        obtain ⟨x, e', w'⟩ := r
        cases x <;> rfl
/-- A region of several orders: what holds whatever order. -/
theorem exC_any {R : Type} {P : Program} {call : Cl} {fid : FuncId} {n id : Nat} {ops : Array Oper} (h0 : oneB ops.toList = false) (hc : ancChk (ancs ops.toList []) ops.toList (ancs ops.toList []) = true) {e : Env} {w : World} {k : Ex → Env → World → Option R} {Q : R → Prop}
    (h : drW P call n ops.toList (ancs ops.toList []) (fun e w => Ret (k .normal e w) Q) ops.toList.length 0 e { w with drawn := w.drawn + 1 } []) : Ret (exC P call fid n (.region id ops true) e w k) Q := by
  have := drW_opsL (t := w.tape w.drawn (.order fid id)) hc h
  obtain ⟨r, h1, r2, h2, h3⟩ := this
  refine ⟨r2, ?_, h3⟩
  simp only [exC, drC, h0]
  rw [show ops.toList.toArray = ops by simp, h1]
  exact h2
/-- A code's parts. -/
def cA : Code → Code | .seq a _ => a | .cond _ a _ => a | .block _ c => c | .loop c => c | c => c
def cB : Code → Code | .seq _ b => b | .cond _ _ b => b | c => c
def opsOf : Code → Array Oper | .region _ ops _ => ops | _ => #[]
def bodyOf (P : Program) (f : Nat) : Code := match P.funcs.toList[f]? with | some fn => (match fn.body with | some c => c | none => .skip) | none => .skip
def fnOf (P : Program) (f : Nat) : Func := (P.funcs.toList[f]?).getD default
def ups (e : Env) : List (Nat × Value) → Env
  | [] => e
  | p :: l => ups (upd e p.1 p.2) l
end Go.Ev
