/- A part of the proof, without conditions. -/
import Derived.KernelRfl
import Derived.Test.YtkhbpmhagpljiaaGreatDoorEvD
set_option linter.unusedVariables false
set_option linter.unusedSimpArgs false
set_option linter.deprecated false
namespace Go.Ev
open Go
def AL {R : Type} (v : Value) (a b : Option R) : Option R :=
 match v with
 | .bool true => a
 | .bool false => b
 | _ => none
def Vi {R : Type} (P : Program) (call : Cl) (n : Nat) (ops : List Oper) : List Oper → Env → World → (Env → World → Option R) → Option R
 | [], e, w, k => k e w
 | o :: l, e, w, k => (II P call ops e o w).bind fun r => Vi P call n ops l (put n e o.dst r.1) r.2 k
theorem RU {R : Type} {P : Program} {call : Cl} {n : Nat} {ops : List Oper} (k : Env → World → Option R) : ∀ (l : List Oper) (e : Env) (w : World),
  Vi P call n ops l e w k = (PS P call n ops l e w).bind fun r => k r.1 r.2
 | [], e, w => rfl
 | o :: l, e, w => by
  simp only [Vi, PS]
  cases II P call ops e o w with
  | none => rfl
  | some r => exact RU k l _ _
noncomputable def QA {R : Type} (P : Program) (call : Cl) (n : Nat) (ops : List Oper) (A : List Nat) : List Nat → Env → World → Pk → (Env → World → Option R) → Option R
 | [], e, w, _, k => k e w
 | i :: l, e, w, pd, k => match ops[i]? with
  | none => none
  | some o => (II P call ops e o w).bind fun r => match CH o.op with
   | true => AG (r.2 = w) (QA P call n ops A l (put n e o.dst r.1) w (match Jh o.op with | true => pd | false => (i, fun u => II P call ops e o u, r.1) :: pd) k)
   | false => AG (Td (A.getD i 0) r.2 pd) (QA P call n ops A l (put n e o.dst r.1) r.2 pd k)
theorem QB {R S : Type} (p : Prop) (x : Option R) (k : R → Option S) : (AG p x).bind k = AG p (x.bind k) := by
 unfold AG
 split <;> rfl
theorem ND {R : Type} {P : Program} {call : Cl} {n : Nat} {ops : List Oper} {A : List Nat} (k : Env → World → Option R) : ∀ (l : List Nat) (e : Env) (w : World) (pd : Pk),
  QA P call n ops A l e w pd k = (PT P call n ops A l e w pd).bind fun r => k r.1 r.2
 | [], e, w, pd => rfl
 | i :: l, e, w, pd => by
  simp only [QA, PT]
  cases ops[i]? with
  | none => rfl
  | some o =>
   simp only []
   cases II P call ops e o w with
   | none => rfl
   | some r =>
    simp only [Option.bind_some]
    cases CH o.op with
    | true => simp only [QB]; rw [ND k l]; rfl
    | false => simp only [QB]; rw [ND k l]
noncomputable def Zf {R : Type} (P : Program) (call : Cl) (fid : FuncId) (id : Nat) (n : Nat) (ops : List Oper) (e : Env) (w : World) (k : Env → World → Option R) : Option R :=
 match R9 ops with
 | true => QA P call n ops (JF ops []) (Pj ops ops.length 0) e { w with drawn := w.drawn + 1 } [] k
 | false => (opsL P call n ops (Region.schedule true ops.toArray (w.tape w.drawn (.order fid id))) e { w with drawn := w.drawn + 1 }).bind fun r => k r.1 r.2
theorem WG {R : Type} {P : Program} {call : Cl} {fid : FuncId} {id : Nat} {n : Nat} {ops : List Oper} (k : Env → World → Option R) (e : Env) (w : World) :
  Zf P call fid id n ops e w k = (WQ P call fid id n ops e w).bind fun r => k r.1 r.2 := by
 unfold Zf WQ
 generalize R9 ops = b
 cases b
 ·rfl
 ·exact ND k _ _ _ _
noncomputable def BA (P : Program) (call : Cl) (fid : FuncId) (n : Nat) : Code → {R : Type} → Env → World → (Ex → Env → World → Option R) → Option R
 | .skip, _, e, w, k => k .normal e w
 | .label _, _, e, w, k => k .normal e w
 | .region id ops draw, _, e, w, k => match draw with
  | false => Vi P call n ops.toList ops.toList e w (k .normal)
  | true => Zf P call fid id n ops.toList e w (k .normal)
 | .seq a b, _, e, w, k => BA P call fid n a e w fun x e w => match x with | .normal => BA P call fid n b e w k | .exit i => k (.exit i) e w | .ret => k .ret e w
 | .cond c a b, _, e, w, k => AL (val e c) (BA P call fid n a e w k) (BA P call fid n b e w k)
 | .block id c, _, e, w, k => BA P call fid n c e w fun x e w => match x with | .normal => k .normal e w | .exit i => (match Nat.beq i id with | true => k .normal e w | false => k (.exit i) e w) | .ret => k .ret e w
 | .loop c, _, e, w, k => (PU (Hv P call fid n c) e w).bind fun r => k r.1 r.2.1 r.2.2
 | .exit id, _, e, w, k => k (.exit id) e w
 | .ret, _, e, w, k => k .ret e w
 | _, _, _, _, _ => none
theorem Rn (P : Program) (call : Cl) (fid : FuncId) (n : Nat) : ∀ (c : Code) {R : Type} (e : Env) (w : World) (k : Ex → Env → World → Option R),
  BA P call fid n c e w k = (Hv P call fid n c e w).bind fun r => k r.1 r.2.1 r.2.2 := by
 intro c
 induction c with
 | skip => intros; rfl
 | label => intros; rfl
 | region id ops draw =>
  intro R e w k
  cases draw with
  | false =>
   simp only [BA, Hv, RU, Option.bind_assoc]
   rfl
  | true =>
   simp only [BA, Hv, WG, Option.bind_assoc]
   rfl
 | seq a b iha ihb =>
  intro R e w k
  simp only [BA, Hv]
  rw [iha]
  cases Hv P call fid n a e w with
  | none => rfl
  | some r =>
   obtain ⟨x, e', w'⟩ := r
   cases x
   ·exact ihb _ _ _
   ·rfl
   ·rfl
 | cond c a b iha ihb =>
  intro R e w k
  simp only [BA, Hv]
  generalize val e c = v
  cases v <;> try rfl
  rename_i t
  cases t
  ·exact ihb _ _ _
  ·exact iha _ _ _
 | block id c ih =>
  intro R e w k
  simp only [BA, Hv]
  rw [ih]
  cases Hv P call fid n c e w with
  | none => rfl
  | some r =>
   obtain ⟨x, e', w'⟩ := r
   cases x with
   | normal => rfl
   | ret => rfl
   | exit i =>
    simp only [Option.bind_some]
    cases Nat.beq i id <;> rfl
 | loop c => intros; rfl
 | exit => intros; rfl
 | ret => intros; rfl
 | rangeFunc => intros; rfl
 | scope => intros; rfl
 | goto => intros; rfl
 | refuse => intros; rfl
noncomputable def DM {R : Type} (P : Program) (call : Cl) (fid : FuncId) (n : Nat) (c : Code) (k : Ex → Env → World → Option R) : Ex → Env → World → Option R :=
 fun x e w => match x with | .normal => BA P call fid n (.loop c) e w k | .exit i => k (.exit i) e w | .ret => k .ret e w
noncomputable def AE {R : Type} (P : Program) (call : Cl) (fid : FuncId) (n : Nat) (b : Code) (k : Ex → Env → World → Option R) : Ex → Env → World → Option R :=
 fun x e w => match x with | .normal => BA P call fid n b e w k | .exit i => k (.exit i) e w | .ret => k .ret e w
noncomputable def Am {R : Type} (id : Nat) (k : Ex → Env → World → Option R) : Ex → Env → World → Option R :=
 fun x e w => match x with | .normal => k .normal e w | .exit i => (match Nat.beq i id with | true => k .normal e w | false => k (.exit i) e w) | .ret => k .ret e w
noncomputable def Bc (P : Program) (fn : Func) : Ex → Env → World → Option (Value × World) :=
 fun x e w => match x with | .normal => Tg P fn e w | .exit _ => none | .ret => Tg P fn e w
theorem AH {R : Type} (P : Program) (call : Cl) (fid : FuncId) (n : Nat) (c : Code) (e : Env) (w : World) (k : Ex → Env → World → Option R) :
  BA P call fid n (.loop c) e w k = BA P call fid n c e w (DM P call fid n c k) := by
 rw [Rn P call fid n c, Rn P call fid n (.loop c)]
 simp only [Hv]
 rw [Th]
 cases Hv P call fid n c e w with
 | none => rfl
 | some r =>
  obtain ⟨x, e', w'⟩ := r
  cases x with
  | normal => rfl
  | exit i => rfl
  | ret => rfl
noncomputable def Bv (P : Program) (call : Cl) (f : FuncId) (args : Array Value) (w : World) : Option (Value × World) :=
 match P.funcs.toList[f]? with
 | some fn => match fn.body with
  | some c => BA P call f fn.ntmps c (AO args) w (Bc P fn)
  | none => none
 | none => none
theorem WH (P : Program) (call : Cl) (f : FuncId) (args : Array Value) (w : World) : Bv P call f args w = W8 P call f args w := by
 unfold Bv W8
 cases P.funcs.toList[f]? with
 | none => rfl
 | some fn =>
  simp only []
  cases fn.body with
  | none => rfl
  | some c =>
   simp only []
   rw [Rn]
   cases Hv P call f fn.ntmps c (AO args) w with
   | none => rfl
   | some r =>
    obtain ⟨x, e', w'⟩ := r
    cases x <;> rfl
theorem FH {R : Type} {P : Program} {call : Cl} {fid : FuncId} {n id : Nat} {ops : Array Oper} (h0 : R9 ops.toList = false) (hc : H4 (JF ops.toList []) ops.toList (JF ops.toList []) = true) {e : Env} {w : World} {k : Ex → Env → World → Option R} {Q : R → Prop}
  (h : VP P call n ops.toList (JF ops.toList []) (fun e w => Af (k .normal e w) Q) ops.toList.length 0 e { w with drawn := w.drawn + 1 } []) : Af (BA P call fid n (.region id ops true) e w k) Q := by
 have := Tk (t := w.tape w.drawn (.order fid id)) hc h
 obtain ⟨r, h1, r2, h2, h3⟩ := this
 refine ⟨r2, ?_, h3⟩
 simp only [BA, Zf, h0]
 rw [show ops.toList.toArray = ops by simp, h1]
 exact h2
def cA : Code → Code | .seq a _ => a | .cond _ a _ => a | .block _ c => c | .loop c => c | c => c
def cB : Code → Code | .seq _ b => b | .cond _ _ b => b | c => c
def opsOf : Code → Array Oper | .region _ ops _ => ops | _ => #[]
def Ae (P : Program) (f : Nat) : Code := match P.funcs.toList[f]? with | some fn => (match fn.body with | some c => c | none => .skip) | none => .skip
def AB (P : Program) (f : Nat) : Func := (P.funcs.toList[f]?).getD default
def AJ (e : Env) : List (Nat × Value) → Env
 | [] => e
 | p :: l => AJ (UB e p.1 p.2) l
end Go.Ev
