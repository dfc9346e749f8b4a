/- A part of the proof, without conditions. -/
import Derived.KernelRfl
import Derived.Test.YtjhhommnkaemlaaGreatEvD
set_option linter.unusedVariables false
set_option linter.unusedSimpArgs false
set_option linter.deprecated false
namespace Go.Ev
open Go
def AR {R : Type} (v : Value) (a b : Option R) : Option R :=
 match v with
 | .bool true => a
 | .bool false => b
 | _ => none
def SY {R : Type} (P : Program) (call : Cl) (n : Nat) (ops : List Oper) : List Oper → Env → World → (Env → World → Option R) → Option R
 | [], e, w, k => k e w
 | o :: l, e, w, k => (Hx P call ops e o w).bind fun r => SY P call n ops l (put n e o.dst r.1) r.2 k
theorem Qg {R : Type} {P : Program} {call : Cl} {n : Nat} {ops : List Oper} (k : Env → World → Option R) : ∀ (l : List Oper) (e : Env) (w : World),
  SY P call n ops l e w k = (OE P call n ops l e w).bind fun r => k r.1 r.2
 | [], e, w => rfl
 | o :: l, e, w => by
  simp only [SY, OE]
  cases Hx P call ops e o w with
  | none => rfl
  | some r => exact Qg k l _ _
noncomputable def OS {R : Type} (P : Program) (call : Cl) (n : Nat) (ops : List Oper) (A : List Nat) : List Nat → Env → World → NS → (Env → World → Option R) → Option R
 | [], e, w, _, k => k e w
 | i :: l, e, w, pd, k => match ops[i]? with
  | none => none
  | some o => (Hx P call ops e o w).bind fun r => match Cb o.op with
   | true => Ah (r.2 = w) (OS P call n ops A l (put n e o.dst r.1) w (match HT o.op with | true => pd | false => (i, fun u => Hx P call ops e o u, r.1) :: pd) k)
   | false => Ah (Rg (A.getD i 0) r.2 pd) (OS P call n ops A l (put n e o.dst r.1) r.2 pd k)
theorem OT {R S : Type} (p : Prop) (x : Option R) (k : R → Option S) : (Ah p x).bind k = Ah p (x.bind k) := by
 unfold Ah
 split <;> rfl
theorem Lm {R : Type} {P : Program} {call : Cl} {n : Nat} {ops : List Oper} {A : List Nat} (k : Env → World → Option R) : ∀ (l : List Nat) (e : Env) (w : World) (pd : NS),
  OS P call n ops A l e w pd k = (OG P call n ops A l e w pd).bind fun r => k r.1 r.2
 | [], e, w, pd => rfl
 | i :: l, e, w, pd => by
  simp only [OS, OG]
  cases ops[i]? with
  | none => rfl
  | some o =>
   simp only []
   cases Hx P call ops e o w with
   | none => rfl
   | some r =>
    simp only [Option.bind_some]
    cases Cb o.op with
    | true => simp only [OT]; rw [Lm k l]; rfl
    | false => simp only [OT]; rw [Lm k l]
noncomputable def VN {R : Type} (P : Program) (call : Cl) (fid : FuncId) (id : Nat) (n : Nat) (ops : List Oper) (e : Env) (w : World) (k : Env → World → Option R) : Option R :=
 match Qv ops with
 | true => OS P call n ops (Iy ops []) (NR ops ops.length 0) e { w with drawn := w.drawn + 1 } [] k
 | false => (opsL P call n ops (Region.schedule true ops.toArray (w.tape w.drawn (.order fid id))) e { w with drawn := w.drawn + 1 }).bind fun r => k r.1 r.2
theorem TZ {R : Type} {P : Program} {call : Cl} {fid : FuncId} {id : Nat} {n : Nat} {ops : List Oper} (k : Env → World → Option R) (e : Env) (w : World) :
  VN P call fid id n ops e w k = (UM P call fid id n ops e w).bind fun r => k r.1 r.2 := by
 unfold VN UM
 generalize Qv ops = b
 cases b
 ·rfl
 ·exact Lm k _ _ _ _
noncomputable def Bt (P : Program) (call : Cl) (fid : FuncId) (n : Nat) : Code → {R : Type} → Env → World → (Ex → Env → World → Option R) → Option R
 | .skip, _, e, w, k => k .normal e w
 | .label _, _, e, w, k => k .normal e w
 | .region id ops draw, _, e, w, k => match draw with
  | false => SY P call n ops.toList ops.toList e w (k .normal)
  | true => VN P call fid id n ops.toList e w (k .normal)
 | .seq a b, _, e, w, k => Bt P call fid n a e w fun x e w => match x with | .normal => Bt P call fid n b e w k | .exit i => k (.exit i) e w | .ret => k .ret e w
 | .cond c a b, _, e, w, k => AR (val e c) (Bt P call fid n a e w k) (Bt P call fid n b e w k)
 | .block id c, _, e, w, k => Bt P call fid n c e w fun x e w => match x with | .normal => k .normal e w | .exit i => (match Nat.beq i id with | true => k .normal e w | false => k (.exit i) e w) | .ret => k .ret e w
 | .loop c, _, e, w, k => (OH (Gq P call fid n c) e w).bind fun r => k r.1 r.2.1 r.2.2
 | .exit id, _, e, w, k => k (.exit id) e w
 | .ret, _, e, w, k => k .ret e w
 | _, _, _, _, _ => none
theorem PB (P : Program) (call : Cl) (fid : FuncId) (n : Nat) : ∀ (c : Code) {R : Type} (e : Env) (w : World) (k : Ex → Env → World → Option R),
  Bt P call fid n c e w k = (Gq P call fid n c e w).bind fun r => k r.1 r.2.1 r.2.2 := by
 intro c
 induction c with
 | skip => intros; rfl
 | label => intros; rfl
 | region id ops draw =>
  intro R e w k
  cases draw with
  | false =>
   simp only [Bt, Gq, Qg, Option.bind_assoc]
   rfl
  | true =>
   simp only [Bt, Gq, TZ, Option.bind_assoc]
   rfl
 | seq a b iha ihb =>
  intro R e w k
  simp only [Bt, Gq]
  rw [iha]
  cases Gq P call fid n a e w with
  | none => rfl
  | some r =>
   obtain ⟨x, e', w'⟩ := r
   cases x
   ·exact ihb _ _ _
   ·rfl
   ·rfl
 | cond c a b iha ihb =>
  intro R e w k
  simp only [Bt, Gq]
  generalize val e c = v
  cases v <;> try rfl
  rename_i t
  cases t
  ·exact ihb _ _ _
  ·exact iha _ _ _
 | block id c ih =>
  intro R e w k
  simp only [Bt, Gq]
  rw [ih]
  cases Gq P call fid n c e w with
  | none => rfl
  | some r =>
   obtain ⟨x, e', w'⟩ := r
   cases x with
   | normal => rfl
   | ret => rfl
   | exit i =>
    simp only [Option.bind_some]
    cases Nat.beq i id <;> rfl
 | loop c => intros; rfl
 | exit => intros; rfl
 | ret => intros; rfl
 | rangeFunc => intros; rfl
 | scope => intros; rfl
 | goto => intros; rfl
 | refuse => intros; rfl
noncomputable def CO {R : Type} (P : Program) (call : Cl) (fid : FuncId) (n : Nat) (c : Code) (k : Ex → Env → World → Option R) : Ex → Env → World → Option R :=
 fun x e w => match x with | .normal => Bt P call fid n (.loop c) e w k | .exit i => k (.exit i) e w | .ret => k .ret e w
noncomputable def Ay {R : Type} (P : Program) (call : Cl) (fid : FuncId) (n : Nat) (b : Code) (k : Ex → Env → World → Option R) : Ex → Env → World → Option R :=
 fun x e w => match x with | .normal => Bt P call fid n b e w k | .exit i => k (.exit i) e w | .ret => k .ret e w
noncomputable def Al {R : Type} (id : Nat) (k : Ex → Env → World → Option R) : Ex → Env → World → Option R :=
 fun x e w => match x with | .normal => k .normal e w | .exit i => (match Nat.beq i id with | true => k .normal e w | false => k (.exit i) e w) | .ret => k .ret e w
noncomputable def Bf (P : Program) (fn : Func) : Ex → Env → World → Option (Value × World) :=
 fun x e w => match x with | .normal => Ri P fn e w | .exit _ => none | .ret => Ri P fn e w
theorem AA {R : Type} (P : Program) (call : Cl) (fid : FuncId) (n : Nat) (c : Code) (e : Env) (w : World) (k : Ex → Env → World → Option R) :
  Bt P call fid n (.loop c) e w k = Bt P call fid n c e w (CO P call fid n c k) := by
 rw [PB P call fid n c, PB P call fid n (.loop c)]
 simp only [Gq]
 rw [Rj]
 cases Gq P call fid n c e w with
 | none => rfl
 | some r =>
  obtain ⟨x, e', w'⟩ := r
  cases x with
  | normal => rfl
  | exit i => rfl
  | ret => rfl
noncomputable def Br (P : Program) (call : Cl) (f : FuncId) (args : Array Value) (w : World) : Option (Value × World) :=
 match P.funcs.toList[f]? with
 | some fn => match fn.body with
  | some c => Bt P call f fn.ntmps c (AN args) w (Bf P fn)
  | none => none
 | none => none
theorem T0 (P : Program) (call : Cl) (f : FuncId) (args : Array Value) (w : World) : Br P call f args w = U6 P call f args w := by
 unfold Br U6
 cases P.funcs.toList[f]? with
 | none => rfl
 | some fn =>
  simp only []
  cases fn.body with
  | none => rfl
  | some c =>
   simp only []
   rw [PB]
   cases Gq P call f fn.ntmps c (AN args) w with
   | none => rfl
   | some r =>
    obtain ⟨x, e', w'⟩ := r
    cases x <;> rfl
theorem Et {R : Type} {P : Program} {call : Cl} {fid : FuncId} {n id : Nat} {ops : Array Oper} (h0 : Qv ops.toList = false) (hc : GK (Iy ops.toList []) ops.toList (Iy ops.toList []) = true) {e : Env} {w : World} {k : Ex → Env → World → Option R} {Q : R → Prop}
  (h : TR P call n ops.toList (Iy ops.toList []) (fun e w => Ae (k .normal e w) Q) ops.toList.length 0 e { w with drawn := w.drawn + 1 } []) : Ae (Bt P call fid n (.region id ops true) e w k) Q := by
 have := RI (t := w.tape w.drawn (.order fid id)) hc h
 obtain ⟨r, h1, r2, h2, h3⟩ := this
 refine ⟨r2, ?_, h3⟩
 simp only [Bt, VN, h0]
 rw [show ops.toList.toArray = ops by simp, h1]
 exact h2
def cA : Code → Code | .seq a _ => a | .cond _ a _ => a | .block _ c => c | .loop c => c | c => c
def cB : Code → Code | .seq _ b => b | .cond _ _ b => b | c => c
def opsOf : Code → Array Oper | .region _ ops _ => ops | _ => #[]
def Af (P : Program) (f : Nat) : Code := match P.funcs.toList[f]? with | some fn => (match fn.body with | some c => c | none => .skip) | none => .skip
def AB (P : Program) (f : Nat) : Func := (P.funcs.toList[f]?).getD default
def AK (e : Env) : List (Nat × Value) → Env
 | [] => e
 | p :: l => AK (Qa e p.1 p.2) l
end Go.Ev
