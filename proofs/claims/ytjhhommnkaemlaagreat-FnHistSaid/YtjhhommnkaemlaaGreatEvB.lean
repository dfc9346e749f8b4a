/- A part of the proof: an evaluator of the model, its laws, and contracts of functions; no condition. -/
import Derived.Test.YtjhhommnkaemlaaGreatEvA
set_option linter.unusedVariables false
set_option linter.unusedSimpArgs false
set_option linter.deprecated false
namespace Go.Ev
open Go
def MV (ops : List Oper) (e : Env) (j : Nat) : Value :=
 match ops[j]? with
 | some o => match o.dst with | some d => e d | none => undef
 | none => undef
def Ia : Value → Bool → Bool
 | .bool true, t => t
 | .bool false, t => !t
 | _, _ => false
def Ao (v : Value) (t : Bool) (x : Option (Value × World)) (w : World) : Option (Value × World) :=
 match Ia v t with
 | true => x
 | false => some (undef, w)
def G8 (P : Program) (call : Cl) (ops : List Oper) (e : Env) (o : Oper) (w : World) : Option (Value × World) :=
 match o.guard with
 | none => Qm P call e o w
 | some (j, t) => Ao (MV ops e j) t (Qm P call e o w) w
def NQ (P : Program) (call : Cl) (n : Nat) (ops : List Oper) : List Oper → Env → World → Option (Env × World)
 | [], e, w => some (e, w)
 | o :: l, e, w => (G8 P call ops e o w).bind fun r => NQ P call n ops l (put n e o.dst r.1) r.2
def Ep (ed : Edge) : Bool := match ed.ground with | .textOnly _ => false | .gcOnly _ => false | _ => true
def Gi : List Edge → Nat
 | [] => 0
 | ed :: l => bif Ep ed then 2 ^ ed.on ||| Gi l else Gi l
def MX (A : List Nat) : List Edge → Nat
 | [] => 0
 | ed :: l => bif Ep ed then (2 ^ ed.on ||| A.getD ed.on 0) ||| MX A l else MX A l
def Ib : List Oper → List Nat → List Nat
 | [], A => A
 | o :: l, A => Ib l (A ++ [MX A o.after.toList])
def Gl (A : List Nat) : List Oper → List Nat → Bool
 | o :: l, x :: r => Nat.beq x (MX A o.after.toList) && Gl A l r
 | [], [] => true
 | _, _ => false
def BW : Op → Bool
 | .move _ | .assign _ | .pick .. | .build .. | .load .. | .nilCheck _ | .binOp .. | .unOp .. | .convert .. | .makeInterface .. | .makeFunc .. | .slice ..
 | .fieldAddr .. | .field .. | .indexAddr .. | .index .. | .lookup .. | .typeAssert .. | .extract .. => true
 | .call ⟨.builtin .len, _, _⟩ | .call ⟨.builtin .cap, _, _⟩ | .call ⟨.builtin .max, _, _⟩ | .call ⟨.builtin .min, _, _⟩ => true
 | _ => false
def Hz : Op → Bool
 | .move _ | .assign _ | .pick .. | .makeFunc .. => true
 | _ => false
def tmpsOf : List Operand → List Nat
 | [] => []
 | .tmp t :: l => t :: tmpsOf l
 | _ :: l => tmpsOf l
def looks (ops : List Oper) (o : Oper) : List Nat :=
 tmpsOf o.op.operands.toList ++ (match o.guard with | some (j, _) => (match ops[j]? with | some x => x.dst.toList | none => []) | none => [])
def Pp (d : Option Nat) (l : List Nat) : Bool := match d with | some d => l.all fun t => !Nat.beq t d | none => true
def OT (d d' : Option Nat) : Bool := match d, d' with | some a, some b => !Nat.beq a b | _, _ => true
def MY (ops : List Oper) (x y : Oper) : Bool := Pp x.dst (looks ops y) && Pp y.dst (looks ops x) && OT x.dst y.dst
def DM (L : Nat) (i : Nat) (o : Oper) : Bool := !L.testBit i && Nat.beq (Gi o.after.toList &&& L) (Gi o.after.toList)
def Pq (L : Nat) (i : Nat) : List Oper → Nat → Bool
 | [], _ => true
 | o :: l, j => (Nat.beq j i || !DM L j o) && Pq L i l (j + 1)
def My (ops : List Oper) (A : List Nat) (L : Nat) (i : Nat) (oi : Oper) : List Oper → Nat → Bool
 | [], _ => true
 | o :: l, j => (Nat.beq j i || L.testBit j || (A.getD j 0).testBit i || MY ops oi o) && My ops A L i oi l (j + 1)
def Kj (q : Bool) (L : Nat) : List Oper → Nat → Option Nat
 | [], _ => none
 | o :: l, j => bif DM L j o && (!q || BW o.op) then some j else Kj q L l (j + 1)
def TV (ops : List Oper) (L : Nat) : Option Nat := match Kj true L ops 0 with | some j => some j | none => Kj false L ops 0
def MZ (ops : List Oper) : Nat → Nat → List Nat
 | 0, _ => []
 | f + 1, L => match TV ops L with
  | some i => i :: MZ ops f (L ||| 2 ^ i)
  | none => []
def Gm (ops : List Oper) (A : List Nat) : List Nat → Nat → Bool
 | [], L => Nat.beq (L + 1) (2 ^ ops.length)
 | i :: l, L => (match ops[i]? with
  | some o => DM L i o && (bif BW o.op then My ops A L i o ops 0 else Pq L i ops 0)
  | none => false) && Gm ops A l (L ||| 2 ^ i)
abbrev Na := List (Nat × (World → Option (Value × World)) × Value)
def Qy (a : Nat) (w : World) : Na → Prop
 | [] => True
 | p :: l => (match a.testBit p.1 with | true => True | false => p.2.1 w = some (p.2.2, w)) ∧ Qy a w l
open Classical in
noncomputable def Ah {R : Type} (p : Prop) (x : Option R) : Option R := if p then x else none
noncomputable def NR (P : Program) (call : Cl) (n : Nat) (ops : List Oper) (A : List Nat) : List Nat → Env → World → Na → Option (Env × World)
 | [], e, w, _ => some (e, w)
 | i :: l, e, w, pd => match ops[i]? with
  | none => none
  | some o => (G8 P call ops e o w).bind fun r => match BW o.op with
   | true => Ah (r.2 = w) (NR P call n ops A l (put n e o.dst r.1) w (match Hz o.op with | true => pd | false => (i, fun u => G8 P call ops e o u, r.1) :: pd))
   | false => Ah (Qy (A.getD i 0) r.2 pd) (NR P call n ops A l (put n e o.dst r.1) r.2 pd)
def opsL (P : Program) (call : Cl) (n : Nat) (ops : List Oper) : List Nat → Env → World → Option (Env × World)
 | [], e, w => some (e, w)
 | i :: l, e, w => match ops[i]? with
  | none => opsL P call n ops l e w
  | some o => (G8 P call ops e o w).bind fun r => opsL P call n ops l (put n e o.dst r.1) r.2
def PO (ops : List Oper) : Bool := Gl (Ib ops []) ops (Ib ops []) && Gm ops (Ib ops []) (MZ ops ops.length 0) 0
noncomputable def TH (P : Program) (call : Cl) (fid : FuncId) (id : Nat) (n : Nat) (ops : List Oper) (e : Env) (w : World) : Option (Env × World) :=
 match PO ops with
 | true => NR P call n ops (Ib ops []) (MZ ops ops.length 0) e { w with drawn := w.drawn + 1 } []
 | false => opsL P call n ops (Region.schedule true ops.toArray (w.tape w.drawn (.order fid id))) e { w with drawn := w.drawn + 1 }
def Nc (L : Nat) : List Oper → Nat → List Nat
 | [], _ => []
 | o :: l, j => bif DM L j o then j :: Nc L l (j + 1) else Nc L l (j + 1)
def Qz (F : Nat → Prop) : List Nat → Prop
 | [] => False
 | i :: l => match l with | [] => F i | _ :: _ => F i ∧ Qz F l
def Ae {R : Type} (x : Option R) (Q : R → Prop) : Prop := ∃ r, x = some r ∧ Q r
def SN (P : Program) (call : Cl) (n : Nat) (ops : List Oper) (A : List Nat) (K : Env → World → Prop) : Nat → Nat → Env → World → Na → Prop
 | fu, L, e, w, pd => match Nat.beq (L + 1) (2 ^ ops.length) with
  | true => K e w
  | false => match fu with
   | 0 => False
   | fu + 1 => match Kj true L ops 0 with
    | some i => (match ops[i]? with
     | some o => (match DM L i o && (BW o.op && My ops A L i o ops 0) with
      | true => Ae (G8 P call ops e o w) fun r => r.2 = w ∧ SN P call n ops A K fu (L ||| 2 ^ i) (put n e o.dst r.1) w (match Hz o.op with | true => pd | false => (i, fun u => G8 P call ops e o u, r.1) :: pd)
      | false => False)
     | none => False)
    | none => Qz (fun i => match ops[i]? with
     | some o => Ae (G8 P call ops e o w) fun r => Qy (A.getD i 0) r.2 pd ∧ SN P call n ops A K fu (L ||| 2 ^ i) (put n e o.dst r.1) r.2 pd
     | none => False) (Nc L ops 0)
inductive Ex where
 | normal
 | exit (id : Nat)
 | ret
abbrev St := Ex × Env × World
open Classical in
noncomputable def SO {α : Type} (s : Nat → Option α) : Option α := if h : ∃ m r, s m = some r then s (Classical.choose h) else none
def EM (f : Env → World → Option St) : Nat → Env → World → Option St
 | 0, _, _ => none
 | m + 1, e, w => (f e w).bind fun r => match r.1 with | .normal => EM f m r.2.1 r.2.2 | _ => some r
noncomputable def NS (f : Env → World → Option St) (e : Env) (w : World) : Option St := SO fun m => EM f m e w
noncomputable def FZ (P : Program) (call : Cl) (fid : FuncId) (n : Nat) : Code → Env → World → Option St
 | .skip, e, w => some (.normal, e, w)
 | .label _, e, w => some (.normal, e, w)
 | .region id ops draw, e, w => match draw with
  | false => (NQ P call n ops.toList ops.toList e w).bind fun r => some (.normal, r.1, r.2)
  | true => (TH P call fid id n ops.toList e w).bind fun r => some (.normal, r.1, r.2)
 | .seq a b, e, w => (FZ P call fid n a e w).bind fun r => match r.1 with | .normal => FZ P call fid n b r.2.1 r.2.2 | _ => some r
 | .cond c a b, e, w => match val e c with
  | .bool true => FZ P call fid n a e w
  | .bool false => FZ P call fid n b e w
  | _ => none
 | .block id c, e, w => (FZ P call fid n c e w).bind fun r => match r.1 with
  | .exit i => some ((bif Nat.beq i id then .normal else .exit i), r.2)
  | _ => some r
 | .loop c, e, w => NS (FZ P call fid n c) e w
 | .exit id, e, w => some (.exit id, e, w)
 | .ret, e, w => some (.ret, e, w)
 | _, _, _ => none
noncomputable def Nd (P : Program) (e : Env) (w : World) : ResultVar → Option Value
 | .tmp t => some (e t)
 | .cell a t => (ro ((Instr.loadAt t (e a)).run P w)).bind fun r => Ah (r.2 = w) (some r.1)
noncomputable def QA (P : Program) (fn : Func) (e : Env) (w : World) : Option (Value × World) :=
 match fn.results.toList with
 | [] => some (.tuple #[], w)
 | [x] => (Nd P e w x).bind fun v => some (v, w)
 | [x, y] => (Nd P e w x).bind fun v => (Nd P e w y).bind fun u => some (.tuple #[v, u], w)
 | [x, y, z] => (Nd P e w x).bind fun v => (Nd P e w y).bind fun u => (Nd P e w z).bind fun t => some (.tuple #[v, u, t], w)
 | _ => none
noncomputable def TW (P : Program) (call : Cl) (f : FuncId) (args : Array Value) (w : World) : Option (Value × World) :=
 match P.funcs.toList[f]? with
 | some fn => match fn.body with
  | some c => (FZ P call f fn.ntmps c (AM args) w).bind fun r => match r.1 with | .exit _ => none | _ => QA P fn r.2.1 r.2.2
  | none => none
 | none => none
def CE (P : Program) (f : FuncId) (args : Array Value) (w : World) (r : Value × World) : Prop :=
 Calls P f args w fun e w' => e = .returned r.1 ∧ w' = r.2
open Classical in
/-- What a call of a function comes to, if it comes to an end. -/
noncomputable def EV (P : Program) : Cl := fun f args w =>
 if h : P.inits.idxOf? f = none ∧ ∃ r, CE P f args w r then some (Classical.choose h.2) else none
theorem Nf {α : Type} {s : Nat → Option α} (hm : ∀ m r, s m = some r → s (m + 1) = some r) {m : Nat} {r : α} (h : s m = some r) : SO s = some r := by
 have up : ∀ m k r, s m = some r → s (m + k) = some r := by
  intro m k
  induction k with
  | zero => exact fun r h => h
  | succ k ih => exact fun r h => hm _ _ (ih r h)
 have he : ∃ m r, s m = some r := ⟨m, r, h⟩
 unfold SO
 rw [dif_pos he]
 obtain ⟨r', h'⟩ := Classical.choose_spec he
 have h1 := up _ m _ h'
 have h2 := up _ (Classical.choose he) _ h
 rw [Nat.add_comm] at h2
 rw [h']
 rw [h1] at h2
 exact h2
theorem OU {α : Type} {s : Nat → Option α} {r : α} (h : SO s = some r) : ∃ m, s m = some r := by
 unfold SO at h
 split at h
 ·exact ⟨_, h⟩
 ·contradiction
theorem Gn {f : Env → World → Option St} : ∀ m e w r, EM f m e w = some r → EM f (m + 1) e w = some r
 | 0, e, w, r, h => by simp [EM] at h
 | m + 1, e, w, r, h => by
  rw [EM] at h ⊢
  cases hf : f e w with
  | none => simp [hf] at h
  | some x =>
   simp only [hf, Option.bind_some] at h ⊢
   obtain ⟨y, e', w'⟩ := x
   cases y <;> simp only [] at h ⊢
   ·exact Gn m _ _ _ h
   ·exact h
   ·exact h
theorem QB (f : Env → World → Option St) (e : Env) (w : World) : NS f e w = (f e w).bind fun r => match r.1 with | .normal => NS f r.2.1 r.2.2 | _ => some r := by
 apply Option.ext
 intro r
 constructor
 ·intro h
  obtain ⟨m, h⟩ := OU (show SO _ = some r from h)
  cases m with
  | zero => simp [EM] at h
  | succ m =>
   rw [EM] at h
   cases hf : f e w with
   | none => simp [hf] at h
   | some x =>
    simp only [hf, Option.bind_some] at h ⊢
    obtain ⟨y, e', w'⟩ := x
    cases y <;> simp only [] at h ⊢
    ·exact Nf (fun m r => Gn m _ _ r) h
    ·exact h
    ·exact h
 ·intro h
  cases hf : f e w with
  | none => simp [hf] at h
  | some x =>
   simp only [hf, Option.bind_some] at h
   obtain ⟨y, e', w'⟩ := x
   cases y <;> simp only [] at h
   ·obtain ⟨m, h⟩ := OU (show SO _ = some r from h)
    exact Nf (m := m + 1) (fun m r => Gn m _ _ r) (by rw [EM, hf]; exact h)
   ·exact Nf (m := 1) (fun m r => Gn m _ _ r) (by rw [EM, hf]; exact h)
   ·exact Nf (m := 1) (fun m r => Gn m _ _ r) (by rw [EM, hf]; exact h)
end Go.Ev
