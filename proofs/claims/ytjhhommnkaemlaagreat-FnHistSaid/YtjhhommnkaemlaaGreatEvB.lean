/- A part of the proof: an evaluator of the model, its laws, and contracts of functions; no condition. -/
import Derived.Test.YtjhhommnkaemlaaGreatEvA
namespace Go.Ev
open Go
def MN (ops : List Oper) (e : Env) (j : Nat) : Value :=
 match ops[j]? with
 | some o => match o.dst with | some d => e d | none => undef
 | none => undef
def H6 : Value → Bool → Bool
 | .bool true, t => t
 | .bool false, t => !t
 | _, _ => false
def Ao (v : Value) (t : Bool) (x : Option (Value × World)) (w : World) : Option (Value × World) :=
 match H6 v t with
 | true => x
 | false => some (undef, w)
def GX (P : Program) (call : Cl) (ops : List Oper) (e : Env) (o : Oper) (w : World) : Option (Value × World) :=
 match o.guard with
 | none => Qe P call e o w
 | some (j, t) => Ao (MN ops e j) t (Qe P call e o w) w
def NI (P : Program) (call : Cl) (n : Nat) (ops : List Oper) : List Oper → Env → World → Option (Env × World)
 | [], e, w => some (e, w)
 | o :: l, e, w => (GX P call ops e o w).bind fun r => NI P call n ops l (put n e o.dst r.1) r.2
def Ek (ed : Edge) : Bool := match ed.ground with | .textOnly _ => false | .gcOnly _ => false | _ => true
def Gd : List Edge → Nat
 | [] => 0
 | ed :: l => bif Ek ed then 2 ^ ed.on ||| Gd l else Gd l
def MO (A : List Nat) : List Edge → Nat
 | [] => 0
 | ed :: l => bif Ek ed then (2 ^ ed.on ||| A.getD ed.on 0) ||| MO A l else MO A l
def H7 : List Oper → List Nat → List Nat
 | [], A => A
 | o :: l, A => H7 l (A ++ [MO A o.after.toList])
def Gg (A : List Nat) : List Oper → List Nat → Bool
 | o :: l, x :: r => Nat.beq x (MO A o.after.toList) && Gg A l r
 | [], [] => true
 | _, _ => false
def BT : Op → Bool
 | .move _ | .assign _ | .pick .. | .build .. | .load .. | .nilCheck _ | .binOp .. | .unOp .. | .convert .. | .makeInterface .. | .makeFunc .. | .slice ..
 | .fieldAddr .. | .field .. | .indexAddr .. | .index .. | .lookup .. | .typeAssert .. | .extract .. => true
 | .call ⟨.builtin .len, _, _⟩ | .call ⟨.builtin .cap, _, _⟩ | .call ⟨.builtin .max, _, _⟩ | .call ⟨.builtin .min, _, _⟩ => true
 | _ => false
def Hu : Op → Bool
 | .move _ | .assign _ | .pick .. | .makeFunc .. => true
 | _ => false
def tmpsOf : List Operand → List Nat
 | [] => []
 | .tmp t :: l => t :: tmpsOf l
 | _ :: l => tmpsOf l
def looks (ops : List Oper) (o : Oper) : List Nat :=
 tmpsOf o.op.operands.toList ++ (match o.guard with | some (j, _) => (match ops[j]? with | some x => x.dst.toList | none => []) | none => [])
def Pg (d : Option Nat) (l : List Nat) : Bool := match d with | some d => l.all fun t => !Nat.beq t d | none => true
def OL (d d' : Option Nat) : Bool := match d, d' with | some a, some b => !Nat.beq a b | _, _ => true
def MP (ops : List Oper) (x y : Oper) : Bool := Pg x.dst (looks ops y) && Pg y.dst (looks ops x) && OL x.dst y.dst
def DI (L : Nat) (i : Nat) (o : Oper) : Bool := !L.testBit i && Nat.beq (Gd o.after.toList &&& L) (Gd o.after.toList)
def Ph (L : Nat) (i : Nat) : List Oper → Nat → Bool
 | [], _ => true
 | o :: l, j => (Nat.beq j i || !DI L j o) && Ph L i l (j + 1)
def Mr (ops : List Oper) (A : List Nat) (L : Nat) (i : Nat) (oi : Oper) : List Oper → Nat → Bool
 | [], _ => true
 | o :: l, j => (Nat.beq j i || L.testBit j || (A.getD j 0).testBit i || MP ops oi o) && Mr ops A L i oi l (j + 1)
def Kc (q : Bool) (L : Nat) : List Oper → Nat → Option Nat
 | [], _ => none
 | o :: l, j => bif DI L j o && (!q || BT o.op) then some j else Kc q L l (j + 1)
def TO (ops : List Oper) (L : Nat) : Option Nat := match Kc true L ops 0 with | some j => some j | none => Kc false L ops 0
def MQ (ops : List Oper) : Nat → Nat → List Nat
 | 0, _ => []
 | f + 1, L => match TO ops L with
  | some i => i :: MQ ops f (L ||| 2 ^ i)
  | none => []
def Gh (ops : List Oper) (A : List Nat) : List Nat → Nat → Bool
 | [], L => Nat.beq (L + 1) (2 ^ ops.length)
 | i :: l, L => (match ops[i]? with
  | some o => DI L i o && (bif BT o.op then Mr ops A L i o ops 0 else Ph L i ops 0)
  | none => false) && Gh ops A l (L ||| 2 ^ i)
abbrev MR := List (Nat × (World → Option (Value × World)) × Value)
def Qq (a : Nat) (w : World) : MR → Prop
 | [] => True
 | p :: l => (match a.testBit p.1 with | true => True | false => p.2.1 w = some (p.2.2, w)) ∧ Qq a w l
open Classical in
noncomputable def Ah {R : Type} (p : Prop) (x : Option R) : Option R := if p then x else none
noncomputable def NJ (P : Program) (call : Cl) (n : Nat) (ops : List Oper) (A : List Nat) : List Nat → Env → World → MR → Option (Env × World)
 | [], e, w, _ => some (e, w)
 | i :: l, e, w, pd => match ops[i]? with
  | none => none
  | some o => (GX P call ops e o w).bind fun r => match BT o.op with
   | true => Ah (r.2 = w) (NJ P call n ops A l (put n e o.dst r.1) w (match Hu o.op with | true => pd | false => (i, fun u => GX P call ops e o u, r.1) :: pd))
   | false => Ah (Qq (A.getD i 0) r.2 pd) (NJ P call n ops A l (put n e o.dst r.1) r.2 pd)
def opsL (P : Program) (call : Cl) (n : Nat) (ops : List Oper) : List Nat → Env → World → Option (Env × World)
 | [], e, w => some (e, w)
 | i :: l, e, w => match ops[i]? with
  | none => opsL P call n ops l e w
  | some o => (GX P call ops e o w).bind fun r => opsL P call n ops l (put n e o.dst r.1) r.2
def PG (ops : List Oper) : Bool := Gg (H7 ops []) ops (H7 ops []) && Gh ops (H7 ops []) (MQ ops ops.length 0) 0
noncomputable def TA (P : Program) (call : Cl) (fid : FuncId) (id : Nat) (n : Nat) (ops : List Oper) (e : Env) (w : World) : Option (Env × World) :=
 match PG ops with
 | true => NJ P call n ops (H7 ops []) (MQ ops ops.length 0) e { w with drawn := w.drawn + 1 } []
 | false => opsL P call n ops (Region.schedule true ops.toArray (w.tape w.drawn (.order fid id))) e { w with drawn := w.drawn + 1 }
def MT (L : Nat) : List Oper → Nat → List Nat
 | [], _ => []
 | o :: l, j => bif DI L j o then j :: MT L l (j + 1) else MT L l (j + 1)
def Qr (F : Nat → Prop) : List Nat → Prop
 | [] => False
 | i :: l => match l with | [] => F i | _ :: _ => F i ∧ Qr F l
def Ae {R : Type} (x : Option R) (Q : R → Prop) : Prop := ∃ r, x = some r ∧ Q r
def SG (P : Program) (call : Cl) (n : Nat) (ops : List Oper) (A : List Nat) (K : Env → World → Prop) : Nat → Nat → Env → World → MR → Prop
 | fu, L, e, w, pd => match Nat.beq (L + 1) (2 ^ ops.length) with
  | true => K e w
  | false => match fu with
   | 0 => False
   | fu + 1 => match Kc true L ops 0 with
    | some i => (match ops[i]? with
     | some o => (match DI L i o && (BT o.op && Mr ops A L i o ops 0) with
      | true => Ae (GX P call ops e o w) fun r => r.2 = w ∧ SG P call n ops A K fu (L ||| 2 ^ i) (put n e o.dst r.1) w (match Hu o.op with | true => pd | false => (i, fun u => GX P call ops e o u, r.1) :: pd)
      | false => False)
     | none => False)
    | none => Qr (fun i => match ops[i]? with
     | some o => Ae (GX P call ops e o w) fun r => Qq (A.getD i 0) r.2 pd ∧ SG P call n ops A K fu (L ||| 2 ^ i) (put n e o.dst r.1) r.2 pd
     | none => False) (MT L ops 0)
inductive Ex where
 | normal
 | exit (id : Nat)
 | ret
abbrev St := Ex × Env × World
open Classical in
noncomputable def SH {α : Type} (s : Nat → Option α) : Option α := if h : ∃ m r, s m = some r then s (Classical.choose h) else none
def EH (f : Env → World → Option St) : Nat → Env → World → Option St
 | 0, _, _ => none
 | m + 1, e, w => (f e w).bind fun r => match r.1 with | .normal => EH f m r.2.1 r.2.2 | _ => some r
noncomputable def NK (f : Env → World → Option St) (e : Env) (w : World) : Option St := SH fun m => EH f m e w
noncomputable def FT (P : Program) (call : Cl) (fid : FuncId) (n : Nat) : Code → Env → World → Option St
 | .skip, e, w => some (.normal, e, w)
 | .label _, e, w => some (.normal, e, w)
 | .region id ops draw, e, w => match draw with
  | false => (NI P call n ops.toList ops.toList e w).bind fun r => some (.normal, r.1, r.2)
  | true => (TA P call fid id n ops.toList e w).bind fun r => some (.normal, r.1, r.2)
 | .seq a b, e, w => (FT P call fid n a e w).bind fun r => match r.1 with | .normal => FT P call fid n b r.2.1 r.2.2 | _ => some r
 | .cond c a b, e, w => match val e c with
  | .bool true => FT P call fid n a e w
  | .bool false => FT P call fid n b e w
  | _ => none
 | .block id c, e, w => (FT P call fid n c e w).bind fun r => match r.1 with
  | .exit i => some ((bif Nat.beq i id then .normal else .exit i), r.2)
  | _ => some r
 | .loop c, e, w => NK (FT P call fid n c) e w
 | .exit id, e, w => some (.exit id, e, w)
 | .ret, e, w => some (.ret, e, w)
 | _, _, _ => none
noncomputable def MU (P : Program) (e : Env) (w : World) : ResultVar → Option Value
 | .tmp t => some (e t)
 | .cell a t => (ro ((Instr.loadAt t (e a)).run P w)).bind fun r => Ah (r.2 = w) (some r.1)
noncomputable def Qs (P : Program) (fn : Func) (e : Env) (w : World) : Option (Value × World) :=
 match fn.results.toList with
 | [] => some (.tuple #[], w)
 | [x] => (MU P e w x).bind fun v => some (v, w)
 | [x, y] => (MU P e w x).bind fun v => (MU P e w y).bind fun u => some (.tuple #[v, u], w)
 | [x, y, z] => (MU P e w x).bind fun v => (MU P e w y).bind fun u => (MU P e w z).bind fun t => some (.tuple #[v, u, t], w)
 | _ => none
noncomputable def TP (P : Program) (call : Cl) (f : FuncId) (args : Array Value) (w : World) : Option (Value × World) :=
 match P.funcs.toList[f]? with
 | some fn => match fn.body with
  | some c => (FT P call f fn.ntmps c (AL args) w).bind fun r => match r.1 with | .exit _ => none | _ => Qs P fn r.2.1 r.2.2
  | none => none
 | none => none
def CE (P : Program) (f : FuncId) (args : Array Value) (w : World) (r : Value × World) : Prop :=
 Calls P f args w fun e w' => e = .returned r.1 ∧ w' = r.2
open Classical in
/-- What a call of a function comes to, if it comes to an end. -/
noncomputable def EV (P : Program) : Cl := fun f args w =>
 if h : P.inits.idxOf? f = none ∧ ∃ r, CE P f args w r then some (Classical.choose h.2) else none
theorem MV {α : Type} {s : Nat → Option α} (hm : ∀ m r, s m = some r → s (m + 1) = some r) {m : Nat} {r : α} (h : s m = some r) : SH s = some r := by
 have up : ∀ m k r, s m = some r → s (m + k) = some r := by
  intro m k
  induction k with
  | zero => exact fun r h => h
  | succ k ih => exact fun r h => hm _ _ (ih r h)
 have he : ∃ m r, s m = some r := ⟨m, r, h⟩
 unfold SH
 rw [dif_pos he]
 obtain ⟨r', h'⟩ := Classical.choose_spec he
 have h1 := up _ m _ h'
 have h2 := up _ (Classical.choose he) _ h
 rw [Nat.add_comm] at h2
 rw [h']
 rw [h1] at h2
 exact h2
theorem OM {α : Type} {s : Nat → Option α} {r : α} (h : SH s = some r) : ∃ m, s m = some r := by
 unfold SH at h
 split at h
 ·exact ⟨_, h⟩
 ·contradiction
theorem Gi {f : Env → World → Option St} : ∀ m e w r, EH f m e w = some r → EH f (m + 1) e w = some r
 | 0, e, w, r, h => by simp [EH] at h
 | m + 1, e, w, r, h => by
  rw [EH] at h ⊢
  cases hf : f e w with
  | none => simp [hf] at h
  | some x =>
   simp only [hf, Option.bind_some] at h ⊢
   obtain ⟨y, e', w'⟩ := x
   cases y <;> simp only [] at h ⊢
   ·exact Gi m _ _ _ h
   ·exact h
   ·exact h
theorem Qt (f : Env → World → Option St) (e : Env) (w : World) : NK f e w = (f e w).bind fun r => match r.1 with | .normal => NK f r.2.1 r.2.2 | _ => some r := by
 apply Option.ext
 intro r
 constructor
 ·intro h
  obtain ⟨m, h⟩ := OM (show SH _ = some r from h)
  cases m with
  | zero => simp [EH] at h
  | succ m =>
   rw [EH] at h
   cases hf : f e w with
   | none => simp [hf] at h
   | some x =>
    simp only [hf, Option.bind_some] at h ⊢
    obtain ⟨y, e', w'⟩ := x
    cases y <;> simp only [] at h ⊢
    ·exact MV (fun m r => Gi m _ _ r) h
    ·exact h
    ·exact h
 ·intro h
  cases hf : f e w with
  | none => simp [hf] at h
  | some x =>
   simp only [hf, Option.bind_some] at h
   obtain ⟨y, e', w'⟩ := x
   cases y <;> simp only [] at h
   ·obtain ⟨m, h⟩ := OM (show SH _ = some r from h)
    exact MV (m := m + 1) (fun m r => Gi m _ _ r) (by rw [EH, hf]; exact h)
   ·exact MV (m := 1) (fun m r => Gi m _ _ r) (by rw [EH, hf]; exact h)
   ·exact MV (m := 1) (fun m r => Gi m _ _ r) (by rw [EH, hf]; exact h)
end Go.Ev
