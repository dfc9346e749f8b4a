/- A part of the proof, without conditions. -/
import Derived.Test.YtjhhommnkaemlaaGreatEvA
set_option linter.unusedVariables false
set_option linter.unusedSimpArgs false
set_option linter.deprecated false
namespace Go.Ev
open Go
def NO (ops : List Oper) (e : Env) (j : Nat) : Value :=
 match ops[j]? with
 | some o => match o.dst with | some d => e d | none => undef
 | none => undef
def Ix : Value → Bool → Bool
 | .bool true, t => t
 | .bool false, t => !t
 | _, _ => false
def Ao (v : Value) (t : Bool) (x : Option (Value × World)) (w : World) : Option (Value × World) :=
 match Ix v t with
 | true => x
 | false => some (undef, w)
def Hx (P : Program) (call : Cl) (ops : List Oper) (e : Env) (o : Oper) (w : World) : Option (Value × World) :=
 match o.guard with
 | none => Q1 P call e o w
 | some (j, t) => Ao (NO ops e j) t (Q1 P call e o w) w
def OE (P : Program) (call : Cl) (n : Nat) (ops : List Oper) : List Oper → Env → World → Option (Env × World)
 | [], e, w => some (e, w)
 | o :: l, e, w => (Hx P call ops e o w).bind fun r => OE P call n ops l (put n e o.dst r.1) r.2
def EJ (ed : Edge) : Bool := match ed.ground with | .textOnly _ => false | .gcOnly _ => false | _ => true
def GG : List Edge → Nat
 | [] => 0
 | ed :: l => bif EJ ed then 2 ^ ed.on ||| GG l else GG l
def NP (A : List Nat) : List Edge → Nat
 | [] => 0
 | ed :: l => bif EJ ed then (2 ^ ed.on ||| A.getD ed.on 0) ||| NP A l else NP A l
def Iy : List Oper → List Nat → List Nat
 | [], A => A
 | o :: l, A => Iy l (A ++ [NP A o.after.toList])
def GK (A : List Nat) : List Oper → List Nat → Bool
 | o :: l, x :: r => Nat.beq x (NP A o.after.toList) && GK A l r
 | [], [] => true
 | _, _ => false
def Cb : Op → Bool
 | .move _ | .assign _ | .pick .. | .build .. | .load .. | .nilCheck _ | .binOp .. | .unOp .. | .convert .. | .makeInterface .. | .makeFunc .. | .slice ..
 | .fieldAddr .. | .field .. | .indexAddr .. | .index .. | .lookup .. | .typeAssert .. | .extract .. => true
 | .call ⟨.builtin .len, _, _⟩ | .call ⟨.builtin .cap, _, _⟩ | .call ⟨.builtin .max, _, _⟩ | .call ⟨.builtin .min, _, _⟩ => true
 | _ => false
def HT : Op → Bool
 | .move _ | .assign _ | .pick .. | .makeFunc .. => true
 | _ => false
def tmpsOf : List Operand → List Nat
 | [] => []
 | .tmp t :: l => t :: tmpsOf l
 | _ :: l => tmpsOf l
def looks (ops : List Oper) (o : Oper) : List Nat :=
 tmpsOf o.op.operands.toList ++ (match o.guard with | some (j, _) => (match ops[j]? with | some x => x.dst.toList | none => []) | none => [])
def P8 (d : Option Nat) (l : List Nat) : Bool := match d with | some d => l.all fun t => !Nat.beq t d | none => true
def Px (d d' : Option Nat) : Bool := match d, d' with | some a, some b => !Nat.beq a b | _, _ => true
def NQ (ops : List Oper) (x y : Oper) : Bool := P8 x.dst (looks ops y) && P8 y.dst (looks ops x) && Px x.dst y.dst
def D8 (L : Nat) (i : Nat) (o : Oper) : Bool := !L.testBit i && Nat.beq (GG o.after.toList &&& L) (GG o.after.toList)
def P9 (L : Nat) (i : Nat) : List Oper → Nat → Bool
 | [], _ => true
 | o :: l, j => (Nat.beq j i || !D8 L j o) && P9 L i l (j + 1)
def Nk (ops : List Oper) (A : List Nat) (L : Nat) (i : Nat) (oi : Oper) : List Oper → Nat → Bool
 | [], _ => true
 | o :: l, j => (Nat.beq j i || L.testBit j || (A.getD j 0).testBit i || NQ ops oi o) && Nk ops A L i oi l (j + 1)
def KP (q : Bool) (L : Nat) : List Oper → Nat → Option Nat
 | [], _ => none
 | o :: l, j => bif D8 L j o && (!q || Cb o.op) then some j else KP q L l (j + 1)
def U5 (ops : List Oper) (L : Nat) : Option Nat := match KP true L ops 0 with | some j => some j | none => KP false L ops 0
def NR (ops : List Oper) : Nat → Nat → List Nat
 | 0, _ => []
 | f + 1, L => match U5 ops L with
  | some i => i :: NR ops f (L ||| 2 ^ i)
  | none => []
def GL (ops : List Oper) (A : List Nat) : List Nat → Nat → Bool
 | [], L => Nat.beq (L + 1) (2 ^ ops.length)
 | i :: l, L => (match ops[i]? with
  | some o => D8 L i o && (bif Cb o.op then Nk ops A L i o ops 0 else P9 L i ops 0)
  | none => false) && GL ops A l (L ||| 2 ^ i)
abbrev NS := List (Nat × (World → Option (Value × World)) × Value)
def Rg (a : Nat) (w : World) : NS → Prop
 | [] => True
 | p :: l => (match a.testBit p.1 with | true => True | false => p.2.1 w = some (p.2.2, w)) ∧ Rg a w l
open Classical in
noncomputable def Ah {R : Type} (p : Prop) (x : Option R) : Option R := if p then x else none
noncomputable def OG (P : Program) (call : Cl) (n : Nat) (ops : List Oper) (A : List Nat) : List Nat → Env → World → NS → Option (Env × World)
 | [], e, w, _ => some (e, w)
 | i :: l, e, w, pd => match ops[i]? with
  | none => none
  | some o => (Hx P call ops e o w).bind fun r => match Cb o.op with
   | true => Ah (r.2 = w) (OG P call n ops A l (put n e o.dst r.1) w (match HT o.op with | true => pd | false => (i, fun u => Hx P call ops e o u, r.1) :: pd))
   | false => Ah (Rg (A.getD i 0) r.2 pd) (OG P call n ops A l (put n e o.dst r.1) r.2 pd)
def opsL (P : Program) (call : Cl) (n : Nat) (ops : List Oper) : List Nat → Env → World → Option (Env × World)
 | [], e, w => some (e, w)
 | i :: l, e, w => match ops[i]? with
  | none => opsL P call n ops l e w
  | some o => (Hx P call ops e o w).bind fun r => opsL P call n ops l (put n e o.dst r.1) r.2
def Qv (ops : List Oper) : Bool := GK (Iy ops []) ops (Iy ops []) && GL ops (Iy ops []) (NR ops ops.length 0) 0
noncomputable def UM (P : Program) (call : Cl) (fid : FuncId) (id : Nat) (n : Nat) (ops : List Oper) (e : Env) (w : World) : Option (Env × World) :=
 match Qv ops with
 | true => OG P call n ops (Iy ops []) (NR ops ops.length 0) e { w with drawn := w.drawn + 1 } []
 | false => opsL P call n ops (Region.schedule true ops.toArray (w.tape w.drawn (.order fid id))) e { w with drawn := w.drawn + 1 }
def NT (L : Nat) : List Oper → Nat → List Nat
 | [], _ => []
 | o :: l, j => bif D8 L j o then j :: NT L l (j + 1) else NT L l (j + 1)
def Rh (F : Nat → Prop) : List Nat → Prop
 | [] => False
 | i :: l => match l with | [] => F i | _ :: _ => F i ∧ Rh F l
def Ae {R : Type} (x : Option R) (Q : R → Prop) : Prop := ∃ r, x = some r ∧ Q r
def TR (P : Program) (call : Cl) (n : Nat) (ops : List Oper) (A : List Nat) (K : Env → World → Prop) : Nat → Nat → Env → World → NS → Prop
 | fu, L, e, w, pd => match Nat.beq (L + 1) (2 ^ ops.length) with
  | true => K e w
  | false => match fu with
   | 0 => False
   | fu + 1 => match KP true L ops 0 with
    | some i => (match ops[i]? with
     | some o => (match D8 L i o && (Cb o.op && Nk ops A L i o ops 0) with
      | true => Ae (Hx P call ops e o w) fun r => r.2 = w ∧ TR P call n ops A K fu (L ||| 2 ^ i) (put n e o.dst r.1) w (match HT o.op with | true => pd | false => (i, fun u => Hx P call ops e o u, r.1) :: pd)
      | false => False)
     | none => False)
    | none => Rh (fun i => match ops[i]? with
     | some o => Ae (Hx P call ops e o w) fun r => Rg (A.getD i 0) r.2 pd ∧ TR P call n ops A K fu (L ||| 2 ^ i) (put n e o.dst r.1) r.2 pd
     | none => False) (NT L ops 0)
inductive Ex where
 | normal
 | exit (id : Nat)
 | ret
abbrev St := Ex × Env × World
open Classical in
noncomputable def TS {α : Type} (s : Nat → Option α) : Option α := if h : ∃ m r, s m = some r then s (Classical.choose h) else none
def Fi (f : Env → World → Option St) : Nat → Env → World → Option St
 | 0, _, _ => none
 | m + 1, e, w => (f e w).bind fun r => match r.1 with | .normal => Fi f m r.2.1 r.2.2 | _ => some r
noncomputable def OH (f : Env → World → Option St) (e : Env) (w : World) : Option St := TS fun m => Fi f m e w
noncomputable def Gq (P : Program) (call : Cl) (fid : FuncId) (n : Nat) : Code → Env → World → Option St
 | .skip, e, w => some (.normal, e, w)
 | .label _, e, w => some (.normal, e, w)
 | .region id ops draw, e, w => match draw with
  | false => (OE P call n ops.toList ops.toList e w).bind fun r => some (.normal, r.1, r.2)
  | true => (UM P call fid id n ops.toList e w).bind fun r => some (.normal, r.1, r.2)
 | .seq a b, e, w => (Gq P call fid n a e w).bind fun r => match r.1 with | .normal => Gq P call fid n b r.2.1 r.2.2 | _ => some r
 | .cond c a b, e, w => match val e c with
  | .bool true => Gq P call fid n a e w
  | .bool false => Gq P call fid n b e w
  | _ => none
 | .block id c, e, w => (Gq P call fid n c e w).bind fun r => match r.1 with
  | .exit i => some ((bif Nat.beq i id then .normal else .exit i), r.2)
  | _ => some r
 | .loop c, e, w => OH (Gq P call fid n c) e w
 | .exit id, e, w => some (.exit id, e, w)
 | .ret, e, w => some (.ret, e, w)
 | _, _, _ => none
noncomputable def NU (P : Program) (e : Env) (w : World) : ResultVar → Option Value
 | .tmp t => some (e t)
 | .cell a t => (ro ((Instr.loadAt t (e a)).run P w)).bind fun r => Ah (r.2 = w) (some r.1)
noncomputable def Ri (P : Program) (fn : Func) (e : Env) (w : World) : Option (Value × World) :=
 match fn.results.toList with
 | [] => some (.tuple #[], w)
 | [x] => (NU P e w x).bind fun v => some (v, w)
 | [x, y] => (NU P e w x).bind fun v => (NU P e w y).bind fun u => some (.tuple #[v, u], w)
 | [x, y, z] => (NU P e w x).bind fun v => (NU P e w y).bind fun u => (NU P e w z).bind fun t => some (.tuple #[v, u, t], w)
 | _ => none
noncomputable def U6 (P : Program) (call : Cl) (f : FuncId) (args : Array Value) (w : World) : Option (Value × World) :=
 match P.funcs.toList[f]? with
 | some fn => match fn.body with
  | some c => (Gq P call f fn.ntmps c (AN args) w).bind fun r => match r.1 with | .exit _ => none | _ => Ri P fn r.2.1 r.2.2
  | none => none
 | none => none
def CE (P : Program) (f : FuncId) (args : Array Value) (w : World) (r : Value × World) : Prop :=
 Calls P f args w fun e w' => e = .returned r.1 ∧ w' = r.2
open Classical in
/-- What a call of a function comes to, if it comes to an end. -/
noncomputable def EV (P : Program) : Cl := fun f args w =>
 if h : P.inits.idxOf? f = none ∧ ∃ r, CE P f args w r then some (Classical.choose h.2) else none
theorem NV {α : Type} {s : Nat → Option α} (hm : ∀ m r, s m = some r → s (m + 1) = some r) {m : Nat} {r : α} (h : s m = some r) : TS s = some r := by
 have up : ∀ m k r, s m = some r → s (m + k) = some r := by
  intro m k
  induction k with
  | zero => exact fun r h => h
  | succ k ih => exact fun r h => hm _ _ (ih r h)
 have he : ∃ m r, s m = some r := ⟨m, r, h⟩
 unfold TS
 rw [dif_pos he]
 obtain ⟨r', h'⟩ := Classical.choose_spec he
 have h1 := up _ m _ h'
 have h2 := up _ (Classical.choose he) _ h
 rw [Nat.add_comm] at h2
 rw [h']
 rw [h1] at h2
 exact h2
theorem Py {α : Type} {s : Nat → Option α} {r : α} (h : TS s = some r) : ∃ m, s m = some r := by
 unfold TS at h
 split at h
 ·exact ⟨_, h⟩
 ·contradiction
theorem GM {f : Env → World → Option St} : ∀ m e w r, Fi f m e w = some r → Fi f (m + 1) e w = some r
 | 0, e, w, r, h => by simp [Fi] at h
 | m + 1, e, w, r, h => by
  rw [Fi] at h ⊢
  cases hf : f e w with
  | none => simp [hf] at h
  | some x =>
   simp only [hf, Option.bind_some] at h ⊢
   obtain ⟨y, e', w'⟩ := x
   cases y <;> simp only [] at h ⊢
   ·exact GM m _ _ _ h
   ·exact h
   ·exact h
theorem Rj (f : Env → World → Option St) (e : Env) (w : World) : OH f e w = (f e w).bind fun r => match r.1 with | .normal => OH f r.2.1 r.2.2 | _ => some r := by
 apply Option.ext
 intro r
 constructor
 ·intro h
  obtain ⟨m, h⟩ := Py (show TS _ = some r from h)
  cases m with
  | zero => simp [Fi] at h
  | succ m =>
   rw [Fi] at h
   cases hf : f e w with
   | none => simp [hf] at h
   | some x =>
    simp only [hf, Option.bind_some] at h ⊢
    obtain ⟨y, e', w'⟩ := x
    cases y <;> simp only [] at h ⊢
    ·exact NV (fun m r => GM m _ _ r) h
    ·exact h
    ·exact h
 ·intro h
  cases hf : f e w with
  | none => simp [hf] at h
  | some x =>
   simp only [hf, Option.bind_some] at h
   obtain ⟨y, e', w'⟩ := x
   cases y <;> simp only [] at h
   ·obtain ⟨m, h⟩ := Py (show TS _ = some r from h)
    exact NV (m := m + 1) (fun m r => GM m _ _ r) (by rw [Fi, hf]; exact h)
   ·exact NV (m := 1) (fun m r => GM m _ _ r) (by rw [Fi, hf]; exact h)
   ·exact NV (m := 1) (fun m r => GM m _ _ r) (by rw [Fi, hf]; exact h)
end Go.Ev
