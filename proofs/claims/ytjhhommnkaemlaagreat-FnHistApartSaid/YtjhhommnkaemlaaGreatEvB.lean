/- A part of the proof: an evaluator of the model, its laws, and contracts of functions; no condition. -/
import Derived.Test.YtjhhommnkaemlaaGreatEvA
set_option linter.unusedVariables false
set_option linter.unusedSimpArgs false
set_option linter.deprecated false
namespace Go.Ev
open Go
def NH (ops : List Oper) (e : Env) (j : Nat) : Value :=
 match ops[j]? with
 | some o => match o.dst with | some d => e d | none => undef
 | none => undef
def IB : Value → Bool → Bool
 | .bool true, t => t
 | .bool false, t => !t
 | _, _ => false
def Aq (v : Value) (t : Bool) (x : Option (Value × World)) (w : World) : Option (Value × World) :=
 match IB v t with
 | true => x
 | false => some (undef, w)
def Hy (P : Program) (call : Cl) (ops : List Oper) (e : Env) (o : Oper) (w : World) : Option (Value × World) :=
 match o.guard with
 | none => QZ P call e o w
 | some (j, t) => Aq (NH ops e j) t (QZ P call e o w) w
def Oz (P : Program) (call : Cl) (n : Nat) (ops : List Oper) : List Oper → Env → World → Option (Env × World)
 | [], e, w => some (e, w)
 | o :: l, e, w => (Hy P call ops e o w).bind fun r => Oz P call n ops l (put n e o.dst r.1) r.2
def EH (ed : Edge) : Bool := match ed.ground with | .textOnly _ => false | .gcOnly _ => false | _ => true
def GI : List Edge → Nat
 | [] => 0
 | ed :: l => bif EH ed then 2 ^ ed.on ||| GI l else GI l
def NI (A : List Nat) : List Edge → Nat
 | [] => 0
 | ed :: l => bif EH ed then (2 ^ ed.on ||| A.getD ed.on 0) ||| NI A l else NI A l
def IC : List Oper → List Nat → List Nat
 | [], A => A
 | o :: l, A => IC l (A ++ [NI A o.after.toList])
def GL (A : List Nat) : List Oper → List Nat → Bool
 | o :: l, x :: r => Nat.beq x (NI A o.after.toList) && GL A l r
 | [], [] => true
 | _, _ => false
def Ca : Op → Bool
 | .move _ | .assign _ | .pick .. | .build .. | .load .. | .nilCheck _ | .binOp .. | .unOp .. | .convert .. | .makeInterface .. | .makeFunc .. | .slice ..
 | .fieldAddr .. | .field .. | .indexAddr .. | .index .. | .lookup .. | .typeAssert .. | .extract .. => true
 | .call ⟨.builtin .len, _, _⟩ | .call ⟨.builtin .cap, _, _⟩ | .call ⟨.builtin .max, _, _⟩ | .call ⟨.builtin .min, _, _⟩ => true
 | _ => false
def HW : Op → Bool
 | .move _ | .assign _ | .pick .. | .makeFunc .. => true
 | _ => false
def tmpsOf : List Operand → List Nat
 | [] => []
 | .tmp t :: l => t :: tmpsOf l
 | _ :: l => tmpsOf l
def looks (ops : List Oper) (o : Oper) : List Nat :=
 tmpsOf o.op.operands.toList ++ (match o.guard with | some (j, _) => (match ops[j]? with | some x => x.dst.toList | none => []) | none => [])
def P7 (d : Option Nat) (l : List Nat) : Bool := match d with | some d => l.all fun t => !Nat.beq t d | none => true
def Pr (d d' : Option Nat) : Bool := match d, d' with | some a, some b => !Nat.beq a b | _, _ => true
def NJ (ops : List Oper) (x y : Oper) : Bool := P7 x.dst (looks ops y) && P7 y.dst (looks ops x) && Pr x.dst y.dst
def DZ (L : Nat) (i : Nat) (o : Oper) : Bool := !L.testBit i && Nat.beq (GI o.after.toList &&& L) (GI o.after.toList)
def P8 (L : Nat) (i : Nat) : List Oper → Nat → Bool
 | [], _ => true
 | o :: l, j => (Nat.beq j i || !DZ L j o) && P8 L i l (j + 1)
def Nf (ops : List Oper) (A : List Nat) (L : Nat) (i : Nat) (oi : Oper) : List Oper → Nat → Bool
 | [], _ => true
 | o :: l, j => (Nat.beq j i || L.testBit j || (A.getD j 0).testBit i || NJ ops oi o) && Nf ops A L i oi l (j + 1)
def KM (q : Bool) (L : Nat) : List Oper → Nat → Option Nat
 | [], _ => none
 | o :: l, j => bif DZ L j o && (!q || Ca o.op) then some j else KM q L l (j + 1)
def UR (ops : List Oper) (L : Nat) : Option Nat := match KM true L ops 0 with | some j => some j | none => KM false L ops 0
def NK (ops : List Oper) : Nat → Nat → List Nat
 | 0, _ => []
 | f + 1, L => match UR ops L with
  | some i => i :: NK ops f (L ||| 2 ^ i)
  | none => []
def GM (ops : List Oper) (A : List Nat) : List Nat → Nat → Bool
 | [], L => Nat.beq (L + 1) (2 ^ ops.length)
 | i :: l, L => (match ops[i]? with
  | some o => DZ L i o && (bif Ca o.op then Nf ops A L i o ops 0 else P8 L i ops 0)
  | none => false) && GM ops A l (L ||| 2 ^ i)
abbrev NL := List (Nat × (World → Option (Value × World)) × Value)
def Rf (a : Nat) (w : World) : NL → Prop
 | [] => True
 | p :: l => (match a.testBit p.1 with | true => True | false => p.2.1 w = some (p.2.2, w)) ∧ Rf a w l
open Classical in
noncomputable def Ah {R : Type} (p : Prop) (x : Option R) : Option R := if p then x else none
noncomputable def OA (P : Program) (call : Cl) (n : Nat) (ops : List Oper) (A : List Nat) : List Nat → Env → World → NL → Option (Env × World)
 | [], e, w, _ => some (e, w)
 | i :: l, e, w, pd => match ops[i]? with
  | none => none
  | some o => (Hy P call ops e o w).bind fun r => match Ca o.op with
   | true => Ah (r.2 = w) (OA P call n ops A l (put n e o.dst r.1) w (match HW o.op with | true => pd | false => (i, fun u => Hy P call ops e o u, r.1) :: pd))
   | false => Ah (Rf (A.getD i 0) r.2 pd) (OA P call n ops A l (put n e o.dst r.1) r.2 pd)
def opsL (P : Program) (call : Cl) (n : Nat) (ops : List Oper) : List Nat → Env → World → Option (Env × World)
 | [], e, w => some (e, w)
 | i :: l, e, w => match ops[i]? with
  | none => opsL P call n ops l e w
  | some o => (Hy P call ops e o w).bind fun r => opsL P call n ops l (put n e o.dst r.1) r.2
def Qu (ops : List Oper) : Bool := GL (IC ops []) ops (IC ops []) && GM ops (IC ops []) (NK ops ops.length 0) 0
noncomputable def UC (P : Program) (call : Cl) (fid : FuncId) (id : Nat) (n : Nat) (ops : List Oper) (e : Env) (w : World) : Option (Env × World) :=
 match Qu ops with
 | true => OA P call n ops (IC ops []) (NK ops ops.length 0) e { w with drawn := w.drawn + 1 } []
 | false => opsL P call n ops (Region.schedule true ops.toArray (w.tape w.drawn (.order fid id))) e { w with drawn := w.drawn + 1 }
def NN (L : Nat) : List Oper → Nat → List Nat
 | [], _ => []
 | o :: l, j => bif DZ L j o then j :: NN L l (j + 1) else NN L l (j + 1)
def Rg (F : Nat → Prop) : List Nat → Prop
 | [] => False
 | i :: l => match l with | [] => F i | _ :: _ => F i ∧ Rg F l
def Ae {R : Type} (x : Option R) (Q : R → Prop) : Prop := ∃ r, x = some r ∧ Q r
def TI (P : Program) (call : Cl) (n : Nat) (ops : List Oper) (A : List Nat) (K : Env → World → Prop) : Nat → Nat → Env → World → NL → Prop
 | fu, L, e, w, pd => match Nat.beq (L + 1) (2 ^ ops.length) with
  | true => K e w
  | false => match fu with
   | 0 => False
   | fu + 1 => match KM true L ops 0 with
    | some i => (match ops[i]? with
     | some o => (match DZ L i o && (Ca o.op && Nf ops A L i o ops 0) with
      | true => Ae (Hy P call ops e o w) fun r => r.2 = w ∧ TI P call n ops A K fu (L ||| 2 ^ i) (put n e o.dst r.1) w (match HW o.op with | true => pd | false => (i, fun u => Hy P call ops e o u, r.1) :: pd)
      | false => False)
     | none => False)
    | none => Rg (fun i => match ops[i]? with
     | some o => Ae (Hy P call ops e o w) fun r => Rf (A.getD i 0) r.2 pd ∧ TI P call n ops A K fu (L ||| 2 ^ i) (put n e o.dst r.1) r.2 pd
     | none => False) (NN L ops 0)
inductive Ex where
 | normal
 | exit (id : Nat)
 | ret
abbrev St := Ex × Env × World
open Classical in
noncomputable def TJ {α : Type} (s : Nat → Option α) : Option α := if h : ∃ m r, s m = some r then s (Classical.choose h) else none
def Fi (f : Env → World → Option St) : Nat → Env → World → Option St
 | 0, _, _ => none
 | m + 1, e, w => (f e w).bind fun r => match r.1 with | .normal => Fi f m r.2.1 r.2.2 | _ => some r
noncomputable def OB (f : Env → World → Option St) (e : Env) (w : World) : Option St := TJ fun m => Fi f m e w
noncomputable def Gp (P : Program) (call : Cl) (fid : FuncId) (n : Nat) : Code → Env → World → Option St
 | .skip, e, w => some (.normal, e, w)
 | .label _, e, w => some (.normal, e, w)
 | .region id ops draw, e, w => match draw with
  | false => (Oz P call n ops.toList ops.toList e w).bind fun r => some (.normal, r.1, r.2)
  | true => (UC P call fid id n ops.toList e w).bind fun r => some (.normal, r.1, r.2)
 | .seq a b, e, w => (Gp P call fid n a e w).bind fun r => match r.1 with | .normal => Gp P call fid n b r.2.1 r.2.2 | _ => some r
 | .cond c a b, e, w => match val e c with
  | .bool true => Gp P call fid n a e w
  | .bool false => Gp P call fid n b e w
  | _ => none
 | .block id c, e, w => (Gp P call fid n c e w).bind fun r => match r.1 with
  | .exit i => some ((bif Nat.beq i id then .normal else .exit i), r.2)
  | _ => some r
 | .loop c, e, w => OB (Gp P call fid n c) e w
 | .exit id, e, w => some (.exit id, e, w)
 | .ret, e, w => some (.ret, e, w)
 | _, _, _ => none
noncomputable def NO (P : Program) (e : Env) (w : World) : ResultVar → Option Value
 | .tmp t => some (e t)
 | .cell a t => (ro ((Instr.loadAt t (e a)).run P w)).bind fun r => Ah (r.2 = w) (some r.1)
noncomputable def Rh (P : Program) (fn : Func) (e : Env) (w : World) : Option (Value × World) :=
 match fn.results.toList with
 | [] => some (.tuple #[], w)
 | [x] => (NO P e w x).bind fun v => some (v, w)
 | [x, y] => (NO P e w x).bind fun v => (NO P e w y).bind fun u => some (.tuple #[v, u], w)
 | [x, y, z] => (NO P e w x).bind fun v => (NO P e w y).bind fun u => (NO P e w z).bind fun t => some (.tuple #[v, u, t], w)
 | _ => none
noncomputable def US (P : Program) (call : Cl) (f : FuncId) (args : Array Value) (w : World) : Option (Value × World) :=
 match P.funcs.toList[f]? with
 | some fn => match fn.body with
  | some c => (Gp P call f fn.ntmps c (AM args) w).bind fun r => match r.1 with | .exit _ => none | _ => Rh P fn r.2.1 r.2.2
  | none => none
 | none => none
def CE (P : Program) (f : FuncId) (args : Array Value) (w : World) (r : Value × World) : Prop :=
 Calls P f args w fun e w' => e = .returned r.1 ∧ w' = r.2
open Classical in
/-- What a call of a function comes to, if it comes to an end. -/
noncomputable def EV (P : Program) : Cl := fun f args w =>
 if h : P.inits.idxOf? f = none ∧ ∃ r, CE P f args w r then some (Classical.choose h.2) else none
theorem NP {α : Type} {s : Nat → Option α} (hm : ∀ m r, s m = some r → s (m + 1) = some r) {m : Nat} {r : α} (h : s m = some r) : TJ s = some r := by
 have up : ∀ m k r, s m = some r → s (m + k) = some r := by
  intro m k
  induction k with
  | zero => exact fun r h => h
  | succ k ih => exact fun r h => hm _ _ (ih r h)
 have he : ∃ m r, s m = some r := ⟨m, r, h⟩
 unfold TJ
 rw [dif_pos he]
 obtain ⟨r', h'⟩ := Classical.choose_spec he
 have h1 := up _ m _ h'
 have h2 := up _ (Classical.choose he) _ h
 rw [Nat.add_comm] at h2
 rw [h']
 rw [h1] at h2
 exact h2
theorem Ps {α : Type} {s : Nat → Option α} {r : α} (h : TJ s = some r) : ∃ m, s m = some r := by
 unfold TJ at h
 split at h
 ·exact ⟨_, h⟩
 ·contradiction
theorem GN {f : Env → World → Option St} : ∀ m e w r, Fi f m e w = some r → Fi f (m + 1) e w = some r
 | 0, e, w, r, h => by simp [Fi] at h
 | m + 1, e, w, r, h => by
  rw [Fi] at h ⊢
  cases hf : f e w with
  | none => simp [hf] at h
  | some x =>
   simp only [hf, Option.bind_some] at h ⊢
   obtain ⟨y, e', w'⟩ := x
   cases y <;> simp only [] at h ⊢
   ·exact GN m _ _ _ h
   ·exact h
   ·exact h
theorem Ri (f : Env → World → Option St) (e : Env) (w : World) : OB f e w = (f e w).bind fun r => match r.1 with | .normal => OB f r.2.1 r.2.2 | _ => some r := by
 apply Option.ext
 intro r
 constructor
 ·intro h
  obtain ⟨m, h⟩ := Ps (show TJ _ = some r from h)
  cases m with
  | zero => simp [Fi] at h
  | succ m =>
   rw [Fi] at h
   cases hf : f e w with
   | none => simp [hf] at h
   | some x =>
    simp only [hf, Option.bind_some] at h ⊢
    obtain ⟨y, e', w'⟩ := x
    cases y <;> simp only [] at h ⊢
    ·exact NP (fun m r => GN m _ _ r) h
    ·exact h
    ·exact h
 ·intro h
  cases hf : f e w with
  | none => simp [hf] at h
  | some x =>
   simp only [hf, Option.bind_some] at h
   obtain ⟨y, e', w'⟩ := x
   cases y <;> simp only [] at h
   ·obtain ⟨m, h⟩ := Ps (show TJ _ = some r from h)
    exact NP (m := m + 1) (fun m r => GN m _ _ r) (by rw [Fi, hf]; exact h)
   ·exact NP (m := 1) (fun m r => GN m _ _ r) (by rw [Fi, hf]; exact h)
   ·exact NP (m := 1) (fun m r => GN m _ _ r) (by rw [Fi, hf]; exact h)
end Go.Ev
