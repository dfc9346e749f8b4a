/- A part of the proof, without conditions. -/
import Derived.Calls
import Derived.Orders
import Derived.Laws.Sem
set_option linter.unusedVariables false
set_option linter.unusedSimpArgs false
set_option linter.deprecated false
namespace Go.Ev
open Go
theorem Ad {p : Prop} (h : p := by omega) : p := h
theorem AD {p : Prop} (h : p := by decide) : p := h
abbrev Env := Nat → Value
def UB (e : Env) (d : Nat) (v : Value) : Env := fun t => bif Nat.beq t d then v else e t
def put (n : Nat) (e : Env) : Option Nat → Value → Env
 | none, _ => e
 | some d, v => bif Nat.blt d n then UB e d v else e
def val (e : Env) : Operand → Value
 | .tmp t => e t
 | .const v => v
 | .global g => .pointer (some ⟨g, 0, none⟩)
 | .func f => .func (.func f) #[] #[]
def Dc (e : Env) (xs : Array Operand) : Array Value := (xs.toList.map (val e)).toArray
def AO (args : Array Value) : Env := fun t => (args.toList[t]?).getD undef
abbrev Cl := FuncId → Array Value → World → Option (Value × World)
def ro : Result Value → Option (Value × World)
 | .ok v w => some (v, w)
 | .halt _ _ => none
def rs : Result Unit → Option (Value × World)
 | .ok _ w => some (undef, w)
 | .halt _ _ => none
def nx (call : Cl) : Result Next → Option (Value × World)
 | .ok (.value v) w => some (v, w)
 | .ok .skip w => some (undef, w)
 | .ok (.enter f args) w => call f args w
 | _ => none
def W6 (P : Program) (call : Cl) (g : FuncId) (args : Array Value) (w : World) : Option (Value × World) :=
 match P.funcs.toList[g]? with
 | some fn => match fn.body with
  | some _ => call g args w
  | none => nx call ((callFunc g args).run P w)
 | none => none
def Tc (P : Program) (call : Cl) (f : Value) (args : Array Value) (w : World) : Option (Value × World) :=
 match f with
 | .func (.func g) first cap => W6 P call g (first.toList ++ (args.toList ++ cap.toList)).toArray w
 | _ => none
def Jg (e : Env) (ps : Array (Nat × Operand)) : Array (Nat × Value) := (ps.toList.map fun p => (p.1, val e p.2)).toArray
def QS (e : Env) : Option Operand → Option Value
 | none => none
 | some x => some (val e x)
def Ax : Value → Value → Value → World → Option (Value × World)
 | .bool true, a, _, w => some (a, w)
 | .bool false, _, b, w => some (b, w)
 | _, _, _, _ => none
def R8 (P : Program) (call : Cl) (e : Env) (o : Oper) (w : World) : Option (Value × World) :=
 match o.op with
 | .move x => some (val e x, w)
 | .assign x => some (val e x, w)
 | .pick c a b => Ax (val e c) (val e a) (val e b) w
 | .alloc t => ro ((Instr.alloc t true (.tuple #[])).run P w)
 | .box t x => ro ((Instr.box t (val e x)).run P w)
 | .build t ps => ro ((Instr.build t (Jg e ps)).run P w)
 | .buildSlice t n ps => ro ((Instr.buildSlice t n (Jg e ps)).run P w)
 | .load t a => ro ((Instr.loadAt t (val e a)).run P w)
 | .store t a x => rs ((Instr.storeAt t (val e a) (val e x)).run P w)
 | .nilCheck x => nx call ((execOp (val e) o).run P w)
 | .binOp op t x y u => ro ((do eqGuard op t x y (val e x) (val e y); binOp op t (val e x) (val e y) : Sem Value).run P w)
 | .unOp op _ x => ro ((Op.unary op (val e x)).run P w)
 | .convert s d x => ro ((convert s d (val e x)).run P w)
 | .makeInterface t x => ro ((Instr.makeInterface t (val e x)).run P w)
 | .makeFunc fn first cap => some (.func fn (Dc e first) (Dc e cap), w)
 | .makeMap t r => ro ((Instr.makeMap t (QS e r)).run P w)
 | .makeSlice t l c => ro ((Instr.makeSlice t (val e l) (val e c)).run P w)
 | .slice t x lo hi mx => ro ((Instr.sliceAt t (val e x) (QS e lo) (QS e hi) (QS e mx)).run P w)
 | .fieldAddr s x f => ro ((Instr.fieldAt s (val e x) f).run P w)
 | .field s x f => ro ((Instr.field s (val e x) f).run P w)
 | .indexAddr t x i => ro ((Instr.indexAt t (val e x) (val e i)).run P w)
 | .index t x i => ro ((Instr.index t (val e x) (val e i)).run P w)
 | .lookup t x i ok => ro ((Instr.lookup t (val e x) (val e i) ok).run P w)
 | .mapUpdate t m k x => rs ((Instr.mapUpdate t (val e m) (val e k) (val e x)).run P w)
 | .range t x => ro ((Instr.range t (val e x)).run P w)
 | .entry x => ro ((Instr.entry (val e x)).run P w)
 | .next it s => ro ((Instr.next (val e it) s o.type).run P w)
 | .typeAssert x t u ok => ro ((Instr.typeAssert (val e x) t u ok).run P w)
 | .extract t i => ro ((Instr.extract (val e t) i).run P w)
 | .call ⟨.value (.func g), args, _⟩ => W6 P call g (Dc e args) w
 | .call ⟨.value f, args, _⟩ => Tc P call (val e f) (Dc e args) w
 | .call ⟨.builtin .append, args, ts⟩ => ro ((Builtin.append_ ts o.type (Dc e args)).run P w)
 | .call ⟨.builtin .len, args, ts⟩ => ro ((Builtin.len_ ts o.type (Dc e args)).run P w)
 | .call ⟨.builtin .cap, args, ts⟩ => ro ((Builtin.cap_ ts o.type (Dc e args)).run P w)
 | .call ⟨.builtin .copy, args, ts⟩ => ro ((Builtin.copy_ ts o.type (Dc e args)).run P w)
 | .call ⟨.builtin .clear, args, ts⟩ => ro ((Builtin.clear_ ts o.type (Dc e args)).run P w)
 | .call ⟨.builtin .max, args, ts⟩ => ro ((Builtin.max_ ts o.type (Dc e args)).run P w)
 | .call ⟨.builtin .min, args, ts⟩ => ro ((Builtin.min_ ts o.type (Dc e args)).run P w)
 | .call c => nx call ((execOp (val e) o).run P w)
 | _ => none
theorem JD (e : Env) (xs : Array Operand) : xs.map (val e) = Dc e xs := by
 apply Array.ext'; simp [Dc]
theorem OM (e : Env) (ps : Array (Nat × Operand)) : (ps.map fun (i, x) => (i, val e x)) = Jg e ps := by
 apply Array.ext'; simp [Jg]
theorem LK (e : Env) (r : Option Operand) : r.map (val e) = QS e r := by cases r <;> rfl
theorem CG (P : Program) (s : Sem Value) (w : World) (call : Cl) : nx call ((do pure (.value (← s)) : Sem Next).run P w) = ro (s.run P w) := by
 simp only [Sem.run_bind]
 cases s.run P w <;> rfl
theorem Vu (P : Program) (s : Sem Unit) (w : World) (call : Cl) : nx call ((do s; pure .skip : Sem Next).run P w) = rs (s.run P w) := by
 simp only [Sem.run_bind]
 cases s.run P w <;> rfl
def Plain (P : Program) : Prop := ∀ fn ∈ P.funcs, fn.body.isSome = true → fn.name ≠ "runtime.NumGoroutine"
theorem VO (P : Program) (hP : Plain P) (call : Cl) (e : Env) (o : Oper) (w : World) (r : Value × World) (h : R8 P call e o w = some r) :
  nx call ((execOp (val e) o).run P w) = some r := by
 obtain ⟨dst, op, type, pos, after, guard⟩ := o
 have hfn : ∀ g args, W6 P call g args w = some r → nx call ((callFunc g args).run P w) = some r := by
  intro g args h
  unfold W6 at h
  rw [Array.getElem?_toList] at h
  cases hf : P.funcs[g]? with
  | none => simp [hf] at h
  | some fn =>
   simp only [hf] at h
   cases hb : fn.body with
   | none => simpa [hb] using h
   | some b =>
    simp only [hb] at h
    have hn := hP fn (Array.mem_of_getElem? hf) (by simp [hb])
    have : (callFunc g args).run P w = .ok (.enter g args) w := by
     simp only [callFunc, Sem.run_bind, run_program, Result.andThen_ok, hf]
     simp [hn, hb]
    rw [this]; exact h
 cases op <;> simp only [R8] at h <;> simp only [execOp]
 case move x => simpa [nx] using h
 case assign x => simpa [nx] using h
 case pick c a b =>
  simp only [Sem.run_bind]
  cases hc : val e c <;> simp only [hc, Ax] at h <;> try contradiction
  rename_i t
  cases t <;> simp_all [asBool, nx]
 case alloc => rw [CG]; exact h
 case box => rw [CG]; exact h
 case build t ps => rw [CG, OM]; exact h
 case buildSlice t n ps => rw [CG, OM]; exact h
 case load => rw [CG]; exact h
 case store => rw [Vu]; exact h
 case nilCheck => exact h
 case binOp => rw [CG]; exact h
 case unOp => rw [CG]; exact h
 case convert => rw [CG]; exact h
 case makeInterface => rw [CG]; exact h
 case makeFunc fn first cap => rw [CG, JD, JD]; simpa [Instr.makeFunc, ro] using h
 case makeMap t x => rw [CG, LK]; exact h
 case makeSlice => rw [CG]; exact h
 case slice t x lo hi mx => rw [CG, LK, LK, LK]; exact h
 case fieldAddr => rw [CG]; exact h
 case field => rw [CG]; exact h
 case indexAddr => rw [CG]; exact h
 case index => rw [CG]; exact h
 case lookup => rw [CG]; exact h
 case mapUpdate => rw [Vu]; exact h
 case range => rw [CG]; exact h
 case entry => rw [CG]; exact h
 case next => rw [CG]; exact h
 case typeAssert => rw [CG]; exact h
 case extract => rw [CG]; exact h
 case call c =>
  obtain ⟨callee, args, ts⟩ := c
  have UD : ∀ x, Tc P call (val e x) (Dc e args) w = some r → nx call ((do let d ← resolve (val e) ⟨.value x, args, ts⟩ type; invoke d.target d.args : Sem Next).run P w) = some r := by
   intro x h
   unfold Tc at h
   cases hv : val e x <;> simp only [hv] at h <;> try contradiction
   rename_i fn first cap
   cases fn <;> simp only [] at h <;> try contradiction
   rename_i g
   simp only [resolve, hv, Deferred.ofValue, Sem.run_bind, Sem.run_pure, Result.andThen_ok, invoke]
   rw [JD, show first ++ Dc e args ++ cap = (first.toList ++ ((Dc e args).toList ++ cap.toList)).toArray by apply Array.ext'; simp]
   exact hfn _ _ h
  cases callee with
  | value x =>
   cases x with
   | func g =>
    simp only [resolve, val, Deferred.ofValue, Sem.run_bind, Sem.run_pure, Result.andThen_ok, invoke]
    rw [JD, show #[] ++ Dc e args ++ #[] = Dc e args by simp]
    exact hfn _ _ h
   | tmp t => exact UD _ h
   | const t => exact UD _ h
   | global t => exact UD _ h
  | invoke a b => exact h
  | builtin b =>
   have bi : ∀ b, (resolve (val e) ⟨.builtin b, args, ts⟩ type).run P w = .ok { target := .builtin b ts type (args.map fun | .const _ => true | _ => false), args := Dc e args } w := by
    intro b
    simp only [resolve, JD]
    rfl
   have go : ∀ b (s : Sem Value), (∀ cs, builtin b ts type cs (Dc e args) = (do pure (.value (← s)) : Sem Next)) → ro (s.run P w) = some r →
     nx call ((do let d ← resolve (val e) ⟨.builtin b, args, ts⟩ type; invoke d.target d.args : Sem Next).run P w) = some r := by
    intro b s hs hr
    rw [Sem.run_bind, bi, Result.andThen_ok]
    simp only [invoke, hs]
    exact (CG P s w call).trans hr
   cases b <;> simp only [] at h <;> first | exact h | exact go _ _ (fun _ => rfl) h
 all_goals contradiction
def Pf (ops : List Oper) (e : Env) (j : Nat) : Value :=
 match ops[j]? with
 | some o => match o.dst with | some d => e d | none => undef
 | none => undef
def JE : Value → Bool → Bool
 | .bool true, t => t
 | .bool false, t => !t
 | _, _ => false
def Ao (v : Value) (t : Bool) (x : Option (Value × World)) (w : World) : Option (Value × World) :=
 match JE v t with
 | true => x
 | false => some (undef, w)
def II (P : Program) (call : Cl) (ops : List Oper) (e : Env) (o : Oper) (w : World) : Option (Value × World) :=
 match o.guard with
 | none => R8 P call e o w
 | some (j, t) => Ao (Pf ops e j) t (R8 P call e o w) w
def PS (P : Program) (call : Cl) (n : Nat) (ops : List Oper) : List Oper → Env → World → Option (Env × World)
 | [], e, w => some (e, w)
 | o :: l, e, w => (II P call ops e o w).bind fun r => PS P call n ops l (put n e o.dst r.1) r.2
def FJ (ed : Edge) : Bool := match ed.ground with | .textOnly _ => false | .gcOnly _ => false | _ => true
def HV : List Edge → Nat
 | [] => 0
 | ed :: l => bif FJ ed then 2 ^ ed.on ||| HV l else HV l
def Pg (A : List Nat) : List Edge → Nat
 | [] => 0
 | ed :: l => bif FJ ed then (2 ^ ed.on ||| A.getD ed.on 0) ||| Pg A l else Pg A l
def JF : List Oper → List Nat → List Nat
 | [], A => A
 | o :: l, A => JF l (A ++ [Pg A o.after.toList])
def H4 (A : List Nat) : List Oper → List Nat → Bool
 | o :: l, x :: r => Nat.beq x (Pg A o.after.toList) && H4 A l r
 | [], [] => true
 | _, _ => false
def CH : Op → Bool
 | .move _ | .assign _ | .pick .. | .build .. | .load .. | .nilCheck _ | .binOp .. | .unOp .. | .convert .. | .makeInterface .. | .makeFunc .. | .slice ..
 | .fieldAddr .. | .field .. | .indexAddr .. | .index .. | .lookup .. | .typeAssert .. | .extract .. => true
 | .call ⟨.builtin .len, _, _⟩ | .call ⟨.builtin .cap, _, _⟩ | .call ⟨.builtin .max, _, _⟩ | .call ⟨.builtin .min, _, _⟩ => true
 | _ => false
def Jh : Op → Bool
 | .move _ | .assign _ | .pick .. | .makeFunc .. => true
 | _ => false
def tmpsOf : List Operand → List Nat
 | [] => []
 | .tmp t :: l => t :: tmpsOf l
 | _ :: l => tmpsOf l
def looks (ops : List Oper) (o : Oper) : List Nat :=
 tmpsOf o.op.operands.toList ++ (match o.guard with | some (j, _) => (match ops[j]? with | some x => x.dst.toList | none => []) | none => [])
def Rv (d : Option Nat) (l : List Nat) : Bool := match d with | some d => l.all fun t => !Nat.beq t d | none => true
def QT (d d' : Option Nat) : Bool := match d, d' with | some a, some b => !Nat.beq a b | _, _ => true
def Ph (ops : List Oper) (x y : Oper) : Bool := Rv x.dst (looks ops y) && Rv y.dst (looks ops x) && QT x.dst y.dst
def Fj (L : Nat) (i : Nat) (o : Oper) : Bool := !L.testBit i && Nat.beq (HV o.after.toList &&& L) (HV o.after.toList)
def Rw (L : Nat) (i : Nat) : List Oper → Nat → Bool
 | [], _ => true
 | o :: l, j => (Nat.beq j i || !Fj L j o) && Rw L i l (j + 1)
def ON (ops : List Oper) (A : List Nat) (L : Nat) (i : Nat) (oi : Oper) : List Oper → Nat → Bool
 | [], _ => true
 | o :: l, j => (Nat.beq j i || L.testBit j || (A.getD j 0).testBit i || Ph ops oi o) && ON ops A L i oi l (j + 1)
def LN (q : Bool) (L : Nat) : List Oper → Nat → Option Nat
 | [], _ => none
 | o :: l, j => bif Fj L j o && (!q || CH o.op) then some j else LN q L l (j + 1)
def W7 (ops : List Oper) (L : Nat) : Option Nat := match LN true L ops 0 with | some j => some j | none => LN false L ops 0
def Pj (ops : List Oper) : Nat → Nat → List Nat
 | 0, _ => []
 | f + 1, L => match W7 ops L with
  | some i => i :: Pj ops f (L ||| 2 ^ i)
  | none => []
def H5 (ops : List Oper) (A : List Nat) : List Nat → Nat → Bool
 | [], L => Nat.beq (L + 1) (2 ^ ops.length)
 | i :: l, L => (match ops[i]? with
  | some o => Fj L i o && (bif CH o.op then ON ops A L i o ops 0 else Rw L i ops 0)
  | none => false) && H5 ops A l (L ||| 2 ^ i)
abbrev Pk := List (Nat × (World → Option (Value × World)) × Value)
def Td (a : Nat) (w : World) : Pk → Prop
 | [] => True
 | p :: l => (match a.testBit p.1 with | true => True | false => p.2.1 w = some (p.2.2, w)) ∧ Td a w l
open Classical in
noncomputable def AG {R : Type} (p : Prop) (x : Option R) : Option R := if p then x else none
noncomputable def PT (P : Program) (call : Cl) (n : Nat) (ops : List Oper) (A : List Nat) : List Nat → Env → World → Pk → Option (Env × World)
 | [], e, w, _ => some (e, w)
 | i :: l, e, w, pd => match ops[i]? with
  | none => none
  | some o => (II P call ops e o w).bind fun r => match CH o.op with
   | true => AG (r.2 = w) (PT P call n ops A l (put n e o.dst r.1) w (match Jh o.op with | true => pd | false => (i, fun u => II P call ops e o u, r.1) :: pd))
   | false => AG (Td (A.getD i 0) r.2 pd) (PT P call n ops A l (put n e o.dst r.1) r.2 pd)
def opsL (P : Program) (call : Cl) (n : Nat) (ops : List Oper) : List Nat → Env → World → Option (Env × World)
 | [], e, w => some (e, w)
 | i :: l, e, w => match ops[i]? with
  | none => opsL P call n ops l e w
  | some o => (II P call ops e o w).bind fun r => opsL P call n ops l (put n e o.dst r.1) r.2
def R9 (ops : List Oper) : Bool := H4 (JF ops []) ops (JF ops []) && H5 ops (JF ops []) (Pj ops ops.length 0) 0
noncomputable def WQ (P : Program) (call : Cl) (fid : FuncId) (id : Nat) (n : Nat) (ops : List Oper) (e : Env) (w : World) : Option (Env × World) :=
 match R9 ops with
 | true => PT P call n ops (JF ops []) (Pj ops ops.length 0) e { w with drawn := w.drawn + 1 } []
 | false => opsL P call n ops (Region.schedule true ops.toArray (w.tape w.drawn (.order fid id))) e { w with drawn := w.drawn + 1 }
def Pl (L : Nat) : List Oper → Nat → List Nat
 | [], _ => []
 | o :: l, j => bif Fj L j o then j :: Pl L l (j + 1) else Pl L l (j + 1)
def Tf (F : Nat → Prop) : List Nat → Prop
 | [] => False
 | i :: l => match l with | [] => F i | _ :: _ => F i ∧ Tf F l
def Af {R : Type} (x : Option R) (Q : R → Prop) : Prop := ∃ r, x = some r ∧ Q r
def VP (P : Program) (call : Cl) (n : Nat) (ops : List Oper) (A : List Nat) (K : Env → World → Prop) : Nat → Nat → Env → World → Pk → Prop
 | fu, L, e, w, pd => match Nat.beq (L + 1) (2 ^ ops.length) with
  | true => K e w
  | false => match fu with
   | 0 => False
   | fu + 1 => match LN true L ops 0 with
    | some i => (match ops[i]? with
     | some o => (match Fj L i o && (CH o.op && ON ops A L i o ops 0) with
      | true => Af (II P call ops e o w) fun r => r.2 = w ∧ VP P call n ops A K fu (L ||| 2 ^ i) (put n e o.dst r.1) w (match Jh o.op with | true => pd | false => (i, fun u => II P call ops e o u, r.1) :: pd)
      | false => False)
     | none => False)
    | none => Tf (fun i => match ops[i]? with
     | some o => Af (II P call ops e o w) fun r => Td (A.getD i 0) r.2 pd ∧ VP P call n ops A K fu (L ||| 2 ^ i) (put n e o.dst r.1) r.2 pd
     | none => False) (Pl L ops 0)
inductive Ex where
 | normal
 | exit (id : Nat)
 | ret
abbrev St := Ex × Env × World
open Classical in
noncomputable def VQ {α : Type} (s : Nat → Option α) : Option α := if h : ∃ m r, s m = some r then s (Classical.choose h) else none
def Gc (f : Env → World → Option St) : Nat → Env → World → Option St
 | 0, _, _ => none
 | m + 1, e, w => (f e w).bind fun r => match r.1 with | .normal => Gc f m r.2.1 r.2.2 | _ => some r
noncomputable def PU (f : Env → World → Option St) (e : Env) (w : World) : Option St := VQ fun m => Gc f m e w
noncomputable def Hv (P : Program) (call : Cl) (fid : FuncId) (n : Nat) : Code → Env → World → Option St
 | .skip, e, w => some (.normal, e, w)
 | .label _, e, w => some (.normal, e, w)
 | .region id ops draw, e, w => match draw with
  | false => (PS P call n ops.toList ops.toList e w).bind fun r => some (.normal, r.1, r.2)
  | true => (WQ P call fid id n ops.toList e w).bind fun r => some (.normal, r.1, r.2)
 | .seq a b, e, w => (Hv P call fid n a e w).bind fun r => match r.1 with | .normal => Hv P call fid n b r.2.1 r.2.2 | _ => some r
 | .cond c a b, e, w => match val e c with
  | .bool true => Hv P call fid n a e w
  | .bool false => Hv P call fid n b e w
  | _ => none
 | .block id c, e, w => (Hv P call fid n c e w).bind fun r => match r.1 with
  | .exit i => some ((bif Nat.beq i id then .normal else .exit i), r.2)
  | _ => some r
 | .loop c, e, w => PU (Hv P call fid n c) e w
 | .exit id, e, w => some (.exit id, e, w)
 | .ret, e, w => some (.ret, e, w)
 | _, _, _ => none
noncomputable def Pm (P : Program) (e : Env) (w : World) : ResultVar → Option Value
 | .tmp t => some (e t)
 | .cell a t => (ro ((Instr.loadAt t (e a)).run P w)).bind fun r => AG (r.2 = w) (some r.1)
noncomputable def Tg (P : Program) (fn : Func) (e : Env) (w : World) : Option (Value × World) :=
 match fn.results.toList with
 | [] => some (.tuple #[], w)
 | [x] => (Pm P e w x).bind fun v => some (v, w)
 | [x, y] => (Pm P e w x).bind fun v => (Pm P e w y).bind fun u => some (.tuple #[v, u], w)
 | [x, y, z] => (Pm P e w x).bind fun v => (Pm P e w y).bind fun u => (Pm P e w z).bind fun t => some (.tuple #[v, u, t], w)
 | _ => none
noncomputable def W8 (P : Program) (call : Cl) (f : FuncId) (args : Array Value) (w : World) : Option (Value × World) :=
 match P.funcs.toList[f]? with
 | some fn => match fn.body with
  | some c => (Hv P call f fn.ntmps c (AO args) w).bind fun r => match r.1 with | .exit _ => none | _ => Tg P fn r.2.1 r.2.2
  | none => none
 | none => none
def CE (P : Program) (f : FuncId) (args : Array Value) (w : World) (r : Value × World) : Prop :=
 Calls P f args w fun e w' => e = .returned r.1 ∧ w' = r.2
open Classical in
/-- What a call of a function comes to, if it comes to an end. -/
noncomputable def EV (P : Program) : Cl := fun f args w =>
 if h : P.inits.idxOf? f = none ∧ ∃ r, CE P f args w r then some (Classical.choose h.2) else none
theorem Pn {α : Type} {s : Nat → Option α} (hm : ∀ m r, s m = some r → s (m + 1) = some r) {m : Nat} {r : α} (h : s m = some r) : VQ s = some r := by
 have up : ∀ m k r, s m = some r → s (m + k) = some r := by
  intro m k
  induction k with
  | zero => exact fun r h => h
  | succ k ih => exact fun r h => hm _ _ (ih r h)
 have he : ∃ m r, s m = some r := ⟨m, r, h⟩
 unfold VQ
 rw [dif_pos he]
 obtain ⟨r', h'⟩ := Classical.choose_spec he
 have h1 := up _ m _ h'
 have h2 := up _ (Classical.choose he) _ h
 rw [Nat.add_comm] at h2
 rw [h']
 rw [h1] at h2
 exact h2
theorem QU {α : Type} {s : Nat → Option α} {r : α} (h : VQ s = some r) : ∃ m, s m = some r := by
 unfold VQ at h
 split at h
 ·exact ⟨_, h⟩
 ·contradiction
theorem H6 {f : Env → World → Option St} : ∀ m e w r, Gc f m e w = some r → Gc f (m + 1) e w = some r
 | 0, e, w, r, h => by simp [Gc] at h
 | m + 1, e, w, r, h => by
  rw [Gc] at h ⊢
  cases hf : f e w with
  | none => simp [hf] at h
  | some x =>
   simp only [hf, Option.bind_some] at h ⊢
   obtain ⟨y, e', w'⟩ := x
   cases y <;> simp only [] at h ⊢
   ·exact H6 m _ _ _ h
   ·exact h
   ·exact h
theorem Th (f : Env → World → Option St) (e : Env) (w : World) : PU f e w = (f e w).bind fun r => match r.1 with | .normal => PU f r.2.1 r.2.2 | _ => some r := by
 apply Option.ext
 intro r
 constructor
 ·intro h
  obtain ⟨m, h⟩ := QU (show VQ _ = some r from h)
  cases m with
  | zero => simp [Gc] at h
  | succ m =>
   rw [Gc] at h
   cases hf : f e w with
   | none => simp [hf] at h
   | some x =>
    simp only [hf, Option.bind_some] at h ⊢
    obtain ⟨y, e', w'⟩ := x
    cases y <;> simp only [] at h ⊢
    ·exact Pn (fun m r => H6 m _ _ r) h
    ·exact h
    ·exact h
 ·intro h
  cases hf : f e w with
  | none => simp [hf] at h
  | some x =>
   simp only [hf, Option.bind_some] at h
   obtain ⟨y, e', w'⟩ := x
   cases y <;> simp only [] at h
   ·obtain ⟨m, h⟩ := QU (show VQ _ = some r from h)
    exact Pn (m := m + 1) (fun m r => H6 m _ _ r) (by rw [Gc, hf]; exact h)
   ·exact Pn (m := 1) (fun m r => H6 m _ _ r) (by rw [Gc, hf]; exact h)
   ·exact Pn (m := 1) (fun m r => H6 m _ _ r) (by rw [Gc, hf]; exact h)
theorem Vv {P : Program} {f : FuncId} {args : Array Value} {w : World} {r : Value × World} (h : EV P f args w = some r) : CE P f args w r := by
 unfold EV at h
 split at h
 ·rename_i hh
  have := Classical.choose_spec hh.2
  simp only [Option.some.injEq] at h
  rw [h] at this
  exact this
 ·contradiction
theorem runN_ended {P : Program} {m : Machine} {o : Outcome} {w : World} {n : Nat} (h : runN P n m = .ended o w) (k : Nat) : runN P (n + k) m = .ended o w := by
 rw [runN_add, h]
theorem UG {P : Program} {f : FuncId} {args : Array Value} {w : World} {r r' : Value × World} (hi : P.inits.idxOf? f = none)
  (h : CE P f args w r) (h' : CE P f args w r') : r = r' := by
 have d : ∀ {r}, CE P f args w r → ∃ n, runN P n (lone (Frame.enter P f args .normal) [] w) = .ended (.done r.1) r.2 := by
  intro r h
  obtain ⟨n, v, w', hn, hv⟩ := Calls.done (R := fun v w' => v = r.1 ∧ w' = r.2) (Calls.mono h (by
   intro e w' ⟨he, hw⟩
   subst he
   exact ⟨rfl, hw⟩)) hi
  exact ⟨n, by rw [hn, hv.1, hv.2]⟩
 obtain ⟨n, hn⟩ := d h
 obtain ⟨k, hk⟩ := d h'
 have h1 := runN_ended hn k
 have h2 := runN_ended hk n
 rw [Nat.add_comm] at h2
 rw [h1] at h2
 obtain ⟨v, w1⟩ := r
 obtain ⟨v', w2⟩ := r'
 simp only [Stepped.ended.injEq, Outcome.done.injEq] at h2
 simp [h2.1, h2.2]
theorem Ti {P : Program} {f : FuncId} {args : Array Value} {w : World} {r : Value × World} (hi : P.inits.idxOf? f = none)
  (h : CE P f args w r) : EV P f args w = some r := by
 unfold EV
 rw [dif_pos ⟨hi, r, h⟩]
 have hh : P.inits.idxOf? f = none ∧ ∃ r, CE P f args w r := ⟨hi, r, h⟩
 exact congrArg some (UG hi (Classical.choose_spec hh.2) h)
structure Is (n : Nat) (e : Env) (a : Act) : Prop where
 size : a.tmps.size = n
 get : ∀ t, a.tmps.getD t undef = e t
 no : a.defers = []
theorem Is.eval {n : Nat} {e : Env} {a : Act} (h : Is n e a) : a.eval = val e := by
 funext x
 cases x <;> simp only [Act.eval, val]
 exact h.get _
theorem Is.put {n : Nat} {e : Env} {a : Act} (h : Is n e a) (d : Option Nat) (v : Value) : Is n (put n e d v) (a.put d v) := by
 cases d with
 | none => exact h
 | some d =>
  refine ⟨by simp [Act.put, h.size], ?_, h.no⟩
  intro t
  simp only [Act.put, Ev.put]
  by_cases hd : d < n
  ·rw [show Nat.blt d n = true from Nat.blt_eq ▸ hd]
   simp only [cond_true, UB]
   by_cases ht : t = d
   ·subst ht
    simp [Array.getD_eq_getD_getElem?, h.size, hd]
   ·rw [show Nat.beq t d = false from Bool.eq_false_iff.2 fun h => ht (Nat.eq_of_beq_eq_true h)]
    have := h.get t
    simp only [Array.getD_eq_getD_getElem?] at this ⊢
    rw [Array.getElem?_setIfInBounds_ne (Ne.symm ht)]
    simpa using this
  ·rw [show Nat.blt d n = false from Bool.eq_false_iff.2 fun h => hd (Nat.blt_eq ▸ h)]
   have := h.get t
   simp only [cond_false]
   rw [← this]
   have hsz := h.size
   rw [Array.setIfInBounds_eq_of_size_le (by omega)]
theorem Is.VR {n : Nat} {e : Env} {a : Act} (h : Is n e a) (ops : Array Oper) (j : Nat) (t : Bool) :
  (Go.yielded ops a.tmps j == some t) = JE (Pf ops.toList e j) t := by
 unfold Go.yielded Pf
 rw [Array.getElem?_toList]
 cases ho : ops[j]? with
 | none => simp [undef, JE]
 | some o =>
  simp only [Option.bind_some]
  cases hd : o.dst with
  | none => simp [undef, JE]
  | some d =>
   have hg := h.get d
   simp only [Option.bind_some]
   rw [Array.getD_eq_getD_getElem?] at hg
   cases hv : a.tmps[d]? with
   | none =>
    rw [hv] at hg
    simp only [Option.getD_none] at hg
    simp [← hg, undef, JE]
   | some v =>
    rw [hv] at hg
    simp only [Option.getD_some] at hg
    rw [← hg]
    cases v <;> simp [JE]
    rename_i b
    cases b <;> cases t <;> rfl
theorem Is.wanted {n : Nat} {e : Env} {a : Act} (h : Is n e a) (ops : Array Oper) (o : Oper) :
  Region.wanted o (Go.yielded ops a.tmps) = match o.guard with | none => true | some (j, t) => JE (Pf ops.toList e j) t := by
 unfold Region.wanted
 cases hg : o.guard with
 | none => rfl
 | some x => obtain ⟨j, t⟩ := x; exact h.VR ops j t
section
variable {P : Program} (hP : Plain P) {n : Nat}
 include hP
theorem Kq {ops : Array Oper} {i : Nat} {o : Oper} (hi : ops[i]? = some o) {e : Env} {a : Act} {w : World} {r : Value × World} (ha : Is n e a)
  (h : II P (EV P) ops.toList e o w = some r) {K : Act → World → Prop} {Q : Exit → Act → World → Prop} (hK : K (a.put o.dst r.1) r.2) :
  wpOp P ops Q i K a w := by
 unfold wpOp
 simp only [hi]
 have ok : R8 P (EV P) e o w = some r → o.wp P a w K Q := by
  intro h
  have := VO P hP _ _ _ _ _ h
  unfold Oper.wp
  rw [ha.eval]
  generalize (execOp (val e) o).run P w = x at this
  cases x with
  | halt y w' => simp [nx] at this
  | ok y w' =>
   cases y <;> simp only [nx, Option.some.injEq, reduceCtorEq] at this
   case value v => subst this; exact hK
   case skip => subst this; exact hK
   case enter f args =>
    simp only [Oper.upon]
    refine Calls.mono (Vv this) ?_
    intro en w'' ⟨h1, h2⟩
    subst h1
    subst h2
    exact hK
 rw [ha.wanted]
 unfold II at h
 cases hg : o.guard with
 | none =>
  simp only [hg] at h
  rw [if_pos rfl]
  exact .inl (ok h)
 | some x =>
  obtain ⟨j, t⟩ := x
  simp only [hg, Ao] at h
  cases hw : JE (Pf ops.toList e j) t with
  | true =>
   simp only [hw] at h
   rw [if_pos hw]
   exact .inl (ok h)
  | false =>
   simp only [hw, Option.some.injEq] at h
   subst h
   rw [if_neg (by simp [hw])]
   exact hK
theorem LO {ops : Array Oper} {Q : Exit → Act → World → Prop} {e' : Env} {w' : World} (hQ : ∀ a, Is n e' a → Q .normal a w') :
  ∀ (l : List Oper) (k : Nat), (∀ j, l[j]? = ops[k + j]?) → ∀ (e : Env) (a : Act) (w : World), Is n e a → PS P (EV P) n ops.toList l e w = some (e', w') →
   wpOps P ops Q (List.range' k l.length) a w
 | [], k, hl, e, a, w, ha, h => by
  simp only [PS, Option.some.injEq, Prod.mk.injEq] at h
  obtain ⟨rfl, rfl⟩ := h
  simpa [wpOps] using hQ a ha
 | o :: l, k, hl, e, a, w, ha, h => by
  simp only [PS] at h
  cases hr : II P (EV P) ops.toList e o w with
  | none => simp [hr] at h
  | some r =>
   simp only [hr, Option.bind_some] at h
   rw [List.length_cons, List.range'_succ, wpOps_cons]
   refine Kq hP (by simpa using (hl 0).symm) ha hr ?_
   exact LO hQ l (k + 1) (fun j => by have := hl (j + 1); simpa [Nat.add_assoc, Nat.add_comm 1 j] using this) _ _ _ (ha.put _ _) h
end
theorem LP {t : Nat} : ∀ {l : List Operand}, .tmp t ∈ l → t ∈ tmpsOf l
 | x :: l, h => by
  rcases List.mem_cons.1 h with rfl | h2
  ·simp [tmpsOf]
  ·have ih := LP h2
   cases x <;> simp [tmpsOf, ih]
theorem Sc (P : Program) (call : Cl) {e e' : Env} (o : Oper) (w : World) (h : ∀ x ∈ o.op.operands, val e x = val e' x) :
  R8 P call e o w = R8 P call e' o w := by
 obtain ⟨dst, op, type, pos, after, guard⟩ := o
 have vs : ∀ xs : Array Operand, (∀ x ∈ xs, val e x = val e' x) → Dc e xs = Dc e' xs := fun xs hx => by
  unfold Dc
  rw [List.map_congr_left fun x hm => hx x (Array.mem_toList_iff.1 hm)]
 have ps : ∀ ps : Array (Nat × Operand), (∀ x ∈ (ps.toList.map (·.2)), val e x = val e' x) → Jg e ps = Jg e' ps := fun ps hx => by
  unfold Jg
  rw [List.map_congr_left fun p hm => by rw [hx p.2 (List.mem_map.2 ⟨p, hm, rfl⟩)]]
 have ns : (∀ cs b, op ≠ .select cs b) → execOp (val e) ⟨dst, op, type, pos, after, guard⟩ = execOp (val e') ⟨dst, op, type, pos, after, guard⟩ := fun hs => execOp_congr _ hs h
 cases op <;> simp only [R8] <;> simp only [Op.operands] at h
 case makeFunc fn a b => rw [vs a fun x hx => h x (by simp [hx]), vs b fun x hx => h x (by simp [hx])]
 case build t p => rw [ps p fun x hx => h x (by simpa using hx)]
 case buildSlice t k p => rw [ps p fun x hx => h x (by simpa using hx)]
 case makeMap t r => cases r <;> simp_all [QS]
 case slice t x lo hi mx => cases lo <;> cases hi <;> cases mx <;> simp_all [QS]
 case nilCheck => rw [ns (by simp)]
 case call c =>
  have hcall := ns (by simp)
  obtain ⟨callee, args, ts⟩ := c
  have ha : Dc e args = Dc e' args := vs args fun x hx => h x (by simp [Call.operands, hx])
  cases callee with
  | value x =>
   have hx : val e x = val e' x := h x (by simp [Call.operands])
   cases x <;> simp only [] <;> rw [ha] <;> try rw [hx]
  | invoke a b => simp only []; rw [hcall]
  | builtin b => cases b <;> simp only [] <;> first | rw [ha] | rw [hcall]
 all_goals (first | rfl | (simp_all; done))
theorem Rx (P : Program) (call : Cl) {ops : List Oper} {n : Nat} (e : Env) (o : Oper) (d : Option Nat) (v : Value) (w : World) (h : Rv d (looks ops o) = true) :
  II P call ops (put n e d v) o w = II P call ops e o w := by
 cases d with
 | none => rfl
 | some d =>
  have hl : d ∉ looks ops o := by
   intro hm
   simp only [Rv, List.all_eq_true] at h
   have := h d hm
   simp [Nat.beq_refl] at this
  have ne : ∀ t, t ≠ d → put n e (some d) v t = e t := by
   intro t ht
   simp only [put]
   cases Nat.blt d n
   ·rfl
   ·simp only [cond_true, UB]
    rw [show Nat.beq t d = false from Bool.eq_false_iff.2 fun h => ht (Nat.eq_of_beq_eq_true h)]
    rfl
  have hx : R8 P call (put n e (some d) v) o w = R8 P call e o w := by
   refine Sc P call o w fun x hx => ?_
   cases x with
   | tmp t =>
    refine ne t fun ht => hl ?_
    subst ht
    exact List.mem_append_left _ (LP (Array.mem_toList_iff.2 hx))
   | _ => rfl
  unfold II
  cases hg : o.guard with
  | none => exact hx
  | some q =>
   obtain ⟨j, t⟩ := q
   have hv : Pf ops (put n e (some d) v) j = Pf ops e j := by
    unfold Pf
    cases ho : ops[j]? with
    | none => rfl
    | some y =>
     simp only []
     cases hy : y.dst with
     | none => rfl
     | some b =>
      refine ne b fun hb => hl ?_
      subst hb
      exact List.mem_append_right _ (by simp [hg, ho, hy])
   simp only [hv, hx]
theorem put_comm {n : Nat} (e : Env) {x y : Option Nat} (v u : Value) (h : QT x y = true) : put n (put n e x v) y u = put n (put n e y u) x v := by
 cases x with
 | none => rfl
 | some a =>
  cases y with
  | none => rfl
  | some b =>
   have hne : a ≠ b := by
    intro hab
    subst hab
    simp [QT, Nat.beq_refl] at h
   simp only [put]
   cases Nat.blt a n <;> cases Nat.blt b n <;> try rfl
   funext t
   simp only [cond_true, UB]
   by_cases h1 : t = a
   ·subst h1
    rw [show Nat.beq t b = false from Bool.eq_false_iff.2 fun h => hne (Nat.eq_of_beq_eq_true h)]
    simp
   ·rw [show Nat.beq t a = false from Bool.eq_false_iff.2 fun h => h1 (Nat.eq_of_beq_eq_true h)]
    simp
def PV (ops : List Oper) (L : Nat → Bool) (i : Nat) : Prop := L i = false ∧ ∃ o, ops[i]? = some o ∧ ∀ ed ∈ o.after, FJ ed = true → L ed.on = true
def G8 (L : Nat → Bool) (i : Nat) : Nat → Bool := fun k => Nat.beq k i || L k
theorem Kr (L : Nat → Bool) (i : Nat) : G8 L i i = true := by simp [G8, Nat.beq_refl]
theorem Gd (L : Nat → Bool) {i k : Nat} (h : k ≠ i) : G8 L i k = L k := by
 simp only [G8]
 rw [show Nat.beq k i = false from Bool.eq_false_iff.2 fun hh => h (Nat.eq_of_beq_eq_true hh)]
 rfl
theorem Ks {L : Nat → Bool} {i k : Nat} (h : L k = true) : G8 L i k = true := by simp [G8, h]
theorem Sd (L : Nat → Bool) (i j : Nat) : G8 (G8 L i) j = G8 (G8 L j) i := by
 funext k
 simp only [G8, ← Bool.or_assoc, Bool.or_comm (Nat.beq k i)]
theorem PV.set {ops : List Oper} {L : Nat → Bool} {i j : Nat} (h : PV ops L j) (hne : j ≠ i) : PV ops (G8 L i) j := by
 obtain ⟨h0, o, ho, hall⟩ := h
 exact ⟨by rw [Gd L hne]; exact h0, o, ho, fun ed he hb => Ks (hall ed he hb)⟩
def NR (A : List Nat) (L : Nat → Bool) : Prop := ∀ k i, L k = true → (A.getD k 0).testBit i = true → L i = true
def LQ (ops : List Oper) (A : List Nat) : Prop := ∀ j o, ops[j]? = some o → A.getD j 0 = Pg A o.after.toList
theorem Kt {A : List Nat} {L : Nat → Bool} (hS : NR A L) {i : Nat} : ∀ (l : List Edge), (∀ ed ∈ l, FJ ed = true → L ed.on = true) → (Pg A l).testBit i = true → L i = true
 | [], _, h => by simp [Pg] at h
 | ed :: l, hl, h => by
  unfold Pg at h
  cases hb : FJ ed with
  | false => rw [hb] at h; exact Kt hS l (fun x hx => hl x (List.mem_cons_of_mem _ hx)) h
  | true =>
   rw [hb] at h
   have h0 := hl ed List.mem_cons_self hb
   simp only [cond_true, Nat.testBit_or, Bool.or_eq_true] at h
   rcases h with (h | h) | h
   ·rw [Nat.testBit_two_pow] at h
    simp only [decide_eq_true_eq] at h
    rw [← h]; exact h0
   ·exact hS _ _ h0 h
   ·exact Kt hS l (fun x hx => hl x (List.mem_cons_of_mem _ hx)) h
theorem PV.aH {ops : List Oper} {A : List Nat} (hA : LQ ops A) {L : Nat → Bool} (hS : NR A L) {j i : Nat} (h : PV ops L j) (hb : (A.getD j 0).testBit i = true) : L i = true := by
 obtain ⟨h0, o, ho, hall⟩ := h
 rw [hA j o ho] at hb
 exact Kt hS _ (fun ed he => hall ed (Array.mem_toList_iff.1 he)) hb
theorem NR.set {ops : List Oper} {A : List Nat} (hA : LQ ops A) {L : Nat → Bool} (hS : NR A L) {j : Nat} (h : PV ops L j) : NR A (G8 L j) := by
 intro k i hk hb
 by_cases hkj : k = j
 ·subst hkj; exact Ks (h.aH hA hS hb)
 ·rw [Gd L hkj] at hk; exact Ks (hS k i hk hb)
abbrev LR := List (Nat × (World → Prop))
def GL (P : Program) (call : Cl) (n : Nat) (ops : List Oper) (A : List Nat) (R : Env → World → Prop) (F : LR) : Nat → (Nat → Bool) → Env → World → Prop
 | 0, L, e, w => (∀ i, ¬ PV ops L i) ∧ R e w
 | f + 1, L, e, w => ((∀ i, ¬ PV ops L i) → R e w) ∧ ∀ i o, ops[i]? = some o → PV ops L i → ∃ r, II P call ops e o w = some r ∧
   (CH o.op = true → r.2 = w) ∧ (CH o.op = false → ∀ p ∈ F, (A.getD i 0).testBit p.1 = false → p.2 r.2) ∧
   GL P call n ops A R F f (G8 L i) (put n e o.dst r.1) r.2
theorem GL.weaken {P : Program} {call : Cl} {n : Nat} {ops : List Oper} {A : List Nat} {R : Env → World → Prop} {F : LR} {x : Nat × (World → Prop)} :
  ∀ (f : Nat) (L : Nat → Bool) (e : Env) (w : World), GL P call n ops A R (x :: F) f L e w → GL P call n ops A R F f L e w
 | 0, _, _, _, h => h
 | f + 1, L, e, w, h => ⟨h.1, fun i o ho hr => by
   obtain ⟨r, h1, h2, h3, h4⟩ := h.2 i o ho hr
   exact ⟨r, h1, h2, fun hq p hp hb => h3 hq p (List.mem_cons_of_mem _ hp) hb, GL.weaken f _ _ _ h4⟩⟩
theorem GL.first {P : Program} {call : Cl} {n : Nat} {ops : List Oper} {A : List Nat} (hA : LQ ops A) {R : Env → World → Prop} {i : Nat} {oi : Oper} {v : Value}
  (hi : ops[i]? = some oi) (hq : CH oi.op = true) :
  ∀ (f : Nat) (L : Nat → Bool) (e : Env) (w : World) (F : LR), NR A L → PV ops L i →
   (∀ j oj, ops[j]? = some oj → j ≠ i → L j = false → (A.getD j 0).testBit i = false → Ph ops oi oj = true) →
   II P call ops e oi w = some (v, w) →
   GL P call n ops A R ((i, fun u => II P call ops e oi u = some (v, u)) :: F) f (G8 L i) (put n e oi.dst v) w → GL P call n ops A R F (f + 1) L e w := by
 intro f
 induction f with
 | zero =>
  intro L e w F hS hr hfree hv H
  refine ⟨fun h => (h i hr).elim, fun j oj hj hrj => ?_⟩
  by_cases hji : j = i
  ·subst hji
   have : oi = oj := by rw [hi] at hj; exact Option.some.inj hj
   subst this
   exact ⟨_, hv, fun _ => rfl, fun h => (by rw [hq] at h; cases h), H⟩
  ·exact (H.1 j (hrj.set hji)).elim
 | succ f ih =>
  intro L e w F hS hr hfree hv H
  refine ⟨fun h => (h i hr).elim, fun j oj hj hrj => ?_⟩
  by_cases hji : j = i
  ·subst hji
   have : oi = oj := by rw [hi] at hj; exact Option.some.inj hj
   subst this
   exact ⟨_, hv, fun _ => rfl, fun h => (by rw [hq] at h; cases h), GL.weaken _ _ _ _ H⟩
  ·obtain ⟨r, h1, h2, h3, h4⟩ := H.2 j oj hj (hrj.set hji)
   have hanc : (A.getD j 0).testBit i = false := by
    cases hb : (A.getD j 0).testBit i with
    | false => rfl
    | true =>
     have := hrj.aH hA hS hb
     rw [hr.1] at this
     cases this
   have hap := hfree j oj hj hji hrj.1 hanc
   simp only [Ph, Bool.and_eq_true] at hap
   obtain ⟨⟨ha1, ha2⟩, ha3⟩ := hap
   rw [Rx P call e oj oi.dst v w ha1] at h1
   have same : ∀ u, II P call ops (put n e oj.dst r.1) oi u = II P call ops e oi u := fun u => Rx P call e oi oj.dst r.1 u ha2
   have hv' : II P call ops e oi r.2 = some (v, r.2) := by
    cases hqj : CH oj.op with
    | true => rw [h2 hqj]; exact hv
    | false => exact h3 hqj _ List.mem_cons_self hanc
   refine ⟨r, h1, h2, fun hqj p hp hb => h3 hqj p (List.mem_cons_of_mem _ hp) hb, ?_⟩
   refine ih (G8 L j) _ _ F (hS.set hA hrj) (hr.set (Ne.symm hji)) ?_ (by rw [same]; exact hv') ?_
   ·intro k ok hk hki hLk hb
    refine hfree k ok hk hki ?_ hb
    by_cases hkj : k = j
    ·subst hkj; exact hrj.1
    ·rw [Gd L hkj] at hLk; exact hLk
   ·simp only [same]
    rw [← put_comm e v r.1 ha3, Sd]
    exact h4
theorem Ku {L : Nat} : ∀ (l : List Edge), (HV l &&& L) = HV l → ∀ ed ∈ l, FJ ed = true → L.testBit ed.on = true
 | [], _, ed, he, _ => by simp at he
 | x :: l, h, ed, he, hb => by
  have hx : ∀ k, (HV (x :: l)).testBit k = true → L.testBit k = true := by
   intro k hk
   rw [← h, Nat.testBit_and, Bool.and_eq_true] at hk
   exact hk.2
  rcases List.mem_cons.1 he with rfl | he
  ·refine hx _ ?_
   simp [HV, hb]
  ·cases hbx : FJ x with
   | false =>
    simp only [HV, hbx, cond_false] at h
    exact Ku l h ed he hb
   | true =>
    have hl : (HV l &&& L) = HV l := by
     apply Nat.eq_of_testBit_eq
     intro k
     rw [Nat.testBit_and]
     cases hk : (HV l).testBit k with
     | false => rfl
     | true =>
      rw [hx k (by simp [HV, hbx, hk])]
      rfl
    exact Ku l hl ed he hb
theorem OO {L : Nat} : ∀ (l : List Edge), (∀ ed ∈ l, FJ ed = true → L.testBit ed.on = true) → (HV l &&& L) = HV l
 | [], _ => by simp [HV]
 | x :: l, h => by
  have ih := OO l fun ed he => h ed (List.mem_cons_of_mem _ he)
  cases hbx : FJ x with
  | false => simpa [HV, hbx] using ih
  | true =>
   have h0 := h x List.mem_cons_self hbx
   apply Nat.eq_of_testBit_eq
   intro k
   simp only [HV, hbx, cond_true, Nat.testBit_and, Nat.testBit_or, Nat.testBit_two_pow]
   by_cases hk : x.on = k
   ·subst hk; simp [h0]
   ·have := congrArg (·.testBit k) ih
    simp only [Nat.testBit_and] at this
    simp [hk, this]
theorem Dz {ops : List Oper} {L : Nat} {i : Nat} {o : Oper} (ho : ops[i]? = some o) : Fj L i o = true ↔ PV ops L.testBit i := by
 unfold Fj PV
 simp only [Bool.and_eq_true, Bool.not_eq_true', Nat.beq_eq]
 constructor
 ·rintro ⟨h0, h⟩
  exact ⟨h0, o, ho, fun ed he hb => Ku _ h ed (Array.mem_toList_iff.2 he) hb⟩
 ·rintro ⟨h0, o', ho', h⟩
  rw [ho] at ho'
  cases ho'
  exact ⟨h0, OO _ fun ed he hb => h ed (Array.mem_toList_iff.1 he) hb⟩
theorem LS {ops : List Oper} {L i : Nat} : ∀ (l : List Oper) (k : Nat), (∀ j, l[j]? = ops[k + j]?) → Rw L i l k = true → ∀ j, k ≤ j → PV ops L.testBit j → j = i
 | [], k, hl, _, j, hj, hr => by
  obtain ⟨_, o, ho, _⟩ := hr
  have := hl (j - k)
  rw [show k + (j - k) = j by omega, ho] at this
  simp at this
 | o :: l, k, hl, h, j, hj, hr => by
  simp only [Rw, Bool.and_eq_true, Bool.or_eq_true] at h
  by_cases hjk : j = k
  ·subst hjk
   have ho : ops[j]? = some o := by simpa using (hl 0).symm
   rcases h.1 with h | h
   ·exact Nat.eq_of_beq_eq_true h
   ·rw [(Dz ho).2 hr] at h
    simp at h
  ·exact LS l (k + 1) (fun m => by have := hl (m + 1); simpa [Nat.add_assoc, Nat.add_comm 1 m] using this) h.2 j (by omega) hr
theorem Ji {ops : List Oper} {A : List Nat} {L i : Nat} {oi : Oper} : ∀ (l : List Oper) (k : Nat), (∀ j, l[j]? = ops[k + j]?) → ON ops A L i oi l k = true →
  ∀ j oj, k ≤ j → ops[j]? = some oj → j ≠ i → L.testBit j = false → (A.getD j 0).testBit i = false → Ph ops oi oj = true
 | [], k, hl, _, j, oj, hj, ho, _, _, _ => by
  have := hl (j - k)
  rw [show k + (j - k) = j by omega, ho] at this
  simp at this
 | o :: l, k, hl, h, j, oj, hj, ho, hji, hL, hb => by
  simp only [ON, Bool.and_eq_true, Bool.or_eq_true] at h
  by_cases hjk : j = k
  ·subst hjk
   have ho' : ops[j]? = some o := by simpa using (hl 0).symm
   rw [ho] at ho'
   cases ho'
   rcases h.1 with ((h | h) | h) | h
   ·exact (hji (Nat.eq_of_beq_eq_true h)).elim
   ·rw [hL] at h; cases h
   ·rw [hb] at h; cases h
   ·exact h
  ·exact Ji l (k + 1) (fun m => by have := hl (m + 1); simpa [Nat.add_assoc, Nat.add_comm 1 m] using this) h.2 j oj (by omega) ho hji hL hb
theorem BR (L i : Nat) : (L ||| 2 ^ i).testBit = G8 L.testBit i := by
 funext k
 simp only [Nat.testBit_or, Nat.testBit_two_pow, G8]
 by_cases h : i = k
 ·subst h; simp [Nat.beq_refl]
 ·rw [show Nat.beq k i = false from Bool.eq_false_iff.2 fun hh => h (Nat.eq_of_beq_eq_true hh).symm]
  simp [h]
theorem H7 {A : List Nat} : ∀ (l : List Oper) (B : List Nat), H4 A l B = true → ∀ (j : Nat) o, l[j]? = some o → B.getD j 0 = Pg A o.after.toList
 | o :: l, x :: r, h, j, o', ho => by
  simp only [H4, Bool.and_eq_true, Nat.beq_eq] at h
  cases j with
  | zero =>
   simp only [List.getElem?_cons_zero, Option.some.injEq] at ho
   subst ho
   simpa using h.1
  | succ j => simpa using H7 l r h.2 j o' (by simpa using ho)
 | [], [], h, j, o', ho => by simp at ho
 | [], _ :: _, h, _, _, _ => by simp [H4] at h
 | _ :: _, [], h, _, _, _ => by simp [H4] at h
def Jj (pd : Pk) : LR := pd.map fun p => (p.1, fun u => p.2.1 u = some (p.2.2, u))
theorem Kv {a : Nat} {w : World} : ∀ {pd : Pk}, Td a w pd → ∀ p ∈ Jj pd, a.testBit p.1 = false → p.2 w
 | [], _, p, hp, _ => by simp [Jj] at hp
 | q :: l, h, p, hp, hb => by
  obtain ⟨h1, h2⟩ := h
  simp only [Jj, List.map_cons, List.mem_cons] at hp
  rcases hp with rfl | hp
  ·simp only [] at hb
   rw [hb] at h1
   exact h1
  ·exact Kv h2 p hp hb
theorem LU {R : Type} {p : Prop} {x : Option R} {r : R} (h : AG p x = some r) : p ∧ x = some r := by
 unfold AG at h
 split at h
 ·exact ⟨‹_›, h⟩
 ·contradiction
theorem UH {R : Type} {p : Prop} (x : Option R) (h : p) : AG p x = x := by unfold AG; rw [if_pos h]
theorem LV {P : Program} {call : Cl} {ops : List Oper} {e : Env} {o : Oper} (hp : Jh o.op = true) {w : World} {r : Value × World}
  (h : II P call ops e o w = some r) (u : World) : II P call ops e o u = some (r.1, u) := by
 have key : ∀ r, R8 P call e o w = some r → R8 P call e o u = some (r.1, u) := by
  clear h
  intro r h
  obtain ⟨dst, op, type, pos, after, guard⟩ := o
  cases op <;> simp only [Jh] at hp <;> try contradiction
  all_goals simp only [R8] at h ⊢
  case pick x y z =>
   cases hc : val e x <;> rw [hc] at h <;> simp only [Ax] at h <;> try contradiction
   rename_i t
   cases t <;> simp only [Ax, Option.some.injEq] at h ⊢ <;> (subst h; rfl)
  all_goals (simp only [Option.some.injEq] at h; subst h; rfl)
 unfold II at h ⊢
 cases hg : o.guard with
 | none => simp only [hg] at h ⊢; exact key r h
 | some q =>
  obtain ⟨j, t⟩ := q
  simp only [hg, Ao] at h ⊢
  cases hw : JE (Pf ops e j) t with
  | true => simp only [hw] at h ⊢; exact key r h
  | false => simp only [hw, Option.some.injEq] at h ⊢; subst h; rfl
theorem GL.more {P : Program} {call : Cl} {n : Nat} {ops : List Oper} {A : List Nat} {R : Env → World → Prop} {F : LR} {i : Nat} {o : Oper} {e : Env} {v : Value}
  (ho : ops[i]? = some o) (hall : ∀ u, II P call ops e o u = some (v, u)) :
  ∀ (f : Nat) (L : Nat → Bool) (e' : Env) (w : World), GL P call n ops A R F f L e' w → GL P call n ops A R ((i, fun u => II P call ops e o u = some (v, u)) :: F) f L e' w
 | 0, _, _, _, h => h
 | f + 1, L, e', w, h => ⟨h.1, fun k ok hk hr => by
   obtain ⟨r, h1, h2, h3, h4⟩ := h.2 k ok hk hr
   refine ⟨r, h1, h2, fun hq p hp hb => ?_, GL.more ho hall f _ _ _ h4⟩
   rcases List.mem_cons.1 hp with rfl | hp
   ·exact hall _
   ·exact h3 hq p hp hb⟩
theorem Hw {P : Program} {call : Cl} {n : Nat} {ops : List Oper} {A : List Nat} (hA : LQ ops A) {R : Env → World → Prop} :
  ∀ (l : List Nat) (L : Nat) (e : Env) (w : World) (pd : Pk) (e' : Env) (w' : World), NR A L.testBit → H5 ops A l L = true →
   PT P call n ops A l e w pd = some (e', w') → R e' w' → GL P call n ops A R (Jj pd) l.length L.testBit e w
 | [], L, e, w, pd, e', w', hS, hp, h, hR => by
  simp only [PT, Option.some.injEq, Prod.mk.injEq] at h
  obtain ⟨rfl, rfl⟩ := h
  refine ⟨fun i hr => ?_, hR⟩
  obtain ⟨h0, o, ho, _⟩ := hr
  simp only [H5, Nat.beq_eq] at hp
  have hi : i < ops.length := (List.getElem?_eq_some_iff.1 ho).1
  have hL : L = 2 ^ ops.length - 1 := by omega
  rw [hL, Nat.testBit_two_pow_sub_one] at h0
  simp [hi] at h0
 | i :: l, L, e, w, pd, e', w', hS, hp, h, hR => by
  simp only [PT] at h
  simp only [H5] at hp
  cases ho : ops[i]? with
  | none => simp [ho] at h
  | some o =>
   simp only [ho, Bool.and_eq_true] at h hp
   obtain ⟨⟨hr, hf⟩, hp⟩ := hp
   have hr := (Dz ho).1 hr
   cases hg : II P call ops e o w with
   | none => simp [hg] at h
   | some r =>
    simp only [hg, Option.bind_some] at h
    cases hq : CH o.op with
    | true =>
     simp only [hq, cond_true] at h hf
     obtain ⟨hw, h⟩ := LU h
     have hg' : II P call ops e o w = some (r.1, w) := by rw [hg]; obtain ⟨a, b⟩ := r; simp only at hw; rw [hw]
     refine GL.first hA ho hq l.length L.testBit e w (Jj pd) hS hr (fun j oj hj hji hLj hb => Ji ops 0 (by simp) hf j oj (Nat.zero_le _) hj hji hLj hb) hg' ?_
     rw [← BR]
     have hS' : NR A (L ||| 2 ^ i).testBit := by rw [BR]; exact hS.set hA hr
     cases hpu : Jh o.op with
     | true =>
      simp only [hpu] at h
      exact GL.more ho (LV hpu hg) _ _ _ _ (Hw hA l _ _ _ pd e' w' hS' hp h hR)
     | false =>
      simp only [hpu] at h
      exact Hw hA l _ _ _ _ e' w' hS' hp h hR
    | false =>
     simp only [hq, cond_false] at h hf
     obtain ⟨hc, h2⟩ := LU h
     refine ⟨fun hn => (hn i hr).elim, fun j oj hj hrj => ?_⟩
     have hji := LS ops 0 (by simp) hf j (Nat.zero_le _) hrj
     subst hji
     rw [ho] at hj
     cases hj
     refine ⟨r, hg, fun hh => (by rw [hq] at hh; cases hh), fun _ => Kv hc, ?_⟩
     rw [← BR]
     exact Hw hA l _ _ _ pd e' w' (by rw [BR]; exact hS.set hA hr) hp h2 hR
theorem I4 {ops : List Oper} {A : List Nat} : ∀ (l : List Nat) (L : Nat), H5 ops A l L = true → ∀ (S : List Nat), S.Nodup → (∀ k, L.testBit k = true ↔ k ∈ S) → (∀ k ∈ S, k < ops.length) → S.length + l.length = ops.length
 | [], L, h, S, hn, hS, hb => by
  simp only [H5, Nat.beq_eq] at h
  have hL : L = 2 ^ ops.length - 1 := by omega
  have : S.Perm (List.range ops.length) := by
   refine (List.perm_ext_iff_of_nodup hn List.nodup_range).2 fun k => ?_
   rw [← hS k, hL, Nat.testBit_two_pow_sub_one]
   simp
  simpa using this.length_eq
 | i :: l, L, h, S, hn, hS, hb => by
  simp only [H5] at h
  cases ho : ops[i]? with
  | none => simp [ho] at h
  | some o =>
   simp only [ho, Bool.and_eq_true] at h
   have hr := (Dz ho).1 h.1.1
   have hi : i < ops.length := (List.getElem?_eq_some_iff.1 ho).1
   have := I4 l _ h.2 (i :: S) (List.nodup_cons.2 ⟨fun hm => (by rw [← hS, hr.1] at hm; cases hm), hn⟩)
    (fun k => by
     rw [BR]
     by_cases hk : k = i
     ·subst hk; simp [Kr]
     ·rw [Gd _ hk, hS]; simp [hk])
    (fun k hk => by
     rcases List.mem_cons.1 hk with hk | hk
     ·subst hk; exact hi
     ·exact hb k hk)
   simp only [List.length_cons] at this ⊢
   omega
section
variable {P : Program} {n : Nat}
theorem IE {e : Env} {a : Act} {w : World} {x : ResultVar} {v : Value} (ha : Is n e a) (h : Pm P e w x = some v) :
  (∃ t, x = .tmp t ∧ a.tmps[t]?.getD undef = v) ∨ ∃ b t y, x = .cell b t ∧ a.tmps[b]?.getD undef = .pointer (some y) ∧ (loadVar t y).run P w = .ok v w := by
 have hgg : ∀ t, a.tmps[t]?.getD undef = e t := fun t => by rw [← ha.get]; simp
 cases x with
 | tmp t =>
  simp only [Pm, Option.some.injEq] at h
  exact .inl ⟨t, rfl, by rw [hgg]; exact h⟩
 | cell b t =>
  simp only [Pm] at h
  refine .inr ⟨b, t, ?_⟩
  simp only [hgg]
  cases hv : e b with
  | pointer y =>
   cases y with
   | none => simp [hv, Instr.loadAt, Instr.sureAddr, ro] at h
   | some y =>
    rw [hv] at h
    simp only [Instr.loadAt, Instr.sureAddr, Sem.run_bind, Sem.run_pure, Result.andThen_ok] at h
    refine ⟨y, by first | rfl | trivial, by first | rfl | trivial, ?_⟩
    cases hr : (loadVar t y).run P w with
    | ok u w' =>
     rw [hr] at h
     simp only [ro, Option.bind_some] at h
     obtain ⟨h1, h2⟩ := LU h
     simp only [Option.some.injEq] at h2
     rw [h1, h2]
    | halt => rw [hr] at h; simp [ro] at h
  | _ => simp [hv, Instr.loadAt, Instr.sureAddr, ro] at h
theorem ED {α β : Type} {x : Option α} {f : α → Option β} {r : β} (h : x.bind f = some r) : ∃ v, x = some v ∧ f v = some r := by
 cases x with
 | none => simp at h
 | some v => exact ⟨v, rfl, h⟩
theorem Ry {fn : Func} {e : Env} {a : Act} {w : World} {r : Value × World} (ha : Is n e a) (h : Tg P fn e w = some r) :
  (results fn a.tmps).run P w = .ok r.1 w ∧ r.2 = w := by
 unfold Tg at h
 unfold results
 have hl : fn.results = fn.results.toList.toArray := by simp
 split at h
 ·rename_i heq
  rw [hl, heq]
  simp only [Option.some.injEq] at h
  subst h
  simp
 ·rename_i x heq
  rw [hl, heq]
  obtain ⟨v, h1, h⟩ := ED h
  simp only [Option.some.injEq] at h
  subst h
  rcases IE ha h1 with ⟨t1, rfl, k1⟩ | ⟨b1, t1, y1, rfl, k1, m1⟩ <;> simp [*, asAddr]
 ·rename_i x y heq
  rw [hl, heq]
  obtain ⟨v, h1, h⟩ := ED h
  obtain ⟨u, h2, h⟩ := ED h
  simp only [Option.some.injEq] at h
  subst h
  rcases IE ha h1 with ⟨t1, rfl, k1⟩ | ⟨b1, t1, y1, rfl, k1, m1⟩ <;> rcases IE ha h2 with ⟨t2, rfl, k2⟩ | ⟨b2, t2, y2, rfl, k2, m2⟩ <;> simp [*, asAddr]
 ·rename_i x y z heq
  rw [hl, heq]
  obtain ⟨v, h1, h⟩ := ED h
  obtain ⟨u, h2, h⟩ := ED h
  obtain ⟨t, h3, h⟩ := ED h
  simp only [Option.some.injEq] at h
  subst h
  rcases IE ha h1 with ⟨t1, rfl, k1⟩ | ⟨b1, t1, y1, rfl, k1, m1⟩ <;> rcases IE ha h2 with ⟨t2, rfl, k2⟩ | ⟨b2, t2, y2, rfl, k2, m2⟩ <;>
   rcases IE ha h3 with ⟨t3, rfl, k3⟩ | ⟨b3, t3, y3, rfl, k3, m3⟩ <;> simp [*, asAddr]
 ·contradiction
end
def Se (P : Program) (f : FuncId) (c : Code) (Q : Exit → Act → World → Prop) (a : Act) (w : World) : Prop :=
 ∀ (b : Frame) (k : List Item) (cs : List Frame), b.fn = f → ∃ e a' w', Q e a' w' ∧ Arrives P (lone (b.at a (.code c :: k)) cs w) b k cs e a' w'
section
variable {P : Program} {f : FuncId} {Q : Exit → Act → World → Prop} {a : Act} {w : World}
theorem Kw {c : Code} (h : c.wp P Q a w) : Se P f c Q a w := fun b k cs _ => h b k cs
theorem LW {c : Code} {Q' : Exit → Act → World → Prop} (h : Se P f c Q a w) (hq : ∀ e a w, Q e a w → Q' e a w) : Se P f c Q' a w :=
 fun b k cs hb => let ⟨e, a', w', q, r⟩ := h b k cs hb; ⟨e, a', w', hq _ _ _ q, r⟩
theorem UI {x y : Code} (h : Se P f x (Exit.then (Se P f y Q) Q) a w) : Se P f (Code.seq x y) Q a w := by
 intro b k cs hb
 obtain ⟨e, a₁, w₁, hq, harr⟩ := h b (.code y :: k) cs hb
 cases e with
 | normal =>
  obtain ⟨e₂, a₂, w₂, hq₂, harr₂⟩ := hq b k cs hb
  exact ⟨e₂, a₂, w₂, hq₂, .of_steps (.head step_seq harr) harr₂⟩
 | exit id => exact ⟨_, a₁, w₁, hq, .of_steps (.one step_seq) (.pass (x := .code y) rfl (fun _ _ => .inl (by simp)) harr)⟩
 | goto l => exact ⟨_, a₁, w₁, hq, .of_steps (.one step_seq) (.pass (x := .code y) rfl (fun _ _ => .inl (by simp)) harr)⟩
 | ret => exact ⟨_, a₁, w₁, hq, .of_steps (.one step_seq) (.pass (x := .code y) rfl (fun _ _ => .inl (by simp)) harr)⟩
 | panic ch => exact ⟨_, a₁, w₁, hq, .of_steps (.one step_seq) (.pass (x := .code y) rfl (fun _ _ => .inl (by simp)) harr)⟩
 | outgrown => exact ⟨_, a₁, w₁, hq, .of_steps (.one step_seq) (.pass (x := .code y) rfl (fun _ _ => .inl (by simp)) harr)⟩
theorem PX {c : Operand} {x y : Code} {t : Bool} (hc : a.eval c = .bool t) (h : Se P f (if t then x else y) Q a w) : Se P f (Code.cond c x y) Q a w :=
 fun b k cs hb => let ⟨e, a', w', q, r⟩ := h b k cs hb; ⟨e, a', w', q, .of_steps (.one (step_cond hc)) r⟩
theorem Sg {id : Nat} {c : Code} (h : Se P f c (Exit.inBlock id Q) a w) : Se P f (Code.block id c) Q a w := by
 intro b k cs hb
 obtain ⟨e, a₁, w₁, hq, harr⟩ := h b (.inBlock id :: k) cs hb
 cases e with
 | normal => exact ⟨.normal, a₁, w₁, hq, .head step_block (Steps.trans harr (.one step_inBlock))⟩
 | exit id' =>
  by_cases hid : id' = id
  ·simp only [Exit.inBlock, hid, if_true] at hq
   exact ⟨.normal, a₁, w₁, hq, .head step_block (harr k (by simp [exitTo, hid]))⟩
  ·simp only [Exit.inBlock, hid, if_false] at hq
   refine ⟨.exit id', a₁, w₁, hq, fun k' hk => .head step_block (harr k' ?_)⟩
   have : (id == id') = false := by simp; exact fun h => hid h.symm
   simp [exitTo, this, hk]
 | goto l => exact ⟨_, a₁, w₁, hq, fun k' hk => .head step_block (harr k' (by simp [gotoIn, hk]))⟩
 | ret => exact ⟨_, a₁, w₁, hq, .of_steps (.one step_block) harr⟩
 | panic ch => exact ⟨_, a₁, w₁, hq, .of_steps (.one step_block) harr⟩
 | outgrown => exact ⟨_, a₁, w₁, hq, .of_steps (b := b) (k := k) (cs := cs) (e := .outgrown) (.one step_block) harr⟩
theorem Po {fn : Func} {c : Code} {args : Array Value} {R : Ending → World → Prop} (hf : P.funcs[f]? = some fn) (hb : fn.body = some c)
  (h : Se P f c (bodyPost P fn R) { tmps := args ++ Array.replicate (fn.ntmps - args.size) undef, defers := [] } w) : Calls P f args w R := by
 intro cs
 let b : Frame := { (default : Frame) with fn := f, kind := .normal }
 have henter : Frame.enter P f args .normal =
   b.at { tmps := args ++ Array.replicate (fn.ntmps - args.size) undef, defers := [] } [.code c] := by
  simp [Frame.enter, Frame.at, hf, hb, b]
 obtain ⟨e, a', w', hq, harr⟩ := h b [] cs rfl
 rw [← henter] at harr
 cases e with
 | normal =>
  obtain ⟨hd, v, hr, hR⟩ := hq
  exact ⟨.returned v, w', _, hR, Steps.trans harr (.one step_end), rfl, rfl, hd, rfl, fn, hf, hr⟩
 | ret =>
  obtain ⟨hd, v, hr, hR⟩ := hq
  obtain ⟨todo, hs⟩ := harr
  exact ⟨.returned v, w', _, hR, hs, rfl, rfl, hd, rfl, fn, hf, hr⟩
 | panic chain =>
  obtain ⟨hd, hR⟩ := hq
  obtain ⟨todo, hs⟩ := harr
  exact ⟨.panicked chain, w', _, hR, hs, rfl, rfl, hd, fn, hf⟩
 | exit id => exact hq.elim
 | goto l => exact hq.elim
 | outgrown => exact ⟨.outgrown, w', b, hq, harr.resolve_left (by simp [b]), rfl, trivial⟩
end
theorem Pp {ops : Array Oper} : ∀ (L : Nat → Bool) (listed : Array Bool), listed.size = ops.size → (∀ k, k < ops.size → listed.getD k false = L k) → (∀ k, ops.size ≤ k → L k = false) → ∀ i, i ∈ Region.ready .any ops listed ↔ PV ops.toList L i := by
 have aE : ∀ ed : Edge, Region.binds .any ed = FJ ed := by
  intro ed
  unfold Region.binds FJ
  cases ed.ground <;> rfl
 intro L listed hsz hL hL2 i
 have hg : ∀ k, listed.getD k false = L k := by
  intro k
  by_cases hk : k < ops.size
  ·exact hL k hk
  ·rw [hL2 k (by omega), Array.getD_eq_getD_getElem?, Array.getElem?_eq_none (by omega)]; rfl
 rw [mem_ready]
 unfold PV
 simp only [Array.getElem?_toList, aE]
 constructor
 ·rintro ⟨h0, o, ho, h⟩
  have hi : i < ops.size := (Array.getElem?_eq_some_iff.1 ho).1
  refine ⟨?_, o, ho, fun ed he hb => by rw [← hg]; exact h ed he hb⟩
  rw [← hg]
  have : listed[i]? = some listed[i] := Array.getElem?_eq_getElem (by omega)
  rw [Array.getD_eq_getD_getElem?, this] at h0 ⊢
  exact h0
 ·rintro ⟨h0, o, ho, h⟩
  have hi : i < ops.size := (Array.getElem?_eq_some_iff.1 ho).1
  refine ⟨?_, o, ho, fun ed he hb => by rw [hg]; exact h ed he hb⟩
  rw [← hg] at h0
  have : listed[i]? = some listed[i] := Array.getElem?_eq_getElem (by omega)
  rw [Array.getD_eq_getD_getElem?, this] at h0 ⊢
  exact h0
theorem LX {ops : List Oper} {L i : Nat} : ∀ (l : List Oper) (k : Nat), (∀ j, l[j]? = ops[k + j]?) → (i ∈ Pl L l k ↔ k ≤ i ∧ ∃ o, ops[i]? = some o ∧ Fj L i o = true)
 | [], k, hl => by
  simp only [Pl, List.not_mem_nil, false_iff]
  rintro ⟨hk, o, ho, _⟩
  have := hl (i - k)
  rw [show k + (i - k) = i by omega, ho] at this
  simp at this
 | o :: l, k, hl => by
  have ho : ops[k]? = some o := by simpa using (hl 0).symm
  have ih := LX (ops := ops) (L := L) (i := i) l (k + 1) (fun m => by have := hl (m + 1); simpa [Nat.add_assoc, Nat.add_comm 1 m] using this)
  simp only [Pl]
  cases hr : Fj L k o with
  | true =>
   simp only [cond_true, List.mem_cons, ih]
   constructor
   ·rintro (rfl | ⟨h1, h2⟩)
    ·exact ⟨Nat.le_refl _, o, ho, hr⟩
    ·exact ⟨by omega, h2⟩
   ·rintro ⟨h1, h2⟩
    by_cases hik : i = k
    ·exact .inl hik
    ·exact .inr ⟨by omega, h2⟩
  | false =>
   simp only [cond_false, ih]
   constructor
   ·rintro ⟨h1, h2⟩; exact ⟨by omega, h2⟩
   ·rintro ⟨h1, o', ho', h2⟩
    by_cases hik : i = k
    ·subst hik
     rw [ho] at ho'
     cases ho'
     rw [hr] at h2
     cases h2
    ·exact ⟨by omega, o', ho', h2⟩
theorem OP {F : Nat → Prop} : ∀ {l : List Nat}, Tf F l → ∀ i ∈ l, F i
 | [], h, i, hi => by simp at hi
 | [a], h, i, hi => by simp only [List.mem_singleton] at hi; subst hi; exact h
 | a :: b :: l, h, i, hi => by
  rcases List.mem_cons.1 hi with rfl | hi
  ·exact h.1
  ·exact OP h.2 i hi
theorem LY {ops : List Oper} {L : Nat} : ∀ (l : List Oper) (k : Nat), (∀ j, l[j]? = ops[k + j]?) → LN true L l k = none → ∀ j o, k ≤ j → ops[j]? = some o → Fj L j o = true → CH o.op = false
 | [], k, hl, _, j, o, hj, ho, _ => by
  have := hl (j - k)
  rw [show k + (j - k) = j by omega, ho] at this
  simp at this
 | o :: l, k, hl, h, j, o', hj, ho', hr => by
  have ho : ops[k]? = some o := by simpa using (hl 0).symm
  simp only [LN, Bool.not_true, Bool.false_or] at h
  cases hc : (Fj L k o && CH o.op) with
  | true => rw [hc] at h; simp at h
  | false =>
   rw [hc] at h
   by_cases hjk : j = k
   ·subst hjk
    rw [ho] at ho'
    cases ho'
    rw [hr] at hc
    simpa using hc
   ·exact LY l (k + 1) (fun m => by have := hl (m + 1); simpa [Nat.add_assoc, Nat.add_comm 1 m] using this) (by simpa using h) j o' (by omega) ho' hr
theorem Tj {P : Program} {call : Cl} {n : Nat} {ops : List Oper} {A : List Nat} (hA : LQ ops A) {K : Env → World → Prop} :
  ∀ (fu L : Nat) (e : Env) (w : World) (pd : Pk), NR A L.testBit → VP P call n ops A K fu L e w pd → GL P call n ops A K (Jj pd) fu L.testBit e w := by
 intro fu
 have full : ∀ (L : Nat), L + 1 = 2 ^ ops.length → ∀ i, ¬ PV ops L.testBit i := by
  intro L hp i hr
  obtain ⟨h0, o, ho, _⟩ := hr
  have hi : i < ops.length := (List.getElem?_eq_some_iff.1 ho).1
  have hL : L = 2 ^ ops.length - 1 := by omega
  rw [hL, Nat.testBit_two_pow_sub_one] at h0
  simp [hi] at h0
 induction fu with
 | zero =>
  intro L e w pd hS h
  unfold VP at h
  cases hf : Nat.beq (L + 1) (2 ^ ops.length) with
  | true =>
   rw [hf] at h
   exact ⟨full L (Nat.eq_of_beq_eq_true hf), h⟩
  | false => rw [hf] at h; exact h.elim
 | succ fu ih =>
  intro L e w pd hS h
  unfold VP at h
  cases hf : Nat.beq (L + 1) (2 ^ ops.length) with
  | true =>
   rw [hf] at h
   exact ⟨fun _ => h, fun i o _ hr => (full L (Nat.eq_of_beq_eq_true hf) i hr).elim⟩
  | false =>
   rw [hf] at h
   simp only [] at h
   cases hp : LN true L ops 0 with
   | some i =>
    rw [hp] at h
    simp only [] at h
    cases ho : ops[i]? with
    | none => rw [ho] at h; exact h.elim
    | some o =>
     rw [ho] at h
     simp only [] at h
     cases hc : (Fj L i o && (CH o.op && ON ops A L i o ops 0)) with
     | false => rw [hc] at h; exact h.elim
     | true =>
      rw [hc] at h
      simp only [Bool.and_eq_true] at hc
      obtain ⟨hr, hq, hfr⟩ := hc
      have hr := (Dz ho).1 hr
      obtain ⟨r, hg, hw, h⟩ := h
      have hg' : II P call ops e o w = some (r.1, w) := by rw [hg]; obtain ⟨a, b⟩ := r; simp only at hw; rw [hw]
      refine GL.first hA ho hq fu L.testBit e w (Jj pd) hS hr (fun j oj hj hji hLj hb => Ji ops 0 (by simp) hfr j oj (Nat.zero_le _) hj hji hLj hb) hg' ?_
      rw [← BR]
      have hS' : NR A (L ||| 2 ^ i).testBit := by rw [BR]; exact hS.set hA hr
      cases hpu : Jh o.op with
      | true =>
       simp only [hpu] at h
       exact GL.more ho (LV hpu hg) _ _ _ _ (ih _ _ _ pd hS' h)
      | false =>
       simp only [hpu] at h
       exact ih _ _ _ _ hS' h
   | none =>
    rw [hp] at h
    simp only [] at h
    have hm := OP h
    have mem : ∀ i, PV ops L.testBit i → i ∈ Pl L ops 0 := by
     intro i hr
     obtain ⟨o, ho⟩ : ∃ o, ops[i]? = some o := ⟨hr.2.choose, hr.2.choose_spec.1⟩
     exact (LX (ops := ops) ops 0 (by simp)).2 ⟨Nat.zero_le _, o, ho, (Dz ho).2 hr⟩
    refine ⟨fun hn => ?_, fun i o ho hr => ?_⟩
    ·cases hl : Pl L ops 0 with
     | nil => rw [hl] at h; exact h.elim
     | cons i l =>
      have hi : i ∈ Pl L ops 0 := by rw [hl]; exact List.mem_cons_self
      obtain ⟨_, o, ho, hr⟩ := (LX (ops := ops) ops 0 (by simp)).1 hi
      exact (hn i ((Dz ho).1 hr)).elim
    ·have hi := hm i (mem i hr)
     rw [ho] at hi
     obtain ⟨r, hg, hc, h2⟩ := hi
     have hq := LY ops 0 (by simp) hp i o (Nat.zero_le _) ho ((Dz ho).2 hr)
     refine ⟨r, hg, fun hh => (by rw [hq] at hh; cases hh), fun _ => Kv hc, ?_⟩
     rw [← BR]
     exact ih _ _ _ pd (by rw [BR]; exact hS.set hA hr) h2
theorem Sh {P : Program} {call : Cl} {n : Nat} {ops : Array Oper} {A : List Nat} {F : LR} {R : Env → World → Prop} :
  ∀ (f : Nat) (L : Nat → Bool) (listed : Array Bool) (e : Env) (w : World) (t : Nat), listed.size = ops.size → (∀ k, k < ops.size → listed.getD k false = L k) → (∀ k, ops.size ≤ k → L k = false) →
   GL P call n ops.toList A R F f L e w → ∃ r, opsL P call n ops.toList (Region.linearise.go .any ops f t listed []) e w = some r ∧ R r.1 r.2 := by
 intro f
 induction f with
 | zero =>
  intro L listed e w t hsz hL hL2 h
  refine ⟨(e, w), ?_, h.2⟩
  simp [Region.linearise.go, opsL]
 | succ f ih =>
  intro L listed e w t hsz hL hL2 h
  obtain ⟨h0, h1⟩ := h
  simp only [Region.linearise.go]
  change ∃ r, opsL P call n ops.toList (match (Region.ready .any ops listed)[t % (Region.ready .any ops listed).length]? with
   | some i => Region.linearise.go .any ops f (t / (Region.ready .any ops listed).length) (listed.setIfInBounds i true) [i]
   | none => [].reverse) e w = some r ∧ R r.1 r.2
  cases hi : (Region.ready .any ops listed)[t % (Region.ready .any ops listed).length]? with
  | none =>
   have hnil : Region.ready .any ops listed = [] := by
    cases hr : Region.ready .any ops listed with
    | nil => rfl
    | cons x xs =>
     rw [hr] at hi
     have hlt : t % (x :: xs).length < (x :: xs).length := Nat.mod_lt _ (by simp)
     simp at hi
     simp at hlt
     omega
   refine ⟨(e, w), by simp [opsL], h0 fun i hi => ?_⟩
   have := (Pp L listed hsz hL hL2 i).2 hi
   rw [hnil] at this
   cases this
  | some i =>
   simp only []
   rw [linearise_go_acc, List.reverse_singleton, List.singleton_append]
   have hr := (Pp L listed hsz hL hL2 i).1 (List.mem_of_getElem? hi)
   obtain ⟨o, ho⟩ : ∃ o, ops.toList[i]? = some o := ⟨hr.2.choose, hr.2.choose_spec.1⟩
   obtain ⟨r, g1, _, _, g4⟩ := h1 i o ho hr
   have hi' : i < ops.size := by rw [Array.getElem?_toList] at ho; exact (Array.getElem?_eq_some_iff.1 ho).1
   simp only [opsL, ho, g1, Option.bind_some]
   refine ih (G8 L i) _ _ _ _ (by simpa using hsz) ?_ ?_ g4
   ·intro k hk
    by_cases hki : k = i
    ·subst hki
     rw [Kr, Array.getD_eq_getD_getElem?]
     simp [hsz, hi']
    ·rw [Gd L hki, ← hL k hk]
     exact getD_set_ne false (Ne.symm hki)
   ·intro k hk
    rw [Gd L (by omega)]
    exact hL2 k hk
theorem Tk {P : Program} {call : Cl} {n : Nat} {ops : List Oper} {K : Env → World → Prop} {e : Env} {w : World} {t : Nat} (hc : H4 (JF ops []) ops (JF ops []) = true)
  (h : VP P call n ops (JF ops []) K ops.length 0 e w []) : ∃ r, opsL P call n ops (Region.schedule true ops.toArray t) e w = some r ∧ K r.1 r.2 := by
 have hA : LQ ops (JF ops []) := H7 _ _ hc
 have h1 := Tj hA ops.length 0 e w [] (by intro k i hk; simp at hk) h
 have h2 := Sh (ops := ops.toArray) ops.length (Nat.testBit 0) (Array.replicate ops.length false) e w t (by simp) (by
  intro k hk
  have : k < ops.length := by simpa using hk
  simp [Array.getD_eq_getD_getElem?, this]) (by simp) (by simpa using h1)
 have e : Region.schedule true ops.toArray t = Region.linearise.go .any ops.toArray ops.length t (Array.replicate ops.length false) [] := by
  simp [Region.schedule, Region.linearise]
 rw [e]
 exact h2
section
variable {P : Program} (hP : Plain P) {n : Nat}
 include hP
theorem NS {ops : Array Oper} {A : List Nat} {F : LR} {Q : Exit → Act → World → Prop} {R : Env → World → Prop} (hQ : ∀ e a w, R e w → Is n e a → Q .normal a w) :
  ∀ (f : Nat) (L : Nat → Bool) (listed : Array Bool) (e : Env) (a : Act) (w : World), listed.size = ops.size → (∀ k, k < ops.size → listed.getD k false = L k) → (∀ k, ops.size ≤ k → L k = false) → Is n e a →
   GL P (EV P) n ops.toList A R F f L e w → wpAny P .any ops Q f listed a w := by
 have rdy := @Pp ops
 intro f
 induction f with
 | zero =>
  intro L listed e a w hsz hL hL2 ha h
  refine ⟨?_, hQ _ _ _ h.2 ha⟩
  rw [List.eq_nil_iff_forall_not_mem]
  intro i hi
  exact h.1 i ((rdy L listed hsz hL hL2 i).1 hi)
 | succ f ih =>
  intro L listed e a w hsz hL hL2 ha h
  refine ⟨fun h0 => hQ _ _ _ (h.1 fun i hi => ?_) ha, fun i hi => ?_⟩
  ·have := (rdy L listed hsz hL hL2 i).2 hi
   rw [h0] at this
   cases this
  ·have hr := (rdy L listed hsz hL hL2 i).1 hi
   obtain ⟨o, ho⟩ : ∃ o, ops.toList[i]? = some o := ⟨hr.2.choose, hr.2.choose_spec.1⟩
   obtain ⟨r, h1, _, _, h4⟩ := h.2 i o ho hr
   rw [Array.getElem?_toList] at ho
   have hi' : i < ops.size := (Array.getElem?_eq_some_iff.1 ho).1
   refine Kq hP ho ha h1 (ih (G8 L i) _ _ _ _ (by simpa using hsz) ?_ ?_ (ha.put _ _) h4)
   ·intro k hk
    by_cases hki : k = i
    ·subst hki
     rw [Kr, Array.getD_eq_getD_getElem?]
     simp [hsz, hi']
    ·rw [Gd L hki, ← hL k hk]
     exact getD_set_ne false (Ne.symm hki)
   ·intro k hk
    rw [Gd L (by omega)]
    exact hL2 k hk
theorem Jk {ops : Array Oper} {Q : Exit → Act → World → Prop} {e' : Env} {w' : World} (hQ : ∀ a, Is n e' a → Q .normal a w') :
  ∀ (l : List Nat) (e : Env) (a : Act) (w : World), Is n e a → opsL P (EV P) n ops.toList l e w = some (e', w') → wpOps P ops Q l a w
 | [], e, a, w, ha, h => by
  simp only [opsL, Option.some.injEq, Prod.mk.injEq] at h
  obtain ⟨rfl, rfl⟩ := h
  simpa [wpOps] using hQ a ha
 | i :: l, e, a, w, ha, h => by
  simp only [opsL] at h
  cases ho : ops.toList[i]? with
  | none =>
   rw [ho] at h
   rw [Array.getElem?_toList] at ho
   simp only [wpOps, ho]
   exact Jk hQ l e a w ha h
  | some o =>
   rw [ho] at h
   simp only [] at h
   cases hr : II P (EV P) ops.toList e o w with
   | none => simp [hr] at h
   | some r =>
    simp only [hr, Option.bind_some] at h
    rw [Array.getElem?_toList] at ho
    rw [wpOps_cons]
    exact Kq hP ho ha hr (Jk hQ l _ _ _ (ha.put _ _) h)
theorem Si (hm : P.follows .mixedOrders = true) {fid : FuncId} {id : Nat} {ops : Array Oper} {Q : Exit → Act → World → Prop} {e e' : Env} {a : Act} {w w' : World} (ha : Is n e a)
  (h : WQ P (EV P) fid id n ops.toList e w = some (e', w')) (hQ : ∀ a, Is n e' a → Q .normal a w') : Se P fid (Code.region id ops true) Q a w := by
 unfold WQ at h
 cases hb : R9 ops.toList with
 | true =>
  rw [hb] at h
  simp only [] at h
  unfold R9 at hb
  simp only [Bool.and_eq_true] at hb
  have hA : LQ ops.toList (JF ops.toList []) := H7 _ _ hb.1
  have hlen := I4 _ _ hb.2 [] List.nodup_nil (by simp) (by simp)
  have := Hw (R := fun x y => x = e' ∧ y = w') hA _ 0 e _ [] e' w' (by intro k i hk; simp at hk) hb.2 h ⟨rfl, rfl⟩
  refine Kw (wp_region_any hm ?_)
  simp only [List.length_nil, Nat.zero_add] at hlen
  rw [hlen, Array.length_toList] at this
  refine NS hP (R := fun x y => x = e' ∧ y = w') (fun x b y hxy hb => ?_) ops.size (Nat.testBit 0) _ e a _ (by simp) ?_ (by simp) ha this
  ·obtain ⟨rfl, rfl⟩ := hxy; exact hQ b hb
  ·intro k hk
   simp [Array.getD_eq_getD_getElem?, hk]
 | false =>
  rw [hb] at h
  simp only [] at h
  intro b k cs hbf
  have h1 := Jk hP (Q := Q) hQ _ e a _ ha h
  obtain ⟨x, a1, w1, hq, harr⟩ := wp_ops _ a _ h1 b k cs
  refine ⟨x, a1, w1, hq, .of_steps (.one ?_) harr⟩
  rw [step_region_draw, hm, hbf]
def Ex.to : Ex → Exit
 | .normal => .normal
 | .exit id => .exit id
 | .ret => .ret
theorem Sj (hm : P.follows .mixedOrders = true) {fid : FuncId} : ∀ (c : Code) (e : Env) (a : Act) (w : World) (r : St), Is n e a → Hv P (EV P) fid n c e w = some r →
  Se P fid c (fun x a' w' => x = Ex.to r.1 ∧ Is n r.2.1 a' ∧ w' = r.2.2) a w := by
 intro c
 induction c with
 | skip =>
  intro e a w r ha h
  simp only [Hv, Option.some.injEq] at h
  subst h
  exact Kw (wp_skip ⟨rfl, ha, rfl⟩)
 | label l =>
  intro e a w r ha h
  simp only [Hv, Option.some.injEq] at h
  subst h
  exact Kw (wp_label ⟨rfl, ha, rfl⟩)
 | region id ops draw =>
  intro e a w r ha h
  cases draw with
  | false =>
   simp only [Hv] at h
   cases hr : PS P (EV P) n ops.toList ops.toList e w with
   | none => simp [hr] at h
   | some x =>
    simp only [hr, Option.bind_some, Option.some.injEq] at h
    subst h
    refine Kw (wp_region ?_)
    have := LO hP (ops := ops) (Q := fun y a' w' => y = Ex.to .normal ∧ Is n x.1 a' ∧ w' = x.2) (e' := x.1) (w' := x.2) (fun a' h' => ⟨rfl, h', rfl⟩) ops.toList 0 (by simp) e a w ha hr
    rw [List.range_eq_range']
    simpa using this
  | true =>
   simp only [Hv] at h
   cases hr : WQ P (EV P) fid id n ops.toList e w with
   | none => simp [hr] at h
   | some x =>
    simp only [hr, Option.bind_some, Option.some.injEq] at h
    subst h
    exact Si hP hm ha hr fun a' h' => ⟨rfl, h', rfl⟩
 | seq x y ihx ihy =>
  intro e a w r ha h
  simp only [Hv] at h
  cases hr : Hv P (EV P) fid n x e w with
  | none => simp [hr] at h
  | some q =>
   simp only [hr, Option.bind_some] at h
   obtain ⟨q1, q2, q3⟩ := q
   refine UI (LW (ihx e a w _ ha hr) ?_)
   rintro z a' w' ⟨hz, ha', hw'⟩
   subst hz
   simp only at hw' ha'
   subst hw'
   cases q1 <;> simp only [] at h
   ·exact ihy _ _ _ _ ha' h
   ·simp only [Option.some.injEq] at h; subst h; exact ⟨rfl, ha', rfl⟩
   ·simp only [Option.some.injEq] at h; subst h; exact ⟨rfl, ha', rfl⟩
 | cond c x y ihx ihy =>
  intro e a w r ha h
  simp only [Hv] at h
  split at h
  ·rename_i hc
   exact PX (t := true) (by rw [ha.eval]; exact hc) (ihx _ _ _ _ ha h)
  ·rename_i hc
   exact PX (t := false) (by rw [ha.eval]; exact hc) (ihy _ _ _ _ ha h)
  ·contradiction
 | block id c ih =>
  intro e a w r ha h
  simp only [Hv] at h
  cases hr : Hv P (EV P) fid n c e w with
  | none => simp [hr] at h
  | some q =>
   simp only [hr, Option.bind_some] at h
   obtain ⟨q1, q2, q3⟩ := q
   refine Sg (LW (ih e a w _ ha hr) ?_)
   rintro z a' w' ⟨hz, ha', hw'⟩
   subst hz
   simp only at hw' ha'
   subst hw'
   cases q1 <;> simp only [Option.some.injEq] at h
   ·subst h; exact ⟨rfl, ha', rfl⟩
   ·rename_i i
    subst h
    show if _ then _ else _
    by_cases hi : i = id
    ·subst hi
     rw [if_pos rfl, Nat.beq_refl]
     exact ⟨rfl, ha', rfl⟩
    ·rw [if_neg hi, show Nat.beq i id = false from Bool.eq_false_iff.2 fun hh => hi (Nat.eq_of_beq_eq_true hh)]
     exact ⟨rfl, ha', rfl⟩
   ·subst h; exact ⟨rfl, ha', rfl⟩
 | loop c ih =>
  intro e a w r ha h
  simp only [Hv, PU] at h
  obtain ⟨m, h⟩ := QU h
  have key : ∀ m e a w, Is n e a → Gc (Hv P (EV P) fid n c) m e w = some r → ∀ (b : Frame) k cs, b.fn = fid → ∃ x a' w', (x = Ex.to r.1 ∧ Is n r.2.1 a' ∧ w' = r.2.2) ∧
    Arrives P (lone (b.at a (.code c :: .inLoop c :: k)) cs w) b k cs x a' w' := by
   intro m
   induction m with
   | zero => intro e a w ha h; simp [Gc] at h
   | succ m ihm =>
    intro e a w ha h b k cs hb
    rw [Gc] at h
    cases hr : Hv P (EV P) fid n c e w with
    | none => simp [hr] at h
    | some q =>
     simp only [hr, Option.bind_some] at h
     obtain ⟨q1, q2, q3⟩ := q
     obtain ⟨x, a1, w1, ⟨hx, ha1, hw1⟩, harr⟩ := ih e a w _ ha hr b (.inLoop c :: k) cs hb
     subst hx
     simp only at hw1 ha1
     subst hw1
     cases q1 <;> simp only [] at h
     ·obtain ⟨x, a2, w2, hq, h2⟩ := ihm _ a1 w1 ha1 h b k cs hb
      exact ⟨x, a2, w2, hq, .of_steps (Steps.trans harr (.one step_inLoop)) h2⟩
     ·simp only [Option.some.injEq] at h
      subst h
      exact ⟨_, a1, w1, ⟨rfl, ha1, rfl⟩, .pass (x := .inLoop c) rfl (fun _ _ => .inl (by simp [Ex.to])) harr⟩
     ·simp only [Option.some.injEq] at h
      subst h
      exact ⟨_, a1, w1, ⟨rfl, ha1, rfl⟩, .pass (x := .inLoop c) rfl (fun _ _ => .inl (by simp [Ex.to])) harr⟩
  intro b k cs hb
  obtain ⟨x, a', w', hq, harr⟩ := key m e a w ha h b k cs hb
  exact ⟨x, a', w', hq, .of_steps (.one step_loop) harr⟩
 | exit id =>
  intro e a w r ha h
  simp only [Hv, Option.some.injEq] at h
  subst h
  exact Kw (wp_exit ⟨rfl, ha, rfl⟩)
 | ret =>
  intro e a w r ha h
  simp only [Hv, Option.some.injEq] at h
  subst h
  exact Kw (wp_ret ⟨rfl, ha, rfl⟩)
 | rangeFunc => intro e a w r ha h; simp [Hv] at h
 | scope => intro e a w r ha h; simp [Hv] at h
 | goto => intro e a w r ha h; simp [Hv] at h
 | refuse => intro e a w r ha h; simp [Hv] at h
theorem Sk (hm : P.follows .mixedOrders = true) {f : FuncId} {args : Array Value} {w : World} {r : Value × World}
  (hsz : ∀ fn, P.funcs[f]? = some fn → args.size ≤ fn.ntmps) (h : W8 P (EV P) f args w = some r) : CE P f args w r := by
 unfold W8 at h
 rw [Array.getElem?_toList] at h
 cases hf : P.funcs[f]? with
 | none => simp [hf] at h
 | some fn =>
  simp only [hf] at h
  cases hb : fn.body with
  | none => simp [hb] at h
  | some c =>
   simp only [hb] at h
   have hsz := hsz fn hf
   cases hr : Hv P (EV P) f fn.ntmps c (AO args) w with
   | none => simp [hr] at h
   | some q =>
    simp only [hr, Option.bind_some] at h
    have ha : Is fn.ntmps (AO args) { tmps := args ++ Array.replicate (fn.ntmps - args.size) undef, defers := [] } := by
     refine ⟨by simp; omega, fun t => ?_, rfl⟩
     simp only [AO, Array.getD_eq_getD_getElem?, Array.getElem?_append, Array.getElem?_toList]
     split
     ·rfl
     ·rw [Array.getElem?_eq_none (xs := args) (by omega), Array.getElem?_replicate]
      split <;> rfl
    refine Po hf hb (LW (Sj hP hm c _ _ w q ha hr) ?_)
    rintro x a' w' ⟨hx, ha', hw'⟩
    subst hx
    subst hw'
    obtain ⟨q1, q2, q3⟩ := q
    cases q1 <;> simp only [] at h
    ·obtain ⟨h1, h2⟩ := Ry ha' h
     exact ⟨ha'.no, _, h1, rfl, h2.symm⟩
    ·contradiction
    ·obtain ⟨h1, h2⟩ := Ry ha' h
     exact ⟨ha'.no, _, h1, rfl, h2.symm⟩
theorem W9 (hm : P.follows .mixedOrders = true) {f : FuncId} {args : Array Value} {w : World} {r : Value × World}
  (hi : P.inits.idxOf? f = none) (hsz : ∀ fn, P.funcs[f]? = some fn → args.size ≤ fn.ntmps) (h : W8 P (EV P) f args w = some r) : EV P f args w = some r :=
 Ti hi (Sk hP hm hsz h)
end
noncomputable def Ah {R : Type} (f : World → Option (Value × World)) (w : World) (k : Value × World → Option R) : Option R := (f w).bind fun r => AG (r.2 = w) (k r)
@[simp ↓] theorem bO {α β : Type} (x : Option α) (f : α → Option β) : (x >>= f) = x.bind f := rfl
@[simp ↓] theorem Zi {R : Type} (f : World → Option (Value × World)) (w : World) (k : Value × World → Option R) : Ah f w k = (f w).bind fun r => AG (r.2 = w) (k r) := rfl
abbrev Zj : Prop := True ∧ True
@[simp] theorem Zk : Zj = True := by simp [Zj]
abbrev qt3 : Prop := True ∧ True ∧ True
@[simp] theorem Zl : qt3 = True := by simp [qt3]
abbrev qt4 : Prop := True ∧ True ∧ True ∧ True
@[simp] theorem Zm : qt4 = True := by simp [qt4]
abbrev qt5 : Prop := True ∧ True ∧ True ∧ True ∧ True
@[simp] theorem Zn : qt5 = True := by simp [qt5]
abbrev qt6 : Prop := True ∧ True ∧ True ∧ True ∧ True ∧ True
@[simp] theorem Zo : qt6 = True := by simp [qt6]
abbrev qt7 : Prop := True ∧ True ∧ True ∧ True ∧ True ∧ True ∧ True
@[simp] theorem Zp : qt7 = True := by simp [qt7]
abbrev qt8 : Prop := True ∧ True ∧ True ∧ True ∧ True ∧ True ∧ True ∧ True
@[simp] theorem Zq : qt8 = True := by simp [qt8]
abbrev qt9 : Prop := True ∧ True ∧ True ∧ True ∧ True ∧ True ∧ True ∧ True ∧ True
@[simp] theorem Zr : qt9 = True := by simp [qt9]
abbrev qt10 : Prop := True ∧ True ∧ True ∧ True ∧ True ∧ True ∧ True ∧ True ∧ True ∧ True
@[simp] theorem Ys : qt10 = True := by simp [qt10]
abbrev qt11 : Prop := True ∧ True ∧ True ∧ True ∧ True ∧ True ∧ True ∧ True ∧ True ∧ True ∧ True
@[simp] theorem Yt : qt11 = True := by simp [qt11]
abbrev qt12 : Prop := True ∧ True ∧ True ∧ True ∧ True ∧ True ∧ True ∧ True ∧ True ∧ True ∧ True ∧ True
@[simp] theorem Yu : qt12 = True := by simp [qt12]
abbrev qt13 : Prop := True ∧ True ∧ True ∧ True ∧ True ∧ True ∧ True ∧ True ∧ True ∧ True ∧ True ∧ True ∧ True
@[simp] theorem Yv : qt13 = True := by simp [qt13]
abbrev qt14 : Prop := True ∧ True ∧ True ∧ True ∧ True ∧ True ∧ True ∧ True ∧ True ∧ True ∧ True ∧ True ∧ True ∧ True
@[simp] theorem Yw : qt14 = True := by simp [qt14]
abbrev qt15 : Prop := True ∧ True ∧ True ∧ True ∧ True ∧ True ∧ True ∧ True ∧ True ∧ True ∧ True ∧ True ∧ True ∧ True ∧ True
@[simp] theorem Yx : qt15 = True := by simp [qt15]
abbrev qt17 : Prop := True ∧ True ∧ True ∧ True ∧ True ∧ True ∧ True ∧ True ∧ True ∧ True ∧ True ∧ True ∧ True ∧ True ∧ True ∧ True ∧ True
@[simp] theorem Yy : qt17 = True := by simp [qt17]
abbrev qt18 : Prop := True ∧ True ∧ True ∧ True ∧ True ∧ True ∧ True ∧ True ∧ True ∧ True ∧ True ∧ True ∧ True ∧ True ∧ True ∧ True ∧ True ∧ True
@[simp] theorem Yz : qt18 = True := by simp [qt18]
abbrev qt19 : Prop := True ∧ True ∧ True ∧ True ∧ True ∧ True ∧ True ∧ True ∧ True ∧ True ∧ True ∧ True ∧ True ∧ True ∧ True ∧ True ∧ True ∧ True ∧ True
@[simp] theorem YA : qt19 = True := by simp [qt19]
abbrev qt21 : Prop := True ∧ True ∧ True ∧ True ∧ True ∧ True ∧ True ∧ True ∧ True ∧ True ∧ True ∧ True ∧ True ∧ True ∧ True ∧ True ∧ True ∧ True ∧ True ∧ True ∧ True
@[simp] theorem YB : qt21 = True := by simp [qt21]
abbrev qt22 : Prop := True ∧ True ∧ True ∧ True ∧ True ∧ True ∧ True ∧ True ∧ True ∧ True ∧ True ∧ True ∧ True ∧ True ∧ True ∧ True ∧ True ∧ True ∧ True ∧ True ∧ True ∧ True
@[simp] theorem YC : qt22 = True := by simp [qt22]
abbrev qt27 : Prop := True ∧ True ∧ True ∧ True ∧ True ∧ True ∧ True ∧ True ∧ True ∧ True ∧ True ∧ True ∧ True ∧ True ∧ True ∧ True ∧ True ∧ True ∧ True ∧ True ∧ True ∧ True ∧ True ∧ True ∧ True ∧ True ∧ True
@[simp] theorem YD : qt27 = True := by simp [qt27]
end Go.Ev
