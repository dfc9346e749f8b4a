/- A part of the proof, without conditions. -/
import Derived.Calls
import Derived.Orders
import Derived.Laws.Sem
set_option linter.unusedVariables false
set_option linter.unusedSimpArgs false
set_option linter.deprecated false
namespace Go.Ev
open Go
abbrev Env := Nat → Value
def Qa (e : Env) (d : Nat) (v : Value) : Env := fun t => bif Nat.beq t d then v else e t
def put (n : Nat) (e : Env) : Option Nat → Value → Env
 | none, _ => e
 | some d, v => bif Nat.blt d n then Qa e d v else e
def val (e : Env) : Operand → Value
 | .tmp t => e t
 | .const v => v
 | .global g => .pointer (some ⟨g, 0, none⟩)
 | .func f => .func (.func f) #[] #[]
def Eh (e : Env) (xs : Array Operand) : Array Value := (xs.toList.map (val e)).toArray
def AN (args : Array Value) : Env := fun t => (args.toList[t]?).getD undef
abbrev Cl := FuncId → Array Value → World → Option (Value × World)
def ro : Result Value → Option (Value × World)
 | .ok v w => some (v, w)
 | .halt _ _ => none
def rs : Result Unit → Option (Value × World)
 | .ok _ w => some (undef, w)
 | .halt _ _ => none
def nx (call : Cl) : Result Next → Option (Value × World)
 | .ok (.value v) w => some (v, w)
 | .ok .skip w => some (undef, w)
 | .ok (.enter f args) w => call f args w
 | _ => none
def VB (P : Program) (call : Cl) (g : FuncId) (args : Array Value) (w : World) : Option (Value × World) :=
 match P.funcs.toList[g]? with
 | some fn => match fn.body with
  | some _ => call g args w
  | none => nx call ((callFunc g args).run P w)
 | none => none
def SA (P : Program) (call : Cl) (f : Value) (args : Array Value) (w : World) : Option (Value × World) :=
 match f with
 | .func (.func g) first cap => VB P call g (first.toList ++ (args.toList ++ cap.toList)).toArray w
 | _ => none
def Ie (e : Env) (ps : Array (Nat × Operand)) : Array (Nat × Value) := (ps.toList.map fun p => (p.1, val e p.2)).toArray
def PS (e : Env) : Option Operand → Option Value
 | none => none
 | some x => some (val e x)
def Az : Value → Value → Value → World → Option (Value × World)
 | .bool true, a, _, w => some (a, w)
 | .bool false, _, b, w => some (b, w)
 | _, _, _, _ => none
def Q1 (P : Program) (call : Cl) (e : Env) (o : Oper) (w : World) : Option (Value × World) :=
 match o.op with
 | .move x => some (val e x, w)
 | .assign x => some (val e x, w)
 | .pick c a b => Az (val e c) (val e a) (val e b) w
 | .alloc t => ro ((Instr.alloc t true (.tuple #[])).run P w)
 | .box t x => ro ((Instr.box t (val e x)).run P w)
 | .build t ps => ro ((Instr.build t (Ie e ps)).run P w)
 | .buildSlice t n ps => ro ((Instr.buildSlice t n (Ie e ps)).run P w)
 | .load t a => ro ((Instr.loadAt t (val e a)).run P w)
 | .store t a x => rs ((Instr.storeAt t (val e a) (val e x)).run P w)
 | .nilCheck x => nx call ((execOp (val e) o).run P w)
 | .binOp op t x y u => ro ((do eqGuard op t x y (val e x) (val e y); binOp op t (val e x) (val e y) : Sem Value).run P w)
 | .unOp op _ x => ro ((Op.unary op (val e x)).run P w)
 | .convert s d x => ro ((convert s d (val e x)).run P w)
 | .makeInterface t x => ro ((Instr.makeInterface t (val e x)).run P w)
 | .makeFunc fn first cap => some (.func fn (Eh e first) (Eh e cap), w)
 | .makeMap t r => ro ((Instr.makeMap t (PS e r)).run P w)
 | .makeSlice t l c => ro ((Instr.makeSlice t (val e l) (val e c)).run P w)
 | .slice t x lo hi mx => ro ((Instr.sliceAt t (val e x) (PS e lo) (PS e hi) (PS e mx)).run P w)
 | .fieldAddr s x f => ro ((Instr.fieldAt s (val e x) f).run P w)
 | .field s x f => ro ((Instr.field s (val e x) f).run P w)
 | .indexAddr t x i => ro ((Instr.indexAt t (val e x) (val e i)).run P w)
 | .index t x i => ro ((Instr.index t (val e x) (val e i)).run P w)
 | .lookup t x i ok => ro ((Instr.lookup t (val e x) (val e i) ok).run P w)
 | .mapUpdate t m k x => rs ((Instr.mapUpdate t (val e m) (val e k) (val e x)).run P w)
 | .range t x => ro ((Instr.range t (val e x)).run P w)
 | .entry x => ro ((Instr.entry (val e x)).run P w)
 | .next it s => ro ((Instr.next (val e it) s o.type).run P w)
 | .typeAssert x t u ok => ro ((Instr.typeAssert (val e x) t u ok).run P w)
 | .extract t i => ro ((Instr.extract (val e t) i).run P w)
 | .call ⟨.value (.func g), args, _⟩ => VB P call g (Eh e args) w
 | .call ⟨.value f, args, _⟩ => SA P call (val e f) (Eh e args) w
 | .call ⟨.builtin .append, args, ts⟩ => ro ((Builtin.append_ ts o.type (Eh e args)).run P w)
 | .call ⟨.builtin .len, args, ts⟩ => ro ((Builtin.len_ ts o.type (Eh e args)).run P w)
 | .call ⟨.builtin .cap, args, ts⟩ => ro ((Builtin.cap_ ts o.type (Eh e args)).run P w)
 | .call ⟨.builtin .copy, args, ts⟩ => ro ((Builtin.copy_ ts o.type (Eh e args)).run P w)
 | .call ⟨.builtin .clear, args, ts⟩ => ro ((Builtin.clear_ ts o.type (Eh e args)).run P w)
 | .call ⟨.builtin .max, args, ts⟩ => ro ((Builtin.max_ ts o.type (Eh e args)).run P w)
 | .call ⟨.builtin .min, args, ts⟩ => ro ((Builtin.min_ ts o.type (Eh e args)).run P w)
 | .call c => nx call ((execOp (val e) o).run P w)
 | _ => none
theorem I9 (e : Env) (xs : Array Operand) : xs.map (val e) = Eh e xs := by
 apply Array.ext'; simp [Eh]
theorem Nz (e : Env) (ps : Array (Nat × Operand)) : (ps.map fun (i, x) => (i, val e x)) = Ie e ps := by
 apply Array.ext'; simp [Ie]
theorem Kx (e : Env) (r : Option Operand) : r.map (val e) = PS e r := by cases r <;> rfl
theorem Ci (P : Program) (s : Sem Value) (w : World) (call : Cl) : nx call ((do pure (.value (← s)) : Sem Next).run P w) = ro (s.run P w) := by
 simp only [Sem.run_bind]
 cases s.run P w <;> rfl
theorem TO (P : Program) (s : Sem Unit) (w : World) (call : Cl) : nx call ((do s; pure .skip : Sem Next).run P w) = rs (s.run P w) := by
 simp only [Sem.run_bind]
 cases s.run P w <;> rfl
def Plain (P : Program) : Prop := ∀ fn ∈ P.funcs, fn.body.isSome = true → fn.name ≠ "runtime.NumGoroutine"
theorem UE (P : Program) (hP : Plain P) (call : Cl) (e : Env) (o : Oper) (w : World) (r : Value × World) (h : Q1 P call e o w = some r) :
  nx call ((execOp (val e) o).run P w) = some r := by
 obtain ⟨dst, op, type, pos, after, guard⟩ := o
 have hfn : ∀ g args, VB P call g args w = some r → nx call ((callFunc g args).run P w) = some r := by
  intro g args h
  unfold VB at h
  rw [Array.getElem?_toList] at h
  cases hf : P.funcs[g]? with
  | none => simp [hf] at h
  | some fn =>
   simp only [hf] at h
   cases hb : fn.body with
   | none => simpa [hb] using h
   | some b =>
    simp only [hb] at h
    have hn := hP fn (Array.mem_of_getElem? hf) (by simp [hb])
    have : (callFunc g args).run P w = .ok (.enter g args) w := by
     simp only [callFunc, Sem.run_bind, run_program, Result.andThen_ok, hf]
     simp [hn, hb]
    rw [this]; exact h
 cases op <;> simp only [Q1] at h <;> simp only [execOp]
 case move x => simpa [nx] using h
 case assign x => simpa [nx] using h
 case pick c a b =>
  simp only [Sem.run_bind]
  cases hc : val e c <;> simp only [hc, Az] at h <;> try contradiction
  rename_i t
  cases t <;> simp_all [asBool, nx]
 case alloc => rw [Ci]; exact h
 case box => rw [Ci]; exact h
 case build t ps => rw [Ci, Nz]; exact h
 case buildSlice t n ps => rw [Ci, Nz]; exact h
 case load => rw [Ci]; exact h
 case store => rw [TO]; exact h
 case nilCheck => exact h
 case binOp => rw [Ci]; exact h
 case unOp => rw [Ci]; exact h
 case convert => rw [Ci]; exact h
 case makeInterface => rw [Ci]; exact h
 case makeFunc fn first cap => rw [Ci, I9, I9]; simpa [Instr.makeFunc, ro] using h
 case makeMap t x => rw [Ci, Kx]; exact h
 case makeSlice => rw [Ci]; exact h
 case slice t x lo hi mx => rw [Ci, Kx, Kx, Kx]; exact h
 case fieldAddr => rw [Ci]; exact h
 case field => rw [Ci]; exact h
 case indexAddr => rw [Ci]; exact h
 case index => rw [Ci]; exact h
 case lookup => rw [Ci]; exact h
 case mapUpdate => rw [TO]; exact h
 case range => rw [Ci]; exact h
 case entry => rw [Ci]; exact h
 case next => rw [Ci]; exact h
 case typeAssert => rw [Ci]; exact h
 case extract => rw [Ci]; exact h
 case call c =>
  obtain ⟨callee, args, ts⟩ := c
  have SM : ∀ x, SA P call (val e x) (Eh e args) w = some r → nx call ((do let d ← resolve (val e) ⟨.value x, args, ts⟩ type; invoke d.target d.args : Sem Next).run P w) = some r := by
   intro x h
   unfold SA at h
   cases hv : val e x <;> simp only [hv] at h <;> try contradiction
   rename_i fn first cap
   cases fn <;> simp only [] at h <;> try contradiction
   rename_i g
   simp only [resolve, hv, Deferred.ofValue, Sem.run_bind, Sem.run_pure, Result.andThen_ok, invoke]
   rw [I9, show first ++ Eh e args ++ cap = (first.toList ++ ((Eh e args).toList ++ cap.toList)).toArray by apply Array.ext'; simp]
   exact hfn _ _ h
  cases callee with
  | value x =>
   cases x with
   | func g =>
    simp only [resolve, val, Deferred.ofValue, Sem.run_bind, Sem.run_pure, Result.andThen_ok, invoke]
    rw [I9, show #[] ++ Eh e args ++ #[] = Eh e args by simp]
    exact hfn _ _ h
   | tmp t => exact SM _ h
   | const t => exact SM _ h
   | global t => exact SM _ h
  | invoke a b => exact h
  | builtin b =>
   have bi : ∀ b, (resolve (val e) ⟨.builtin b, args, ts⟩ type).run P w = .ok { target := .builtin b ts type (args.map fun | .const _ => true | _ => false), args := Eh e args } w := by
    intro b
    simp only [resolve, I9]
    rfl
   have go : ∀ b (s : Sem Value), (∀ cs, builtin b ts type cs (Eh e args) = (do pure (.value (← s)) : Sem Next)) → ro (s.run P w) = some r →
     nx call ((do let d ← resolve (val e) ⟨.builtin b, args, ts⟩ type; invoke d.target d.args : Sem Next).run P w) = some r := by
    intro b s hs hr
    rw [Sem.run_bind, bi, Result.andThen_ok]
    simp only [invoke, hs]
    exact (Ci P s w call).trans hr
   cases b <;> simp only [] at h <;> first | exact h | exact go _ _ (fun _ => rfl) h
 all_goals contradiction
end Go.Ev
