/- A part of the proof, without conditions. -/
import Derived.Below
import Derived.Laws.AppendOwn
import Derived.Laws.MakeOwn
import Derived.Laws.OwnMore
import Derived.Laws.Slices
import Derived.Laws.Entries
import Derived.Laws.Wrap64
import Derived.Laws.CopyRow
import Derived.Laws.StructEq
import Derived.Laws.BytesString
import Derived.Great.BuildSlice
import Derived.Test.YtkhbpmhagpljiaaGreatDoorEvE
set_option linter.unusedVariables false
set_option linter.unusedSimpArgs false
set_option linter.deprecated false
namespace Go.Ev
open Go Go.RowKit
noncomputable def xf (P : Program) (g : FuncId) (args : Array Value) (w : World) := nx (EV P) ((callFunc g args).run P w)
noncomputable def UD (P : Program) (f : Value) (args : Array Value) (w : World) := Tc P (EV P) f args w
noncomputable def gn (P : Program) (o : Oper) (e : Env) (w : World) := nx (EV P) ((execOp (val e) o).run P w)
noncomputable def nk (P : Program) (v : Value) (w : World) := nx (EV P) ((execOp (fun _ => v) { dst := none, op := .nilCheck (.tmp 0), type := 0, pos := "", after := #[], guard := none }).run P w)
noncomputable def nc (P : Program) (o : Oper) (e : Env) (w : World) := nx (EV P) ((execOp (val e) o).run P w)
def vl (v : Value) (w : World) : Option (Value × World) := some (v, w)
def dw (w : World) : World := { w with drawn := w.drawn + 1 }
def al (P : Program) (t : TypeId) (w : World) := ro ((Instr.alloc t true (.tuple #[])).run P w)
def bx (P : Program) (t : TypeId) (x : Value) (w : World) := ro ((Instr.box t x).run P w)
def bd (P : Program) (t : TypeId) (ps : Array (Nat × Value)) (w : World) := ro ((Instr.build t ps).run P w)
def bs (P : Program) (t : TypeId) (n : Nat) (ps : Array (Nat × Value)) (w : World) := ro ((Instr.buildSlice t n ps).run P w)
def ld (P : Program) (t : TypeId) (a : Value) (w : World) := ro ((Instr.loadAt t a).run P w)
def st (P : Program) (t : TypeId) (a x : Value) (w : World) := rs ((Instr.storeAt t a x).run P w)
def bo (P : Program) (op : BinOp) (t : TypeId) (x y : Operand) (a b : Value) (w : World) := ro ((do eqGuard op t x y a b; binOp op t a b : Sem Value).run P w)
def uo (P : Program) (op : UnOp) (x : Value) (w : World) := ro ((Op.unary op x).run P w)
def cv (P : Program) (s d : TypeId) (x : Value) (w : World) := ro ((convert s d x).run P w)
def mi (P : Program) (t : TypeId) (x : Value) (w : World) := ro ((Instr.makeInterface t x).run P w)
def ms (P : Program) (t : TypeId) (l c : Value) (w : World) := ro ((Instr.makeSlice t l c).run P w)
def sl (P : Program) (t : TypeId) (x : Value) (lo hi mx : Option Value) (w : World) := ro ((Instr.sliceAt t x lo hi mx).run P w)
def fa (P : Program) (s : TypeId) (x : Value) (f : Nat) (w : World) := ro ((Instr.fieldAt s x f).run P w)
def fv (P : Program) (s : TypeId) (x : Value) (f : Nat) (w : World) := ro ((Instr.field s x f).run P w)
def ia (P : Program) (t : TypeId) (x i : Value) (w : World) := ro ((Instr.indexAt t x i).run P w)
def ix (P : Program) (t : TypeId) (x i : Value) (w : World) := ro ((Instr.index t x i).run P w)
def en (P : Program) (x : Value) (w : World) := ro ((Instr.entry x).run P w)
def xt (P : Program) (t : Value) (i : Nat) (w : World) := ro ((Instr.extract t i).run P w)
def Ar (P : Program) (ts : Array TypeId) (t : TypeId) (args : Array Value) (w : World) := ro ((Builtin.append_ ts t args).run P w)
def Au (P : Program) (ts : Array TypeId) (t : TypeId) (args : Array Value) (w : World) := ro ((Builtin.len_ ts t args).run P w)
def Q6 (P : Program) (ts : Array TypeId) (t : TypeId) (args : Array Value) (w : World) := ro ((Builtin.copy_ ts t args).run P w)
def RH (P : Program) (ts : Array TypeId) (t : TypeId) (args : Array Value) (w : World) := ro ((Builtin.min_ ts t args).run P w)
abbrev pt (b o : Nat) : Value := .pointer (some ⟨b, o, none⟩)
abbrev i64 (n : Int) : Value := .int .i64 n
abbrev Ext (w w' : World) : Prop := Below w.heap.size w w'
def Ya : TypeDesc → Bool | .struct _ => true | .array _ _ => true | _ => false
def OI (P : Program) (t : TypeId) : Option Bool := match P.underlying t with | some d => some (Ya d) | none => none
def RI (P : Program) (t : TypeId) : Option Nat := match P.info? t with | some i => some i.size | none => none
def SM (P : Program) (s : TypeId) (f : Nat) : Option (Nat × Option Nat × Option Bool) := match P.underlying s with
 | some (.struct fs) => (match fs.toList[f]? with | some x => some (x.offset, RI P x.type, OI P x.type) | none => none)
 | _ => none
def Hu (P : Program) (t : TypeId) : Option (TypeId × Nat × Nat) := match P.underlying t with
 | some (.slice e) => (match P.info? e with | some i => some (e, i.size, i.bytes) | none => none)
 | _ => none
def CS (P : Program) (t : TypeId) : Option (List Value) := match P.info? t with | some i => (match i.zero with | some z => some z.cells.toList | none => none) | none => none
section
variable {P : Program}
theorem FI {t : TypeId} {b : Bool} (h : OI P t = some b) (w : World) : (isAgg t).run P w = .ok b w := by
 unfold OI at h
 cases hd : P.underlying t with
 | none => rw [hd] at h; cases h
 | some d =>
  rw [hd] at h
  simp only [Option.some.injEq] at h
  subst h
  simp only [isAgg, Sem.run_bind, run_underlying hd, Result.andThen_ok]
  cases d <;> rfl
theorem Bk {t n : Nat} (h : RI P t = some n) (w : World) : (sizeOf t).run P w = .ok n w := by
 unfold RI at h
 cases hd : P.info? t with
 | none => rw [hd] at h; cases h
 | some i =>
  rw [hd] at h
  simp only [Option.some.injEq] at h
  subst h
  simp [sizeOf, typeInfo, hd]
def hp (w : World) (b : Nat) : Option Obj := w.heap[b]?
def AR : Option Obj → Nat → Option Value
 | some (.cells c _ _), i => c[i]?
 | _, _ => none
def nth : List Value → Nat → Option Value
 | [], _ => none
 | a :: _, 0 => some a
 | _ :: l, n + 1 => nth l n
theorem CD : ∀ (l : List Value) (i : Nat), l[i]? = nth l i
 | [], _ => rfl
 | _ :: _, 0 => rfl
 | _ :: l, n + 1 => CD l n
theorem Bt (c : Array Value) (e : TypeId) (z : Nat × Nat) (i : Nat) : AR (some (.cells c e z)) i = nth c.toList i := by
 rw [← CD]; simp [AR]
theorem cell?_eq (w : World) (b i : Nat) : w.cell? ⟨b, i, none⟩ = AR (hp w b) i := by
 unfold World.cell? AR hp
 cases w.heap[b]? with
 | none => rfl
 | some x => cases x <;> rfl
def VH : Option Value → Option (List Value) → Option (List Value)
 | some v, some l => some (v :: l)
 | _, _ => none
def Bl (w : World) (b : Nat) : Nat → Nat → Option (List Value)
 | _, 0 => some []
 | o, n + 1 => match AR (hp w b) o with | some v => (match Bl w b (o + 1) n with | some l => some (v :: l) | none => none) | none => none
theorem add_lit (b o n : Nat) : (⟨b, o, none⟩ : Addr).add n = ⟨b, o + n, none⟩ := by
 unfold Addr.add
 split
 ·rename_i h; subst h; rfl
 ·rfl
theorem Im {w : World} {b : Nat} : ∀ {n o : Nat} {l : List Value}, Bl w b o n = some l → l.length = n
 | 0, o, l, h => by simp only [Bl, Option.some.injEq] at h; subst h; rfl
 | n + 1, o, l, h => by
  simp only [Bl] at h
  split at h
  ·split at h
   ·rename_i l' hl
    simp only [Option.some.injEq] at h
    subst h
    simp [Im hl]
   ·contradiction
  ·contradiction
theorem Lf {w : World} {b : Nat} : ∀ {n o : Nat} {l : List Value}, Bl w b o n = some l → ∀ (j : Nat) v, l[j]? = some v → AR (hp w b) (o + j) = some v
 | 0, o, l, h, j, v, hv => by simp only [Bl, Option.some.injEq] at h; subst h; simp at hv
 | n + 1, o, l, h, j, v, hv => by
  simp only [Bl] at h
  split at h
  ·rename_i u hu
   split at h
   ·rename_i l' hl
    simp only [Option.some.injEq] at h
    subst h
    cases j with
    | zero => simp only [List.getElem?_cons_zero, Option.some.injEq] at hv; subst hv; exact hu
    | succ j =>
     have := Lf hl j v (by simpa using hv)
     rw [show o + (j + 1) = o + 1 + j by omega]
     exact this
   ·contradiction
  ·contradiction
def At (w : World) (b o : Nat) (l : List Value) : Prop := ∀ (j : Nat) v, l[j]? = some v → AR (hp w b) (o + j) = some v
noncomputable def VI (P : Program) (t : TypeId) (b o : Nat) (w : World) := ld P t (pt b o) w
noncomputable def PG (P : Program) (t : TypeId) (b o : Nat) (w : World) : Option Value → Option (Value × World)
 | some v => some (v, w)
 | none => VI P t b o w
noncomputable def Q7 (P : Program) (t : TypeId) (b o : Nat) (w : World) : Option (List Value) → Option (Value × World)
 | some l => some (.agg l.toArray, w)
 | none => VI P t b o w
theorem Df {t : TypeId} (h : OI P t = some false) (b o : Nat) (w : World) : ld P t (pt b o) w = PG P t b o w (AR (hp w b) o) := by
 cases hc : AR (hp w b) o with
 | none => rfl
 | some v =>
  have hc' : w.cell? ⟨b, o, none⟩ = some v := by rw [cell?_eq]; exact hc
  simp only [PG, ld, Instr.loadAt, Instr.sureAddr, loadVar, Sem.run_bind, Sem.run_pure, Result.andThen_ok, FI h]
  simp [hc', ro]
theorem Fu {t n : Nat} (h : OI P t = some true) (hs : RI P t = some n) (b o : Nat) (w : World) : ld P t (pt b o) w = Q7 P t b o w (Bl w b o n) := by
 cases hc : Bl w b o n with
 | none => rfl
 | some l =>
  have hl := Im hc
  have hr := run_loadCells_list (P := P) w ⟨b, o, none⟩ l (fun j v hv => by rw [add_lit, cell?_eq]; exact Lf hc j v hv)
  rw [hl] at hr
  simp only [Q7, ld, Instr.loadAt, Instr.sureAddr, loadVar, Sem.run_bind, Sem.run_pure, Result.andThen_ok, FI h, Bk hs, if_true, hr, ro]
theorem Yb (t : TypeId) (v : Value) (w : World) : bx P t v w = some (pt w.heap.size 0, w.alloc (.cells v.cells t)) := by
 simp [bx, Instr.box, newVar, newRow, ro]
theorem GA {t : TypeId} {z : List Value} (h : CS P t = some z) (w : World) : al P t w = some (pt w.heap.size 0, w.alloc (.cells z.toArray t)) := by
 unfold CS at h
 split at h
 ·rename_i i hi
  split at h
  ·rename_i z' hz
   simp only [Option.some.injEq] at h
   subst h
   simp [al, Instr.alloc, zeroValue, typeInfo, hi, hz, newVar, newRow, ro]
  ·contradiction
 ·contradiction
theorem Bs {s f off n : Nat} {g : Option Bool} (h : SM P s f = some (off, some (n + 1), g)) (b o : Nat) (w : World) : fa P s (pt b o) f w = some (pt b (o + off), w) := by
 unfold SM at h
 split at h
 ·rename_i fs hu
  split at h
  ·rename_i x hx
   simp only [Option.some.injEq, Prod.mk.injEq] at h
   obtain ⟨h1, h2, _⟩ := h
   rw [Array.getElem?_toList] at hx
   subst h1
   simp [fa, pt, Instr.fieldAt, run_underlying hu, hx, Instr.sureAddr, fieldPlace, Bk h2, ro, add_lit]
  ·contradiction
 ·contradiction
theorem Wg {s f off n : Nat} (h : SM P s f = some (off, some n, some false)) (cs : List Value) {v : Value} (hv : cs[off]? = some v) (w : World) : fv P s (.agg cs.toArray) f w = some (v, w) := by
 unfold SM at h
 split at h
 ·rename_i fs hu
  split at h
  ·rename_i x hx
   simp only [Option.some.injEq, Prod.mk.injEq] at h
   obtain ⟨h1, h2, h3⟩ := h
   rw [Array.getElem?_toList] at hx
   subst h1
   simp [fv, Instr.field, run_underlying hu, hx, asAgg, part, FI h3, hv, ro]
  ·contradiction
 ·contradiction
theorem Wh {s f off n : Nat} (h : SM P s f = some (off, some n, some true)) (cs : List Value) (w : World) : fv P s (.agg cs.toArray) f w = some (.agg ((cs.drop off).take n).toArray, w) := by
 unfold SM at h
 split at h
 ·rename_i fs hu
  split at h
  ·rename_i x hx
   simp only [Option.some.injEq, Prod.mk.injEq] at h
   obtain ⟨h1, h2, h3⟩ := h
   rw [Array.getElem?_toList] at hx
   subst h1
   simp [fv, Instr.field, run_underlying hu, hx, asAgg, part, FI h3, Bk h2, ro]
  ·contradiction
 ·contradiction
theorem HQ {t e s y : Nat} (h : Hu P t = some (e, s, y)) {b o n c : Nat} {i : Int} (h0 : 0 ≤ i) (h1 : i < n) (w : World) :
  ia P t (.slice (some ⟨b, o, none⟩) n c) (i64 i) w = some (pt b (o + i.toNat * s), w) := by
 unfold Hu at h
 split at h
 ·rename_i e' hu
  split at h
  ·rename_i x hx
   simp only [Option.some.injEq, Prod.mk.injEq] at h
   obtain ⟨rfl, rfl, _⟩ := h
   simp [ia, Instr.indexAt, asIntOf, run_underlying hu, h0, h1, sizeOf, typeInfo, hx, ro, add_lit]
  ·contradiction
 ·contradiction
theorem Cm {t e ty : Nat} {s : Nat × Nat} (h : Hu P t = some (e, s)) (a : Option Addr) (n c : Nat) (w : World) : Au P #[t] ty #[.slice a n c] w = some (i64 n, w) := by
 unfold Hu at h
 split at h
 ·rename_i e' hu
  simp [Au, Builtin.len_, run_underlying hu, ro, goInt]
 ·contradiction
theorem Qj (op : BinOp) (t : TypeId) (x y : Operand) (k j : IntKind) (a b : Int) (w : World) : (eqGuard op t x y (.int k a) (.int j b)).run P w = .ok () w := by
 unfold eqGuard
 split <;> rfl
theorem EF (op : BinOp) (t : TypeId) (x y : Operand) (k j : IntKind) (a b : Int) (w : World) : bo P op t x y (.int k a) (.int j b) w = ro ((binOp op t (.int k a) (.int j b)).run P w) := by
 simp only [bo, Sem.run_bind, Qj, Result.andThen_ok]
theorem Wi (t : TypeId) (x y : Operand) (k : IntKind) (a b : Int) (w : World) : bo P .lss t x y (.int k a) (.int k b) w = some (.bool (decide (a < b)), w) := by
 rw [EF]; simp [binOp, Op.intCmp, ro]
theorem Wj (t : TypeId) (x y : Operand) (k : IntKind) (a b : Int) (w : World) : bo P .leq t x y (.int k a) (.int k b) w = some (.bool (decide (a ≤ b)), w) := by
 rw [EF]; simp [binOp, Op.intCmp, ro]
theorem Wk (t : TypeId) (x y : Operand) (k : IntKind) (a b : Int) (w : World) : bo P .gtr t x y (.int k a) (.int k b) w = some (.bool (decide (b < a)), w) := by
 rw [EF]; simp [binOp, Op.intCmp, ro]
theorem Wl (t : TypeId) (x y : Operand) (k : IntKind) (a b : Int) (w : World) : bo P .geq t x y (.int k a) (.int k b) w = some (.bool (decide (b ≤ a)), w) := by
 rw [EF]; simp [binOp, Op.intCmp, ro]
theorem Wm (t : TypeId) (x y : Operand) (k : IntKind) (a b : Int) (w : World) : bo P .eql t x y (.int k a) (.int k b) w = some (.bool (a == b), w) := by
 rw [EF]; simp [binOp, Op.intCmp, ro]
theorem Wn (t : TypeId) (x y : Operand) (k : IntKind) (a b : Int) (w : World) : bo P .neq t x y (.int k a) (.int k b) w = some (.bool (a != b), w) := by
 rw [EF]; simp [binOp, Op.intCmp, ro]
theorem Wo (t : TypeId) (x y : Operand) (k : IntKind) (a b : Int) (w : World) : bo P .add t x y (.int k a) (.int k b) w = some (.int k (k.wrap (a + b)), w) := by
 rw [EF]; simp [binOp, Op.intArith, ro]
theorem Wp (t : TypeId) (x y : Operand) (k : IntKind) (a b : Int) (w : World) : bo P .sub t x y (.int k a) (.int k b) w = some (.int k (k.wrap (a - b)), w) := by
 rw [EF]; simp [binOp, Op.intArith, ro]
theorem Io (t : TypeId) (x y : Operand) (k : IntKind) (a b : Int) (w : World) : bo P .mul t x y (.int k a) (.int k b) w = some (.int k (k.wrap (a * b)), w) := by
 rw [EF]; simp [binOp, Op.intArith, ro]
theorem Lg {t : TypeId} (h : P.underlying t = some .bool) (x y : Operand) (a b : Bool) (w : World) : bo P .eql t x y (.bool a) (.bool b) w = some (.bool (a == b), w) := by
 have : (Op.equal t (.bool a) (.bool b)).run P w = .ok (a == b) w := by
  unfold Op.equal Op.maxDepth
  rw [Op.equalIn]
  simp only [Sem.run_bind, run_underlying h, Result.andThen_ok]
  rfl
 simp [bo, eqGuard, binOp, this, ro]
theorem Qk {t : TypeId} (h : P.underlying t = some .bool) (x y : Operand) (a b : Bool) (w : World) : bo P .neq t x y (.bool a) (.bool b) w = some (.bool (!(a == b)), w) := by
 have : (Op.equal t (.bool a) (.bool b)).run P w = .ok (a == b) w := by
  unfold Op.equal Op.maxDepth
  rw [Op.equalIn]
  simp only [Sem.run_bind, run_underlying h, Result.andThen_ok]
  rfl
 simp [bo, eqGuard, binOp, this, ro]
theorem Q8 (op : BinOp) (t : TypeId) (x y : Operand) (a b : ByteArray) (w : World) : bo P op t x y (.string a) (.string b) w = ro ((Op.stringOp op a b).run P w) := by
 simp only [bo, eqGuard, binOp]
 cases op <;> simp
theorem Q9 (t : TypeId) (x y : Operand) (a b : ByteArray) (w : World) : bo P .eql t x y (.string a) (.string b) w = some (.bool (a.toList == b.toList), w) := by
 rw [Q8]; simp [Op.stringOp, ro]
theorem FX (t : TypeId) (x y : Operand) (a b : ByteArray) (w : World) : bo P .neq t x y (.string a) (.string b) w = some (.bool (!(a.toList == b.toList)), w) := by
 rw [Q8]; simp [Op.stringOp, ro]
theorem Wq (b : Bool) (w : World) : uo P .not (.bool b) w = some (.bool (!b), w) := by simp [uo, Op.unary, ro]
theorem Ws (n : Int) (w : World) : uo P .neg (i64 n) w = some (i64 (IntKind.i64.wrap (0 - n)), w) := by simp [uo, Op.unary, Op.intArith, ro]
theorem TV (vs : List Value) (i : Nat) {v : Value} (h : vs[i]? = some v) (w : World) : xt P (.tuple vs.toArray) i w = some (v, w) := by
 simp [xt, Instr.extract, h, ro]
theorem Vd {t ty : Nat} (h : P.underlying t = some .string) (s : ByteArray) (w : World) : Au P #[t] ty #[.string s] w = some (i64 s.size, w) := by
 simp [Au, Builtin.len_, run_underlying h, ro, goInt]
theorem FY {t off : Nat} (h : OI P t = some false) (cs : Array Value) {v : Value} (hv : cs[off]? = some v) (w : World) : (part t cs off).run P w = .ok v w := by
 simp [part, FI h, hv]
theorem SN {f g : Field} (hf : P.underlying f.type = some (.int .i64)) (hg : P.underlying g.type = some (.int .i64)) (hn : (f.name ≠ "_" ∧ g.name ≠ "_" ∧ f.offset = 0 ∧ g.offset = 1))
  (a0 a1 b0 b1 : Int) (w : World) : ro (((Op.eqFields 9999 #[i64 a0, i64 a1] #[i64 b0, i64 b1] [f, g]).run P w).andThen fun b w' => .ok (.bool b) w') = some (.bool ((a0 == b0) && (a1 == b1)), w) := by
 obtain ⟨h1, h2, h3, h4⟩ := hn
 have ag : ∀ t, P.underlying t = some (.int .i64) → OI P t = some false := fun t h => by simp [OI, h, Ya]
 have e0 := run_equalIn_int (P := P) w 9998 f.type .i64 .i64 a0 b0 hf
 have e1 := run_equalIn_int (P := P) w 9998 g.type .i64 .i64 a1 b1 hg
 have p : ∀ x y, (part f.type #[i64 x, i64 y] 0).run P w = .ok (i64 x) w := fun x y => FY (ag _ hf) _ rfl w
 have q : ∀ x y, (part g.type #[i64 x, i64 y] 1).run P w = .ok (i64 y) w := fun x y => FY (ag _ hg) _ rfl w
 simp only [Op.eqFields, h1, h2, h3, h4, ne_eq, not_false_eq_true, if_true, Sem.run_bind, p, Result.andThen_ok, e0]
 cases hb : (a0 == b0) <;> cases hc : (a1 == b1) <;> simp [ro, q, e1, hc]
theorem CC {t : TypeId} {ps : Array (Nat × Value)} {cells : Array Value} (h : P.built t ps.toList = some cells) {w : World} : bd P t ps w = some (.agg cells, w) := by
 simp only [bd, run_build w t ps cells h, ro]
def Ip (z : List Value) : Nat → List Value
 | 0 => []
 | n + 1 => z ++ Ip z n
def TW (P : Program) (t : TypeId) (len : Nat) (ps : List (Nat × Value)) : Option (TypeId × Array Value) :=
 match P.underlying t with
 | some (.slice e) => (match P.info? e with
  | some i => (match i.zero with
   | some z => (match decide (0 < len * i.size) && decide (len * i.size ≤ 2 ^ 24) && Nat.beq z.cells.size i.size with
    | true => (match Instr.fill (fun k => some (k * i.size, i.size)) (Ip z.cells.toList len).toArray ps with | some cs => some (e, cs) | none => none)
    | false => none)
   | none => none)
  | none => none)
 | _ => none
theorem Ql (z : List Value) (hz : 0 < z.length) : ∀ (n j : Nat), (Ip z n)[j]? = if j < n * z.length then some (z[j % z.length]!) else none
 | 0, j => by simp [Ip]
 | n + 1, j => by
  simp only [Ip, List.getElem?_append]
  by_cases hj : j < z.length
  ·rw [if_pos hj, if_pos (by rw [Nat.succ_mul]; omega), Nat.mod_eq_of_lt hj]
   simp [hj]
  ·rw [if_neg hj, Ql z hz n]
   have : (j - z.length) % z.length = j % z.length := by
    rw [Nat.mod_eq_sub_mod (a := j) Ad]
   rw [this]
   by_cases h : j < (n + 1) * z.length
   ·rw [if_pos h, if_pos (by rw [Nat.succ_mul] at h; omega)]
   ·rw [if_neg h, if_neg (by rw [Nat.succ_mul] at h; omega)]
theorem RJ (z : Array Value) (hz : 0 < z.size) (n : Nat) : (Array.range (n * z.size)).map (z[· % z.size]!) = (Ip z.toList n).toArray := by
 apply Array.ext'
 apply List.ext_getElem?
 intro j
 have := Ql z.toList (by simpa using hz) n j
 simp only [Array.length_toList] at this
 rw [this]
 by_cases h : j < n * z.size
 ·have hm : j % z.size < z.size := Nat.mod_lt _ hz
  simp [h, hm]
 ·simp [h]
theorem FA {t e : TypeId} {n : Nat} {ps : Array (Nat × Value)} {cells : Array Value} (h : TW P t n ps.toList = some (e, cells)) {w : World} :
  bs P t n ps w = some (.slice (some ⟨w.heap.size, 0, none⟩) n n, w.alloc (.cells cells e)) := by
 unfold TW at h
 split at h
 ·rename_i e' hu
  split at h
  ·rename_i i hi
   split at h
   ·rename_i z hz
    split at h
    ·rename_i hc
     simp only [Bool.and_eq_true, decide_eq_true_eq, Nat.beq_eq] at hc
     obtain ⟨⟨h1, h2⟩, h3⟩ := hc
     split at h
     ·rename_i cs hf
      simp only [Option.some.injEq, Prod.mk.injEq] at h
      obtain ⟨rfl, rfl⟩ := h
      have hpos : 0 < z.cells.size := by rw [h3]; exact Nat.pos_of_mul_pos_left h1
      have := run_buildSlice (P := P) w t e' n ps cs i z hu hi hz Ad Ad (by rw [← h3, RJ _ hpos, h3]; exact hf)
      simp only [bs, this, ro]
     ·contradiction
    ·contradiction
   ·contradiction
  ·contradiction
 ·contradiction
theorem HD {t e n : TypeId} (h : P.underlying t = some (.slice e)) (hi : RI P e = some n) (w : World) :
  bs P t 0 #[] w = some (.slice (some ⟨w.heap.size, 0, none⟩) 0 0, w.alloc (.cells #[] e)) := by
 simp [bs, Instr.buildSlice, run_underlying h, Bk hi, Instr.fill, newRow, ro]
 have : ∀ f : Nat → Value, Array.map f (Array.range 0) = #[] := fun f => by apply Array.ext'; simp
 rw [this]
def Bp (cur : List Value) (o : Nat) (vs : List Value) : List Value := cur.take o ++ (vs ++ cur.drop (o + vs.length))
noncomputable def RK (P : Program) (t : TypeId) (b o : Nat) (v : Value) (w : World) := st P t (pt b o) v w
noncomputable def HR (P : Program) (t : TypeId) (n b o : Nat) (v : Value) (w : World) : Option Obj → Option (Value × World)
 | some (.cells cur e (0, 0)) => if v.cells.size = n ∧ o + n ≤ cur.size ∧ v.cells.toList.all Value.oneCell' = true then some (undef, w.setRow b (Bp cur.toList o v.cells.toList).toArray) else RK P t b o v w
 | _ => RK P t b o v w
theorem Ab (t n b o : Nat) (v : Value) (w : World) (cur : Array Value) (e : TypeId) : HR P t n b o v w (some (.cells cur e (0, 0))) =
  if v.cells.size = n ∧ o + n ≤ cur.size ∧ v.cells.toList.all Value.oneCell' = true then some (undef, w.setRow b (Bp cur.toList o v.cells.toList).toArray) else RK P t b o v w := by cases w; rfl
theorem TX (t b o : Nat) (w : World) (v : Value) : PG P t b o w (some v) = some (v, w) := by cases w; rfl
theorem TY (t b o : Nat) (w : World) (v : List Value) : Q7 P t b o w (some v) = some (.agg v.toArray, w) := by cases w; rfl
theorem Cs {t n : Nat} (hs : RI P t = some n) (b o : Nat) (v : Value) (w : World) : st P t (pt b o) v w = HR P t n b o v w (hp w b) := by
 unfold hp
 cases hg : w.heap[b]? with
 | none => rfl
 | some x =>
  cases x with
  | cells cur e z =>
   by_cases hz : z = (0, 0)
   ·subst hz
    simp only [HR]
    split
    ·rename_i h
     obtain ⟨h1, h2, h3⟩ := h
     have hr := run_storeCells_at P b o e v.cells.toList 0 cur w hg (by simp; omega) (fun x hx => List.all_eq_true.1 h3 x hx)
     simp only [st, Instr.storeAt, Instr.sureAddr, storeVar, Sem.run_bind, Sem.run_pure, Result.andThen_ok, Bk hs, h1]
     simp only [Nat.add_zero] at hr
     simp [hr, rs, Bp]
    ·rfl
   ·have : HR P t n b o v w (some (.cells cur e z)) = RK P t b o v w := by
     obtain ⟨z1, z2⟩ := z
     unfold HR
     split
     ·rename_i heq
      simp only [Option.some.injEq, Obj.cells.injEq] at heq
      exact absurd heq.2.2 hz
     ·rfl
    rw [this]
    rfl
  | _ => rfl
def Yc (cs : Array Value) : Option Obj → Option Obj
 | some (.cells _ e z) => some (.cells cs e z)
 | x => x
theorem SO (cs c : Array Value) (e : TypeId) (z : Nat × Nat) : Yc cs (some (.cells c e z)) = some (.cells cs e z) := by cases z; rfl
theorem EG (w : World) (b : Nat) (cs : Array Value) : hp (w.setRow b cs) b = Yc cs (hp w b) := by
 simp only [hp, World.setRow, Array.getElem?_modify, if_true]
 cases hg : w.heap[b]? with
 | none => rfl
 | some x => cases x <;> rfl
theorem Ac {w : World} {b k : Nat} {cs : Array Value} (h : k ≠ b) : hp (w.setRow b cs) k = hp w k := setRow_other w b k cs h
theorem TZ {R : Type} (r : R) (Q : R → Prop) : Af (Option.some r) Q = Q r := by
 apply propext
 constructor
 ·rintro ⟨x, hx, h⟩; cases hx; exact h
 ·exact fun h => ⟨r, rfl, h⟩
theorem Af.bind {R S : Type} {x : Option R} {k : R → Option S} {Q : R → Prop} {Q' : S → Prop} (h : Af x Q) (hk : ∀ r, Q r → Af (k r) Q') : Af (x.bind k) Q' := by
 obtain ⟨r, rfl, hr⟩ := h
 exact hk r hr
theorem Af.mono {R : Type} {x : Option R} {Q Q' : R → Prop} (h : Af x Q) (hq : ∀ r, Q r → Q' r) : Af x Q' := by
 obtain ⟨r, h1, hr⟩ := h
 exact ⟨r, h1, hq r hr⟩
theorem Af.enter (hP : Plain P) (hm : P.follows .mixedOrders = true) {f : FuncId} {args : Array Value} {w : World} {Q : Value × World → Prop} {n : Nat} {x : Option (Value × World)} (e : Bv P (EV P) f args w = x) (hi : P.inits.idxOf? f = none)
  (hn : (P.funcs.toList[f]?).map (fun fn => Nat.ble n fn.ntmps) = Option.some true) (ha : args.size = n) (h : Af x Q) : Af (EV P f args w) Q := by
 obtain ⟨r, h1, h2⟩ := h
 refine ⟨r, W9 hP hm hi (fun fn hf => ?_) (by rw [← WH]; exact e.trans h1), h2⟩
 rw [Array.getElem?_toList, hf] at hn
 simp only [Option.map_some, Option.some.injEq, Nat.ble_eq] at hn
 omega
theorem aE {R S : Type} (x : R) (f : R → Option S) : (Option.some x).bind f = f x := by cases h : f x <;> simp [h]
theorem Ve (i : Nat) : nth [] i = none := by cases i <;> rfl
theorem T0 (a : Value) (l : List Value) : nth (a :: l) 0 = Option.some a := by cases l <;> rfl
theorem T6 (a : Value) (l : List Value) (n : Nat) : nth (a :: l) (n + 1) = nth l n := by cases l <;> rfl
theorem PH (w : World) (b o : Nat) : Bl w b o 0 = Option.some [] := by cases w; rfl
theorem PI (w : World) (b o n : Nat) : Bl w b o (n + 1) = VH (AR (hp w b) o) (Bl w b (o + 1) n) := by
 rw [Bl]
 cases AR (hp w b) o with
 | none => rfl
 | some v => cases Bl w b (o + 1) n <;> rfl
theorem Ra (v : Value) (l : List Value) : VH (Option.some v) (Option.some l) = Option.some (v :: l) := by cases l <;> rfl
theorem Aa (cur : List Value) (o : Nat) (vs : List Value) : Bp cur o vs = cur.take o ++ (vs ++ cur.drop (o + vs.length)) := by cases cur <;> rfl
theorem Yd {R : Type} (x y : Option R) : AL (.bool true) x y = x := by cases x <;> rfl
theorem Ye {R : Type} (x y : Option R) : AL (.bool false) x y = y := by cases x <;> rfl
theorem Wt (x : Option (Value × World)) (w : World) : Ao (.bool true) true x w = x := by cases x <;> rfl
theorem Wu (x : Option (Value × World)) (w : World) : Ao (.bool true) false x w = Option.some (undef, w) := by cases x <;> rfl
theorem Wv (x : Option (Value × World)) (w : World) : Ao (.bool false) true x w = Option.some (undef, w) := by cases x <;> rfl
theorem Ww (x : Option (Value × World)) (w : World) : Ao (.bool false) false x w = x := by cases x <;> rfl
theorem Yf (t : Bool) (x : Option (Value × World)) (w : World) : Ao undef t x w = Option.some (undef, w) := by cases x <;> rfl
theorem Wx (a b : Value) (w : World) : Ax (.bool true) a b w = Option.some (a, w) := by cases a <;> rfl
theorem Wy (a b : Value) (w : World) : Ax (.bool false) a b w = Option.some (b, w) := by cases a <;> rfl
theorem KY (cs : Array Value) : Value.cells (.agg cs) = cs := by cases cs; rfl
theorem SP (k : IntKind) (n : Int) : Value.cells (.int k n) = #[.int k n] := by cases k <;> rfl
theorem Rb (b : Bool) : Value.cells (.bool b) = #[.bool b] := by cases b <;> rfl
theorem PJ (b : ByteArray) : Value.cells (.string b) = #[.string b] := by cases b; rfl
theorem Qm (a : Option Addr) (l c : Nat) : Value.cells (.slice a l c) = #[.slice a l c] := by cases a <;> rfl
theorem OJ (a : Option Addr) : Value.cells (.pointer a) = #[.pointer a] := by cases a <;> rfl
theorem SQ (a : Option Nat) : Value.cells (.map a) = #[.map a] := by cases a <;> rfl
theorem Np : Value.cells .nilIface = #[.nilIface] := rfl
theorem Rc (f : Fn) (a b : Array Value) : Value.cells (.func f a b) = #[.func f a b] := by cases a; rfl
theorem SR {α β : Type} {x y : Option α} (f : α → Option β) (h : Unit → x = y) : x.bind f = y.bind f := by rw [h ()]
theorem T7 {R : Type} {c d : Value} (x y : Option R) (h : Unit → c = d) : AL c x y = AL d x y := by rw [h ()]
theorem T8 {R : Type} {p q : Prop} (x : Option R) (h : Unit → p = q) : AG p x = AG q x := by cases h (); rfl
attribute [congr] SR T7 T8
theorem T9 {R : Type} (x : Option R) : AG True x = x := UH x trivial
theorem Yh (v : Value) (w : World) : vl v w = Option.some (v, w) := by cases w; rfl
theorem Ak (w : World) : (dw w).heap.size = w.heap.size := by cases w; rfl
theorem BW (w : World) (b : Nat) : hp (dw w) b = hp w b := by cases w; rfl
theorem Cn (w : World) : Ext w (dw w) := (Below.refl _ w).drew
theorem Ag {w : World} {o : Obj} {b : Nat} (h : b < w.heap.size) : hp (w.alloc o) b = hp w b := Below.heap_alloc w o b h
theorem Av {w : World} {o : Obj} {b : Nat} (h : b = w.heap.size) : hp (w.alloc o) b = Option.some o := by subst h; exact heap_alloc_new w o
theorem Aq {w : World} {b : Nat} {o : Obj} (h : hp w b = Option.some o) : b < w.heap.size := (Array.getElem?_eq_some_iff.1 h).1
theorem Ext.Ai {w w' : World} (h : Ext w w') {b : Nat} (hb : b < w.heap.size) : hp w' b = hp w b := h.block b hb
theorem Ext.alloc (w : World) (o : Obj) : Ext w (w.alloc o) := (Below.refl _ w).alloc (Nat.le_refl _) o
theorem Ext.tr {a b c : World} (h : Ext a b) (k : Ext b c) : Ext a c := Below.trans h (k.mono h.size)
theorem Ext.rfl {a : World} : Ext a a := Below.refl _ a
theorem Ext.al {a b : World} (h : Ext a b) (o : Obj) : Ext a (b.alloc o) := h.tr (Ext.alloc b o)
theorem Ext.dw {a b : World} (h : Ext a b) : Ext a (dw b) := h.tr (Cn b)
theorem Ext.set {a b : World} (h : Ext a b) {k : Nat} (hk : a.heap.size ≤ k) (cs : Array Value) : Ext a (b.setRow k cs) :=
 Below.trans h ⟨by rfl, by rfl, by rfl, by simp, fun i hi => setRow_other _ _ _ _ Ad⟩
theorem At.mono {w w' : World} {b o : Nat} {l : List Value} (h : At w b o l) (he : ∀ b, b < w.heap.size → hp w' b = hp w b) : At w' b o l := by
 intro j v hv
 have h1 := h j v hv
 have : b < w.heap.size := by
  rcases Nat.lt_or_ge b w.heap.size with h' | h'
  ·exact h'
  ·rw [hp, Array.getElem?_eq_none h'] at h1; simp [AR] at h1
 rw [he b this]; exact h1
theorem HS {x : Int} (h0 : -9223372036854775808 ≤ x) (h1 : x ≤ 9223372036854775807) : IntKind.i64.wrap x = x := by
 simp only [IntKind.wrap, IntKind.bits, IntKind.signed, Bool.true_and, decide_eq_true_eq, show (2 : Int) ^ 64 = 18446744073709551616 from rfl, show (2 : Int) ^ (64 - 1) = 9223372036854775808 from rfl]
 split <;> omega
theorem Wz {g : FuncId} (h : (P.funcs.toList[g]?).map (fun fn => fn.body.isSome) = Option.some true) (first cap args : List Value) (w : World) :
  UD P (.func (.func g) first.toArray cap.toArray) args.toArray w = EV P g (first ++ (args ++ cap)).toArray w := by
 unfold UD Tc W6
 cases hf : P.funcs.toList[g]? with
 | none => rw [hf] at h; simp at h
 | some fn =>
  rw [hf] at h
  simp only [Option.map_some, Option.some.injEq] at h
  simp only []
  cases hb : fn.body with
  | none => rw [hb] at h; simp at h
  | some c => simp only [hf, hb]
theorem GZ {src dst : TypeId} {j : IntKind} (hs : (P.underlying src).isSome = true) (hd : P.underlying dst = Option.some (.int j)) (k : IntKind) (n : Int) (w : World) :
  cv P src dst (.int k n) w = Option.some (.int j (j.wrap n), w) := by
 obtain ⟨d, hd'⟩ := Option.isSome_iff_exists.mp hs
 simp [cv, convert, run_underlying hd', run_underlying hd, Conv.intToInt, ro]
theorem KZ (t : TypeId) (x y : Operand) (k : IntKind) (a : Int) {b : Int} (h : b ≠ 0) (w : World) : bo P .rem t x y (.int k a) (.int k b) w = Option.some (.int k (a.tmod b), w) := by
 rw [EF]; simp [binOp, Op.intDiv, h, ro]
theorem Re (t : TypeId) (x y : Operand) (k : IntKind) (a : Int) {b : Int} (h : b ≠ 0) (w : World) : bo P .quo t x y (.int k a) (.int k b) w = Option.some (.int k (k.wrap (a.tdiv b)), w) := by
 rw [EF]; simp [binOp, Op.intDiv, h, ro]
theorem Rf (t : TypeId) (x y : Operand) {a b : ByteArray} (h : a.size + b.size ≤ 9223372036854775807) (w : World) : bo P .add t x y (.string a) (.string b) w = Option.some (.string (a ++ b), w) := by
 have h' : ¬ (((a.size + b.size : Nat) : Int) > IntKind.i64.max) := by rw [show IntKind.i64.max = 9223372036854775807 from rfl]; omega
 rw [Q8]; simp only [Op.stringOp, h', if_false, Sem.run_pure, ro]
def bytesOf (ns : List Int) : ByteArray := ns.foldl (fun r n => r.push (UInt8.ofNat n.toNat)) ByteArray.empty
theorem Qn {src dst e : TypeId} (hs : P.underlying src = Option.some (.slice e)) (he : P.underlying e = Option.some (.int .u8)) (hd : P.underlying dst = Option.some .string) {w : World} {b o c : Nat} {ns : List Int}
  (hA : At w b o (ns.map (Value.int .u8))) : cv P src dst (.slice (Option.some ⟨b, o, none⟩) ns.length c) w = Option.some (.string (bytesOf ns), w) := by
 have hl := run_loadCells_list (P := P) w ⟨b, o, none⟩ (ns.map (Value.int .u8)) (fun j v hv => by rw [add_lit, cell?_eq]; exact hA j v hv)
 rw [List.length_map] at hl
 simp only [cv, run_convert_bytes_string w src dst e _ _ _ hs he hd, run_bytesToString w _ _ c ns hl, ro]
 rfl
theorem Kb {t e : TypeId} {z : Nat × Nat} (h : Hu P t = Option.some (e, z)) : P.underlying t = Option.some (.slice (P.elem t)) ∧ RI P (P.elem t) = Option.some z.1 := by
 unfold Hu at h
 split at h
 ·rename_i e' hu
  have he : P.elem t = e' := by simp [Program.elem, hu]
  rw [he]
  refine ⟨hu, ?_⟩
  unfold RI
  split at h
  ·rename_i i hi
   simp only [Option.some.injEq, Prod.mk.injEq] at h
   obtain ⟨_, rfl⟩ := h
   simp only []
  ·contradiction
 ·contradiction
theorem add_zero' (a : Addr) : a.add 0 = a := by simp [Addr.add]
theorem Yi {t e : TypeId} {z : Nat × Nat} (h : Hu P t = Option.some (e, z)) {a : Option Addr} {len cap : Nat} {n : Int} (h0 : 0 ≤ n) (h1 : n ≤ cap) (w : World) :
  sl P t (.slice a len cap) none (Option.some (i64 n)) (Option.some (i64 n)) w = Option.some (.slice a n.toNat n.toNat, w) := by
 obtain ⟨hu, hs⟩ := Kb h
 simp only [sl, run_sliceAt_slice w t _ _ _ _ hu, run_slice_hm w t a len cap hu .i64 .i64 n n h0 (Int.le_refl _) h1, Bk hs, Result.andThen_ok, sliced, ro]
 cases a <;> simp [add_zero']
theorem Ua {t e : TypeId} {z : Nat × Nat} (h : Hu P t = Option.some (e, z)) {a : Option Addr} {len cap : Nat} {n : Int} (h0 : 0 ≤ n) (h1 : n ≤ cap) (w : World) :
  sl P t (.slice a len cap) none (Option.some (i64 n)) none w = Option.some (.slice a n.toNat cap, w) := by
 obtain ⟨hu, hs⟩ := Kb h
 simp only [sl, run_sliceAt_slice w t _ _ _ _ hu, run_slice_h w t a len cap hu .i64 n h0 h1, Bk hs, Result.andThen_ok, sliced, ro]
 cases a <;> simp [add_zero']
theorem aF {t e : TypeId} {z : Nat × Nat} (h : Hu P t = Option.some (e, z)) {b o len cap : Nat} {n : Int} (h0 : 0 ≤ n) (h1 : n ≤ len) (h2 : n.toNat ≠ cap) (w : World) :
  sl P t (.slice (Option.some ⟨b, o, none⟩) len cap) (Option.some (i64 n)) none none w = Option.some (.slice (Option.some ⟨b, o + n.toNat * z.1, none⟩) (len - n.toNat) (cap - n.toNat), w) := by
 obtain ⟨hu, hs⟩ := Kb h
 simp only [sl, run_sliceAt_slice w t _ _ _ _ hu, run_slice_l w t _ len cap hu .i64 n h0 h1, Bk hs, Result.andThen_ok, sliced, ro]
 simp [add_lit, Ne.symm h2]
theorem Iq {t ty e : TypeId} {z : Nat × Nat} (h : Hu P t = Option.some (e, z)) (a b : Option Addr) (n c d : Nat) (hn : n ≤ c) (w : World) : Ar P #[t, t] ty #[.slice a n c, .slice b 0 d] w = Option.some (.slice a n c, w) := by
 unfold Hu at h
 split at h
 ·rename_i e' hu
  split at h
  ·rename_i i hi
   cases a <;> cases b <;> simp [Ar, Builtin.append_, run_underlying hu, sizeOf, typeInfo, hi, Builtin.lenOf, Builtin.firstCells, hn, storeCells, ro, show ∀ b : Addr, (loadCells b 0).run P w = .ok #[] w from fun b => run_loadCells_list w b [] (fun j v hv => by simp at hv)]
  ·contradiction
 ·contradiction
theorem Nq (b o : Nat) (w : World) : nk P (pt b o) w = Option.some (pt b o, w) := by
 simp [nk, execOp, nx]
theorem WA (t : TypeId) (x y : Operand) {a b : Nat} (ha : a < 9223372036854775808) (hb : b < 9223372036854775808) (w : World) : bo P .xor t x y (i64 a) (i64 b) w = Option.some (i64 ((a ^^^ b : Nat) : Int), w) ∧ a ^^^ b < 9223372036854775808 := by
 have hx : a ^^^ b < 2 ^ 63 := Nat.xor_lt_two_pow (by simpa using ha) (by simpa using hb)
 have hx' : a ^^^ b < 9223372036854775808 := by simpa using hx
 refine ⟨?_, hx'⟩
 rw [EF]
 have h1 : (BitVec.ofInt 64 (a : Int) ^^^ BitVec.ofInt 64 (b : Int)).toNat = a ^^^ b := by
  rw [BitVec.toNat_xor, BitVec.ofInt_natCast, BitVec.ofInt_natCast, BitVec.toNat_ofNat, BitVec.toNat_ofNat, Nat.mod_eq_of_lt Ad, Nat.mod_eq_of_lt Ad]
 have h2 : (Op.intBits .xor .i64 (a : Int) (b : Int)).run P w = .ok (.int .i64 (IntKind.i64.wrap ((BitVec.ofInt 64 (a : Int) ^^^ BitVec.ofInt 64 (b : Int)).toNat : Int))) w := by
  rfl
 have h3 : (binOp .xor t (i64 a) (i64 b)).run P w = (Op.intBits .xor .i64 (a : Int) (b : Int)).run P w := by simp [binOp]
 rw [h3, h2, h1, HS Ad Ad]
 rfl
theorem WB {t : TypeId} (h : P.underlying t = Option.some .string) (s : ByteArray) {i : Int} (h0 : 0 ≤ i) {b : UInt8} (hb : s.toList[i.toNat]? = Option.some b) (w : World) : ix P t (.string s) (i64 i) w = Option.some (.int .u8 b.toNat, w) := by
 have hb' : s[i.toNat]? = Option.some b := by
  rw [ByteArray.toList_eq] at hb
  obtain ⟨hn, hv⟩ := List.getElem?_eq_some_iff.1 hb
  have hn' : i.toNat < s.size := by simpa using hn
  rw [ByteArray.getElem?_lt' s _ hn', ← hv]
  rfl
 simp [ix, Instr.index, asIntOf, run_underlying h, h0, hb', ro]
theorem Nr {t e s y : Nat} (h : Hu P t = Option.some (e, s, y)) : P.underlying t = Option.some (.slice e) ∧ ∃ i, P.info? e = Option.some i ∧ i.size = s ∧ i.bytes = y := by
 unfold Hu at h
 split at h
 ·rename_i e' hu
  split at h
  ·rename_i x hx
   simp only [Option.some.injEq, Prod.mk.injEq] at h
   obtain ⟨rfl, rfl, rfl⟩ := h
   exact ⟨hu, x, hx, by rfl, by rfl⟩
  ·contradiction
 ·contradiction
theorem Ns {e : Nat} {z : List Value} (h : CS P e = Option.some z) : ∃ i v, P.info? e = Option.some i ∧ i.zero = Option.some v ∧ v.cells.toList = z := by
 unfold CS at h
 split at h
 ·rename_i i hi
  split at h
  ·rename_i v hv
   simp only [Option.some.injEq] at h
   exact ⟨i, v, hi, hv, h⟩
  ·contradiction
 ·contradiction
theorem VJ {t e s y : Nat} (h : Hu P t = Option.some (e, s, y)) {z : List Value} (hz : CS P e = Option.some z) (hzs : z.length = s) (hs : 0 < s) {l c : Int} (h0 : 0 ≤ l) (h1 : l ≤ c) (h2 : y * c ≤ 281474976710656) (h3 : c ≤ 9223372036854775807) (w : World) :
  ms P t (i64 l) (i64 c) w = Option.some (.slice (Option.some ⟨w.heap.size, 0, none⟩) l.toNat c.toNat, w.alloc (.cells (Ip z c.toNat).toArray e)) := by
 obtain ⟨hu, i, hi, h4, h5⟩ := Nr h
 obtain ⟨i', v, hi', hv, h6⟩ := Ns hz
 rw [hi] at hi'
 cases hi'
 have hsz : v.cells.size = s := by rw [← hzs, ← h6]; simp
 have := run_make (P := P) w t e i v hu hi hv .i64 .i64 l c h0 h1 (by rw [h5]; exact h2) h3
 rw [h4] at this
 have hm : madeCells v.cells (c.toNat * s) = (Ip z c.toNat).toArray := by
  rw [← hsz, ← h6]
  exact RJ v.cells Ad c.toNat
 rw [hm] at this
 simp only [ms, this, ro]
def K0 (w : World) (B : Nat) (e : TypeId) (size : Nat) (s : Value) (n : Nat) (l : List Value) : Prop :=
 l.length = n * size ∧ n ≤ 9223372036854775807 ∧ ((s = .slice none 0 0 ∧ n = 0) ∨
  ∃ g cap cur, s = .slice (Option.some ⟨g, 0, none⟩) n cap ∧ B ≤ g ∧ hp w g = Option.some (.cells cur e (0, 0)) ∧ n ≤ cap ∧ cap ≤ 9223372036854775807 ∧ cap * size ≤ cur.size ∧ cur.toList.take (n * size) = l)
def AF : Value → Option Nat | .slice (some a) _ _ => some a.block | _ => none
structure But (w w' : World) (g : Option Nat) : Prop where
 os : w'.os = w.os
 tape : w'.tape = w.tape
 output : w'.output = w.output
 size : w.heap.size ≤ w'.heap.size
 Ai : ∀ b, b < w.heap.size → g ≠ Option.some b → hp w' b = hp w b
theorem RL {t ty e s y : Nat} (h : Hu P t = Option.some (e, s, y)) {z : List Value} (hz : CS P e = Option.some z) (hzs : z.length = s) (hs : 0 < s) {w : World} {B n : Nat} {v : Value} {l news : List Value}
  (ho : K0 w B e s v n l) (hB : B ≤ w.heap.size) {b o m c : Nat} (hA : At w b o news) (hn : news.length = m * s) (h1 : news.all Value.oneCell' = true) (hb : (n + m) * y ≤ 140737488355328) (hb2 : n + m ≤ 140737488355328) (hm : 0 < m) :
  Af (Ar P #[t, t] ty #[v, .slice (Option.some ⟨b, o, none⟩) m c] w) fun r => K0 r.2 B e s r.1 (n + m) (l ++ news) ∧ But w r.2 (AF v) ∧ (AF r.1 = AF v ∨ ∃ g, AF r.1 = Option.some g ∧ w.heap.size ≤ g ∧ g < r.2.heap.size) := by
 obtain ⟨hu, i, hi, h4, h5⟩ := Nr h
 obtain ⟨i', zv, hi', hv, h6⟩ := Ns hz
 rw [hi] at hi'
 cases hi'
 have hsz : zv.cells.size = s := by rw [← hzs, ← h6]; simp
 obtain ⟨hl, hn2, ho⟩ := ho
 have hA' : ∀ j u, news[j]? = Option.some u → w.cell? ((⟨b, o, none⟩ : Addr).add j) = Option.some u := fun j u hu => by rw [add_lit, cell?_eq]; exact hA j u hu
 have h1' : ∀ u ∈ news, u.oneCell' = true := fun u hu => List.all_eq_true.1 h1 u hu
 have hlen : (l ++ news).length = (n + m) * s := by rw [List.length_append, hl, hn, Nat.add_mul]
 have grown : ∀ old, old < n + m → ∀ g, K0 (w.drew.alloc (.cells (l.toArray ++ news.toArray ++ Builtin.zeroCells zv.cells (grownCap w (n + m) old e - (n + m))) e)) B e s
   (.slice (Option.some ⟨w.heap.size, 0, none⟩) (n + m) (grownCap w (n + m) old e)) (n + m) (l ++ news) ∧
   But w (w.drew.alloc (.cells (l.toArray ++ news.toArray ++ Builtin.zeroCells zv.cells (grownCap w (n + m) old e - (n + m))) e)) g := by
  intro old hold g
  have hge := grownCap_ge w (n + m) old e
  have hle := grownCap_le_maxLen w (n + m) old e (by simp only [maxLen]; omega)
  simp only [maxLen] at hle
  refine ⟨⟨hlen, by omega, .inr ⟨w.heap.size, _, _, by rfl, hB, Av (w := w.drew) (by rfl), hge, by omega, ?_, ?_⟩⟩, ⟨by rfl, by rfl, by rfl, by simp, fun k hk _ => Ag (w := w.drew) hk⟩⟩
  ·simp only [Array.size_append, List.size_toArray, size_zeroCells, hsz, hl, hn, ← Nat.add_mul]
   exact Nat.mul_le_mul_right _ Ad
  ·simp only [Array.toList_append, List.append_assoc]
   rw [← List.append_assoc, ← hlen]
   exact List.take_left
 rcases ho with ⟨rfl, rfl⟩ | ⟨g, cap, cur, rfl, hg, hh, hc, hcm, hcs, ht⟩
 ·have hl0 : l = [] := List.eq_nil_of_length_eq_zero (by simpa using hl)
  subst hl0
  have hr := run_append_nil (P := P) w t ty e i zv hu hi hv ⟨b, o, none⟩ m c news (by rw [h4]; exact hn) hA' hm Ad (by rw [h5]; simp only [Nat.zero_add] at hb; omega)
  have hgr := grown 0 Ad (AF (.slice none 0 0))
  simp only [Nat.zero_add, List.nil_append, Array.empty_append] at hgr
  have hx := congrArg ro hr
  refine ⟨_, hx, ?_, hgr.2, .inr ⟨w.heap.size, by rfl, Nat.le_refl _, by simp⟩⟩
  simpa using hgr.1
 ·by_cases hroom : n + m ≤ cap
  ·have hfit : n * i.size + news.length ≤ cur.size := by rw [h4, hn, ← Nat.add_mul]; exact Nat.le_trans (Nat.mul_le_mul_right _ hroom) hcs
   have hr := run_append_room (P := P) w t ty e i hu hi g n cap cur hh ⟨b, o, none⟩ m c news (by rw [h4]; exact hn) hA' h1' hroom hfit
   rw [h4] at hr hfit
   have hx := congrArg ro hr
   refine ⟨_, hx, ⟨hlen, by omega, .inr ⟨g, cap, _, by rfl, hg, setRow_heap w g cur _ e _ hh, hroom, hcm, ?_, ?_⟩⟩, ⟨by rfl, by rfl, by rfl, by simp, fun k hk hne => setRow_other _ _ _ _ (fun e => hne (by rw [e]; rfl))⟩, .inl (by rfl)⟩
   ·simp only [List.size_toArray, List.length_append, List.length_take, List.length_drop, Array.length_toList]
    omega
   ·have h7 : (cur.toList.take (n * s) ++ news).length = (n + m) * s := by rw [ht]; exact hlen
    simp only [← h7]
    rw [List.take_left, ht]
  ·have hold : ∀ j u, l[j]? = Option.some u → w.cell? ((⟨g, 0, none⟩ : Addr).add j) = Option.some u := by
    intro j u hju
    rw [add_lit, cell?_eq, hh, Bt, ← CD]
    rw [← ht, List.getElem?_take] at hju
    split at hju
    ·simpa using hju
    ·contradiction
   have hr := run_append_grow (P := P) w t ty e i zv hu hi hv ⟨g, 0, none⟩ n cap l (by rw [h4]; exact hl) hold ⟨b, o, none⟩ m c news (by rw [h4]; exact hn) hA' Ad Ad
    (growslice_fits Ad (by rw [h5]; exact hb))
   have hgr := grown cap Ad (AF (.slice (Option.some ⟨g, 0, none⟩) n cap))
   have hx := congrArg ro hr
   exact ⟨_, hx, hgr.1, hgr.2, .inr ⟨w.heap.size, by rfl, Nat.le_refl _, by simp⟩⟩
theorem K0.at {w : World} {B : Nat} {e : TypeId} {size : Nat} {s : Value} {n : Nat} {l : List Value} (h : K0 w B e size s n l) :
  ∃ a c, s = .slice a n c ∧ n ≤ 9223372036854775807 ∧ (l = [] ∨ ∃ b o, a = Option.some ⟨b, o, none⟩ ∧ At w b o l) := by
 obtain ⟨hl, hn, h⟩ := h
 rcases h with ⟨rfl, rfl⟩ | ⟨g, cap, cur, rfl, hg, hh, hc, hcm, hcs, ht⟩
 ·exact ⟨none, 0, by rfl, hn, .inl (List.eq_nil_of_length_eq_zero (by simpa using hl))⟩
 ·refine ⟨_, _, by rfl, hn, .inr ⟨g, 0, by rfl, fun j v hv => ?_⟩⟩
  rw [hh, Bt, ← CD, Nat.zero_add]
  rw [← ht, List.getElem?_take] at hv
  split at hv
  ·simpa using hv
  ·contradiction
theorem K0.Aj {w w' : World} {B : Nat} {e : TypeId} {size : Nat} {s : Value} {n : Nat} {l : List Value} (h : K0 w B e size s n l) (hk : ∀ g, AF s = Option.some g → hp w' g = hp w g) : K0 w' B e size s n l := by
 obtain ⟨hl, hn, h⟩ := h
 refine ⟨hl, hn, h.imp id ?_⟩
 rintro ⟨g, cap, cur, rfl, hg, hh, rest⟩
 exact ⟨g, cap, cur, by rfl, hg, (hk g (by rfl)).trans hh, rest⟩
theorem K0.from {w : World} {B C : Nat} {e : TypeId} {size : Nat} {s : Value} {n : Nat} {l : List Value} (h : K0 w B e size s n l) (hC : C ≤ B) : K0 w C e size s n l := by
 obtain ⟨hl, hn, h⟩ := h
 refine ⟨hl, hn, h.imp id ?_⟩
 rintro ⟨g, cap, cur, h1, hg, rest⟩
 exact ⟨g, cap, cur, h1, by omega, rest⟩
theorem K0.nil (w : World) (B : Nat) (e : TypeId) (size : Nat) : K0 w B e size (.slice none 0 0) 0 [] := ⟨by simp, by omega, .inl ⟨by rfl, by rfl⟩⟩
theorem K0.lt {w : World} {B : Nat} {e : TypeId} {size : Nat} {s : Value} {n : Nat} {l : List Value} (h : K0 w B e size s n l) {g : Nat} (hg : AF s = Option.some g) : B ≤ g ∧ g < w.heap.size ∧ ∃ cur, hp w g = Option.some (.cells cur e (0, 0)) := by
 obtain ⟨hl, hn, h⟩ := h
 rcases h with ⟨rfl, rfl⟩ | ⟨g', cap, cur, rfl, hgg, hh, rest⟩
 ·simp [AF] at hg
 ·simp only [AF, Option.some.injEq] at hg
  subst hg
  exact ⟨hgg, Aq hh, cur, hh⟩
end
structure Tag where
 t : Int
 p : Int
 deriving DecidableEq
abbrev Tag.v (x : Tag) : Value := .agg #[i64 x.t, i64 x.p]
abbrev OK (x : Tag) : List Value := [i64 x.t, i64 x.p]
theorem At.lt {w : World} {b o : Nat} {v : Value} {l : List Value} (h : At w b o (v :: l)) : b < w.heap.size := by
 have h1 := h 0 v rfl
 rcases Nat.lt_or_ge b w.heap.size with h' | h'
 ·exact h'
 ·rw [hp, Array.getElem?_eq_none h'] at h1; simp [AR] at h1
def Sl (w : World) (s : Value) (n : Nat) (l : List Value) : Prop :=
 ∃ a c, s = .slice a n c ∧ n ≤ 9223372036854775807 ∧ (l = [] ∨ ∃ b o, a = some ⟨b, o, none⟩ ∧ At w b o l)
def Vf (w w' : World) : Prop := ∀ b, b < w.heap.size → hp w' b = hp w b
theorem Ext.Aj {w w' : World} (h : Ext w w') : Vf w w' := fun b hb => h.Ai hb
theorem Sl.mono {w w' : World} {s : Value} {n : Nat} {l : List Value} (h : Sl w s n l) (k : Vf w w') : Sl w' s n l := by
 obtain ⟨a, c, h1, h2, h3⟩ := h
 exact ⟨a, c, h1, h2, h3.imp id fun ⟨b, o, h4, h5⟩ => ⟨b, o, h4, h5.mono k⟩⟩
theorem flat_get {α : Type} {m : Nat} : ∀ (css : List (List α)) (i : Nat) (cs : List α), (∀ c ∈ css, c.length = m) → css[i]? = some cs → ∀ (j : Nat) (v : α), cs[j]? = some v → css.flatten[i * m + j]? = some v
 | [], i, cs, hm, hi, j, v, hv => by simp at hi
 | c :: css, 0, cs, hm, hi, j, v, hv => by
  simp only [List.getElem?_cons_zero, Option.some.injEq] at hi
  subst hi
  have hj : j < c.length := (List.getElem?_eq_some_iff.1 hv).1
  simp only [List.flatten_cons, Nat.zero_mul, Nat.zero_add]
  rw [List.getElem?_append_left hj]; exact hv
 | c :: css, i + 1, cs, hm, hi, j, v, hv => by
  have hc := hm c List.mem_cons_self
  have ih := flat_get css i cs (fun c h => hm c (List.mem_cons_of_mem _ h)) (by simpa using hi) j v hv
  simp only [List.flatten_cons]
  rw [List.getElem?_append_right (by rw [hc, Nat.succ_mul]; omega), hc, show (i + 1) * m + j - m = i * m + j by rw [Nat.succ_mul]; omega]
  exact ih
theorem Sl.at {w : World} {s : Value} {n m : Nat} {css : List (List Value)} (h : Sl w s n css.flatten) (hm : ∀ c ∈ css, c.length = m) (h0 : 0 < m) {i : Nat} {cs : List Value} (hi : css[i]? = some cs) :
  ∃ b o c, s = .slice (some ⟨b, o, none⟩) n c ∧ At w b (o + i * m) cs := by
 obtain ⟨a, c, h1, h2, h3⟩ := h
 have hg := flat_get css i cs hm hi
 have hcs := hm cs (List.mem_of_getElem? hi)
 rcases h3 with h3 | ⟨b, o, h4, h5⟩
 ·have := hg 0 (cs[0]'Ad) (List.getElem?_eq_getElem Ad)
  rw [h3] at this
  simp at this
 ·subst h4
  refine ⟨b, o, c, h1, fun j v hv => ?_⟩
  rw [Nat.add_assoc]
  exact h5 _ v (hg j v hv)
theorem Kc (z : List Value) (n : Nat) : (Ip z n).length = n * z.length := by
 induction n with
 | zero => simp [Ip]
 | succ n ih => simp only [Ip, List.length_append, ih, Nat.succ_mul]; omega
def HT (ts : List Tag) : List Value := (ts.map OK).flatten
def Cb (w : World) (s : Value) (ts : List Tag) : Prop := Sl w s ts.length (HT ts) ∧ ts.length ≤ 8796093021952
theorem Cb.mono {w w' : World} {s : Value} {ts : List Tag} (h : Cb w s ts) (k : Vf w w') : Cb w' s ts := ⟨Sl.mono h.1 k, h.2⟩
theorem Cb.at {w : World} {s : Value} {ts : List Tag} (h : Cb w s ts) {i : Nat} {t : Tag} (hi : ts[i]? = some t) :
  ∃ b o c, s = .slice (some ⟨b, o, none⟩) ts.length c ∧ At w b (o + i * 2) (OK t) :=
 Sl.at (css := ts.map OK) h.1 (fun c hc => by obtain ⟨t, _, rfl⟩ := List.mem_map.1 hc; rfl) Ad (by simp [hi])
theorem Cb.len {w : World} {s : Value} {ts : List Tag} (h : Cb w s ts) : ∃ a c, s = .slice a ts.length c ∧ ts.length ≤ 8796093021952 := by
 obtain ⟨⟨a, c, h1, h2, _⟩, h3⟩ := h
 exact ⟨a, c, h1, h3⟩
theorem At.same {w w' : World} {b o : Nat} {l : List Value} (h : At w b o l) (he : hp w' b = hp w b) : At w' b o l := by
 intro j v hv; rw [he]; exact h j v hv
theorem Sl.Aj {w w' : World} {s : Value} {n : Nat} {l : List Value} (h : Sl w s n l) (k : ∀ b ∈ (AF s).toList, hp w' b = hp w b) : Sl w' s n l := by
 obtain ⟨a, c, h1, h2, h3⟩ := h
 refine ⟨a, c, h1, h2, h3.imp id fun ⟨b, o, h4, h5⟩ => ⟨b, o, h4, h5.same (k b ?_)⟩⟩
 subst h1; subst h4; simp [AF]
theorem K0.sl {w : World} {B : Nat} {e : TypeId} {size : Nat} {s : Value} {n : Nat} {l : List Value} (h : K0 w B e size s n l) : Sl w s n l := by
 obtain ⟨a, c, h1, h2, h3⟩ := h.at
 exact ⟨a, c, h1, h2, h3⟩
theorem SS (a b : List Tag) : HT (a ++ b) = HT a ++ HT b := by simp [HT]
theorem Rg (a : Tag) (b : List Tag) : HT (a :: b) = OK a ++ HT b := by simp [HT]
theorem IG {α : Type} {l : List α} {k : Nat} {x : α} (h : l[k]? = some x) : l.take (k + 1) = l.take k ++ [x] := by
 rw [List.take_add_one, h]; rfl
structure Ver where
 key : Int
 tag : Tag
 past : List Tag
 text : ByteArray
 gone : Bool
def PK (w : World) (cs : List Value) (v : Ver) : Prop := ∃ s, cs = [i64 v.key, i64 v.tag.t, i64 v.tag.p, s, .string v.text, .bool v.gone] ∧ Cb w s v.past ∧ v.text.size ≤ 140737488351232
def bB : List Value → List Nat
 | _ :: _ :: _ :: s :: _ => (AF s).toList
 | _ => []
theorem PK.length {w : World} {cs : List Value} {v : Ver} (h : PK w cs v) : cs.length = 6 := by
 obtain ⟨s, h1, _⟩ := h
 rw [h1]; rfl
def DG {α β : Type} (R : α → β → Prop) : List α → List β → Prop
 | [], [] => True
 | a :: l, b :: m => R a b ∧ DG R l m
 | _, _ => False
theorem DG.imp {α β : Type} {R S : α → β → Prop} (hrs : ∀ a b, R a b → S a b) : ∀ {l : List α} {m : List β}, DG R l m → DG S l m
 | [], [], _ => trivial
 | a :: l, b :: m, h => ⟨hrs _ _ h.1, DG.imp hrs h.2⟩
 | [], _ :: _, h => h.elim
 | _ :: _, [], h => h.elim
theorem DG.get {α β : Type} {R : α → β → Prop} : ∀ {l : List α} {m : List β}, DG R l m → ∀ {i : Nat} {b : β}, m[i]? = some b → ∃ a, l[i]? = some a ∧ R a b
 | a :: l, b :: m, h, 0, b', hb => by simp only [List.getElem?_cons_zero, Option.some.injEq] at hb; subst hb; exact ⟨a, rfl, h.1⟩
 | a :: l, b :: m, h, i + 1, b', hb => by simpa using DG.get h.2 (by simpa using hb)
 | [], [], _, i, b', hb => by simp at hb
 | [], _ :: _, h, _, _, _ => h.elim
 | _ :: _, [], h, _, _, _ => h.elim
theorem DG.mem {α β : Type} {R : α → β → Prop} : ∀ {l : List α} {m : List β}, DG R l m → ∀ {a : α}, a ∈ l → ∃ b, b ∈ m ∧ R a b
 | a :: l, b :: m, h, x, hx => by
  rcases List.mem_cons.1 hx with rfl | hx
  ·exact ⟨b, List.mem_cons_self, h.1⟩
  ·obtain ⟨b', h1, h2⟩ := DG.mem h.2 hx
   exact ⟨b', List.mem_cons_of_mem _ h1, h2⟩
 | [], [], _, _, hx => by simp at hx
 | [], _ :: _, h, _, _ => h.elim
 | _ :: _, [], h, _, _ => h.elim
def Kd (w : World) (s : Value) (vs : List Ver) : Prop := ∃ css, Sl w s vs.length css.flatten ∧ DG (PK w) css vs ∧ vs.length ≤ 1954687338211
theorem Kd.at {w : World} {s : Value} {vs : List Ver} (h : Kd w s vs) {i : Nat} {v : Ver} (hi : vs[i]? = some v) :
  ∃ b o c cs, s = .slice (some ⟨b, o, none⟩) vs.length c ∧ At w b (o + i * 6) cs ∧ PK w cs v := by
 obtain ⟨css, h1, h2, _⟩ := h
 obtain ⟨cs, h3, h4⟩ := h2.get hi
 obtain ⟨b, o, c, h5, h6⟩ := Sl.at h1 (fun c hc => by obtain ⟨v, _, hv⟩ := h2.mem hc; exact hv.length) (m := 6) Ad h3
 exact ⟨b, o, c, cs, h5, h6, h4⟩
theorem Kd.len {w : World} {s : Value} {vs : List Ver} (h : Kd w s vs) : ∃ a c, s = .slice a vs.length c ∧ vs.length ≤ 1954687338211 := by
 obtain ⟨css, ⟨a, c, h1, h2, _⟩, _, h3⟩ := h
 exact ⟨a, c, h1, h3⟩
def Dm (E B : Nat) (w : World) (s : Value) (ts : List Tag) : Prop := K0 w B E 2 s ts.length (HT ts) ∧ ts.length ≤ 8796093021952
theorem Dm.r {E B : Nat} {w : World} {s : Value} {ts : List Tag} (h : Dm E B w s ts) : Cb w s ts := ⟨h.1.sl, h.2⟩
theorem Dm.Aj {E B : Nat} {w w' : World} {s : Value} {ts : List Tag} (h : Dm E B w s ts) (k : ∀ b ∈ (AF s).toList, hp w' b = hp w b) : Dm E B w' s ts :=
 ⟨h.1.Aj fun g hg => k g (by simp [hg]), h.2⟩
theorem Dm.lt {E B : Nat} {w : World} {s : Value} {ts : List Tag} (h : Dm E B w s ts) : ∀ b ∈ (AF s).toList, B ≤ b ∧ b < w.heap.size := by
 intro b hb
 have := h.1.lt (g := b) (by simpa using hb)
 exact ⟨this.1, this.2.1⟩
theorem Dm.from {E B C : Nat} {w : World} {s : Value} {ts : List Tag} (h : Dm E B w s ts) (hC : C ≤ B) : Dm E C w s ts := ⟨h.1.from hC, h.2⟩
theorem An {α : Type} {l : List α} {k : Nat} (h : k < l.length) : ∃ a, l[k]? = some a ∧ l.drop k = a :: l.drop (k + 1) :=
 ⟨l[k], List.getElem?_eq_getElem h, List.drop_eq_getElem_cons h⟩
theorem But.tr {a b c : World} {g : Option Nat} (h : But a b g) (k : But b c g) : But a c g :=
 ⟨k.os.trans h.os, k.tape.trans h.tape, k.output.trans h.output, Nat.le_trans h.size k.size, fun x hx hg => (k.Ai x (Nat.lt_of_lt_of_le hx h.size) hg).trans (h.Ai x hx hg)⟩
theorem But.set (w : World) (g : Nat) (cs : Array Value) : But w (w.setRow g cs) (some g) := ⟨rfl, rfl, rfl, by simp, fun b _ hb => Ac fun e => hb (by rw [e])⟩
theorem But.of {a b : World} (h : Ext a b) (g : Option Nat) : But a b g := ⟨h.os, h.tape, h.output, h.size, fun x hx _ => h.Ai hx⟩
def Cc (x : Tag) : Bool := ((x.t == 0) && (x.p == 0)) || (decide (1 ≤ x.t) && decide (x.t ≤ 999) && (decide (0 ≤ x.p) && decide (x.p ≤ 2)))
def BF (a b : Tag) : Bool := decide (a.t < b.t) || ((a.t == b.t) && decide (a.p < b.p))
def FZ (a b : Tag) : Tag := if BF a b then b else a
def under : List Tag → List Tag → Bool
 | a :: p, b :: q => !BF b a && under p q
 | _, _ => true
theorem Ext.bC {a b c : World} {g : Option Nat} (h : Ext a b) (k : But b c g) (hg : ∀ x, g = some x → a.heap.size ≤ x) : Ext a c :=
 Below.trans h ⟨k.os, k.tape, k.output, k.size, fun x hx => k.Ai x (Nat.lt_of_lt_of_le hx h.size) fun e => absurd (hg x e) Ad⟩
theorem RM {P : Program} {t ty E : Nat} (h : Hu P t = some (E, 2, 16)) (hz : CS P E = some [i64 0, i64 0]) {B : Nat} {w : World} {sv : Value} {ts : List Tag} {x : Tag}
  (hf : Dm E B w sv ts) (hB : B ≤ w.heap.size) {b o c : Nat} (hA : At w b o (OK x)) (hn : ts.length + 1 ≤ 8796093021952) :
  Af (Ar P #[t, t] ty #[sv, .slice (some ⟨b, o, none⟩) 1 c] w) fun r => Dm E B r.2 r.1 (ts ++ [x]) ∧ But w r.2 (AF sv) := by
 refine Af.mono (RL h hz rfl Ad hf.1 hB hA rfl rfl Ad Ad Ad) ?_
 rintro r ⟨h1, h2, _⟩
 refine ⟨⟨?_, by simpa using hn⟩, h2⟩
 rw [SS]
 simpa [HT] using h1
def Ir (b : UInt8) : Bool := decide (33 ≤ (b.toNat : Int)) && decide ((b.toNat : Int) ≤ 126)
def Ub (s : ByteArray) : Bool := s.toList.all Ir && decide ((s.size : Int) ≤ 8)
def VK (k : Int) : Bool := decide (0 ≤ k) && decide (k ≤ 3)
def CF (vs : List Ver) : List Tag := vs.map (·.tag)
theorem OW (s : ByteArray) : s.toList.length = s.size := by rw [ByteArray.toList_eq]; simp
structure Zon (B T : Nat) (w w' : World) : Prop where
 os : w'.os = w.os
 tape : w'.tape = w.tape
 output : w'.output = w.output
 size : w.heap.size ≤ w'.heap.size
 Ai : ∀ b, b < w.heap.size → (b < B ∨ T ≤ b) → hp w' b = hp w b
def RN (k : Int) (v : Ver) : Int := k + 1 + 1 + 1 + 2 * v.past.length + 1 + 1
theorem EH {α β : Type} {f : α → List β} : ∀ {l : List α} {i j : Nat} {a b : α}, (l.flatMap f).Nodup → l[i]? = some a → l[j]? = some b → i ≠ j → ∀ x ∈ f a, x ∉ f b
 | [], i, j, a, b, _, hi, _, _ => by simp at hi
 | c :: l, i, j, a, b, hn, hi, hj, hne => by
  rw [List.flatMap_cons, List.nodup_append] at hn
  intro x hx hx2
  match i, j, hi, hj, hne with
  | 0, 0, _, _, hne => exact hne rfl
  | 0, j + 1, hi, hj, _ =>
   obtain rfl : c = a := by simpa using hi
   exact hn.2.2 x hx x (List.mem_flatMap.2 ⟨b, List.mem_of_getElem? (by simpa using hj), hx2⟩) rfl
  | i + 1, 0, hi, hj, _ =>
   obtain rfl : c = b := by simpa using hj
   exact hn.2.2 x hx2 x (List.mem_flatMap.2 ⟨a, List.mem_of_getElem? (by simpa using hi), hx⟩) rfl
  | i + 1, j + 1, hi, hj, hne => exact EH hn.2.1 (by simpa using hi) (by simpa using hj) Ad x hx hx2
def Db : List Tag → List Tag → List Tag
 | x :: xs, y :: ys => FZ x y :: Db xs ys
 | _, _ => []
theorem OX : ∀ {xs ys : List Tag} {k : Nat} {x y : Tag}, xs[k]? = some x → ys[k]? = some y → (Db xs ys)[k]? = some (FZ x y)
 | a :: xs, b :: ys, 0, x, y, hx, hy => by
  obtain rfl : a = x := by simpa using hx
  obtain rfl : b = y := by simpa using hy
  rfl
 | a :: xs, b :: ys, k + 1, x, y, hx, hy => by
  have := OX (xs := xs) (ys := ys) (k := k) (by simpa using hx) (by simpa using hy)
  simpa [Db] using this
 | [], _, k, x, y, hx, _ => by simp at hx
 | _ :: _, [], k, x, y, _, hy => by simp at hy
theorem HE : ∀ {xs ys : List Tag}, xs.length = ys.length → (Db xs ys).length = xs.length
 | [], [], _ => rfl
 | a :: xs, b :: ys, h => by simp only [Db, List.length_cons]; rw [HE (by simpa using h)]
 | [], _ :: _, h => by simp at h
 | _ :: _, [], h => by simp at h
def EI (w : World) (s : Value) (ns : List Int) : Prop :=
 ∃ a c, s = .slice a ns.length c ∧ ns.length ≤ c ∧ c ≤ 9223372036854775807 ∧ (∀ n ∈ ns, 0 ≤ n ∧ n ≤ 255) ∧ (ns = [] ∨ ∃ b o, a = some ⟨b, o, none⟩ ∧ At w b o (ns.map (Value.int .u8)))
theorem EI.mono {w w' : World} {s : Value} {ns : List Int} (h : EI w s ns) (k : Vf w w') : EI w' s ns := by
 obtain ⟨a, c, h1, h2, h3, h4, h5⟩ := h
 exact ⟨a, c, h1, h2, h3, h4, h5.imp id fun ⟨b, o, h6, h7⟩ => ⟨b, o, h6, h7.mono k⟩⟩
def Ze (t : TypeId) (w : World) (b : Nat) (s : Value) (pos : Int) : Prop := hp w b = some (.cells #[s, i64 pos] t (0, 0))
def Bm {α β γ : Type} (R : α → β → γ → Prop) : List α → List β → List γ → Prop
 | [], [], [] => True
 | a :: l, b :: m, c :: n => R a b c ∧ Bm R l m n
 | _, _, _ => False
section
variable {α β γ : Type} {R S : α → β → γ → Prop}
theorem Bm.ind {M : List α → List β → List γ → Prop} (h0 : M [] [] []) (h1 : ∀ a l b m c n, R a b c → Bm R l m n → M l m n → M (a :: l) (b :: m) (c :: n)) : ∀ {l : List α} {m : List β} {n : List γ}, Bm R l m n → M l m n
 | [], [], [], _ => h0
 | a :: l, b :: m, c :: n, h => h1 a l b m c n h.1 h.2 (Bm.ind h0 h1 h.2)
 | [], _ :: _, _, h => h.elim
 | [], [], _ :: _, h => h.elim
 | _ :: _, [], _, h => h.elim
 | _ :: _, _ :: _, [], h => h.elim
theorem Bm.length {l : List α} {m : List β} {n : List γ} (h : Bm R l m n) : l.length = m.length ∧ n.length = m.length := by
 refine Bm.ind (R := R) (M := fun l m n => l.length = m.length ∧ n.length = m.length) ⟨rfl, rfl⟩ ?_ h
 intro a l b m c n _ _ h
 simp [h.1, h.2]
theorem Bm.imp {l : List α} {m : List β} {n : List γ} (hrs : ∀ a b c, a ∈ l → b ∈ m → c ∈ n → R a b c → S a b c) (h : Bm R l m n) : Bm S l m n := by
 have : ∀ l m n, Bm R l m n → (∀ a b c, a ∈ l → b ∈ m → c ∈ n → R a b c → S a b c) → Bm S l m n := by
  intro l m n h
  refine Bm.ind (M := fun l m n => (∀ a b c, a ∈ l → b ∈ m → c ∈ n → R a b c → S a b c) → Bm S l m n) (fun _ => trivial) ?_ h
  intro a l b m c n h1 _ ih hrs
  exact ⟨hrs a b c List.mem_cons_self List.mem_cons_self List.mem_cons_self h1, ih fun x y z hx hy hz => hrs x y z (List.mem_cons_of_mem _ hx) (List.mem_cons_of_mem _ hy) (List.mem_cons_of_mem _ hz)⟩
 exact this l m n h hrs
theorem Bm.get : ∀ {l : List α} {m : List β} {n : List γ}, Bm R l m n → ∀ {i : Nat} {b : β}, m[i]? = some b → ∃ a c, l[i]? = some a ∧ n[i]? = some c ∧ R a b c
 | a :: l, b :: m, c :: n, h, 0, b', hb => by
  simp only [List.getElem?_cons_zero, Option.some.injEq] at hb; subst hb; exact ⟨a, c, rfl, rfl, h.1⟩
 | a :: l, b :: m, c :: n, h, i + 1, b', hb => by simpa using Bm.get h.2 (by simpa using hb)
 | [], [], _, _, i, b', hb => by simp at hb
 | [], _ :: _, _, h, _, _, _ => h.elim
 | _ :: _, [], _, h, _, _, _ => h.elim
 | _ :: _, _ :: _, [], h, _, _, _ => h.elim
theorem Bm.app : ∀ {l : List α} {m : List β} {n : List γ} {l' : List α} {m' : List β} {n' : List γ}, Bm R l m n → Bm R l' m' n' → Bm R (l ++ l') (m ++ m') (n ++ n')
 | [], [], [], _, _, _, _, h => h
 | a :: l, b :: m, c :: n, _, _, _, h, h' => ⟨h.1, Bm.app h.2 h'⟩
 | [], _ :: _, _, _, _, _, h, _ => h.elim
 | [], [], _ :: _, _, _, _, h, _ => h.elim
 | _ :: _, [], _, _, _, _, h, _ => h.elim
 | _ :: _, _ :: _, [], _, _, _, h, _ => h.elim
theorem Bm.take : ∀ {l : List α} {m : List β} {n : List γ} (i : Nat), Bm R l m n → Bm R (l.take i) (m.take i) (n.take i)
 | _, _, _, 0, _ => trivial
 | [], [], [], _ + 1, _ => trivial
 | _ :: _, _ :: _, _ :: _, i + 1, h => ⟨h.1, Bm.take i h.2⟩
 | [], _ :: _, _, _, h => h.elim
 | [], [], _ :: _, _, h => h.elim
 | _ :: _, [], _, _, h => h.elim
 | _ :: _, _ :: _, [], _, h => h.elim
theorem Bm.drop : ∀ {l : List α} {m : List β} {n : List γ} (i : Nat), Bm R l m n → Bm R (l.drop i) (m.drop i) (n.drop i)
 | _, _, _, 0, h => h
 | [], [], [], _ + 1, _ => trivial
 | _ :: _, _ :: _, _ :: _, i + 1, h => Bm.drop i h.2
 | [], _ :: _, _, _, h => h.elim
 | [], [], _ :: _, _, h => h.elim
 | _ :: _, [], _, _, h => h.elim
 | _ :: _, _ :: _, [], _, h => h.elim
theorem Bm.Uc {l : List α} {m : List β} {n : List γ} (h : Bm R l m n) : ∀ a ∈ l, ∃ b ∈ m, ∃ c ∈ n, R a b c := by
 refine Bm.ind (M := fun l m n => ∀ a ∈ l, ∃ b ∈ m, ∃ c ∈ n, R a b c) (by simp) ?_ h
 intro a l b m c n h1 _ ih x hx
 rcases List.mem_cons.1 hx with rfl | hx
 ·exact ⟨b, List.mem_cons_self, c, List.mem_cons_self, h1⟩
 ·obtain ⟨b', hb, c', hc, h⟩ := ih x hx
  exact ⟨b', List.mem_cons_of_mem _ hb, c', List.mem_cons_of_mem _ hc, h⟩
theorem Bm.Rh {l : List α} {m : List β} {n : List γ} (h : Bm R l m n) : ∀ c ∈ n, ∃ b ∈ m, ∃ a ∈ l, R a b c := by
 refine Bm.ind (M := fun l m n => ∀ c ∈ n, ∃ b ∈ m, ∃ a ∈ l, R a b c) (by simp) ?_ h
 intro a l b m c n h1 _ ih x hx
 rcases List.mem_cons.1 hx with rfl | hx
 ·exact ⟨b, List.mem_cons_self, a, List.mem_cons_self, h1⟩
 ·obtain ⟨b', hb, c', hc, h⟩ := ih x hx
  exact ⟨b', List.mem_cons_of_mem _ hb, c', List.mem_cons_of_mem _ hc, h⟩
theorem Bm.bD {Q : α → β → Prop} (h : ∀ a b, Q a b → ∃ c, R a b c) : ∀ {l : List α} {m : List β}, DG Q l m → ∃ n, Bm R l m n
 | [], [], _ => ⟨[], trivial⟩
 | a :: l, b :: m, h' => by
  obtain ⟨c, hc⟩ := h a b h'.1
  obtain ⟨n, hn⟩ := Bm.bD h h'.2
  exact ⟨c :: n, hc, hn⟩
 | [], _ :: _, h => h.elim
 | _ :: _, [], h => h.elim
end
theorem BE {α : Type} {n : Nat} : ∀ {css : List (List α)}, (∀ c ∈ css, c.length = n) → css.flatten.length = css.length * n
 | [], _ => by simp
 | c :: css, h => by
  rw [List.flatten_cons, List.length_append, h c List.mem_cons_self, BE (css := css) fun d hd => h d (List.mem_cons_of_mem _ hd), List.length_cons, Nat.succ_mul, Nat.add_comm]
theorem Nt {α : Type} {n : Nat} : ∀ {css : List (List α)} (i : Nat) {c : List α}, (∀ d ∈ css, d.length = n) → i < css.length → c.length = n → (css.set i c).flatten = css.flatten.take (i * n) ++ (c ++ css.flatten.drop (i * n + n))
 | [], _, _, _, h, _ => by simp at h
 | d :: css, 0, c, h, _, _ => by
  have hd := h d List.mem_cons_self
  simp only [List.set_cons_zero, List.flatten_cons, Nat.zero_mul, List.take_zero, List.nil_append, Nat.zero_add]
  rw [← hd, List.drop_left]
 | d :: css, i + 1, c, h, hi, hc => by
  have hd := h d List.mem_cons_self
  have ih := Nt (css := css) i (c := c) (fun e he => h e (List.mem_cons_of_mem _ he)) (by simpa using hi) hc
  rw [List.set_cons_succ, List.flatten_cons, List.flatten_cons, ih, show (i + 1) * n = d.length + i * n by rw [hd, Nat.succ_mul, Nat.add_comm], List.take_length_add_append, Nat.add_assoc, List.drop_length_add_append, List.append_assoc]
theorem HF {cur cs : List Value} {o : Nat} (h : o + cs.length ≤ cur.length) (i : Nat) : (Bp cur o cs)[i]? = if o ≤ i ∧ i < o + cs.length then cs[i - o]? else cur[i]? := by
 rw [Aa]
 have q : (cur.take o).length = o := by rw [List.length_take]; omega
 rcases Nat.lt_or_ge i o with hi | hi
 ·rw [List.getElem?_append_left Ad, List.getElem?_take, if_pos hi, if_neg Ad]
 ·rw [List.getElem?_append_right Ad, q]
  rcases Nat.lt_or_ge (i - o) cs.length with h2 | h2
  ·rw [List.getElem?_append_left h2, if_pos Ad]
  ·rw [List.getElem?_append_right h2, List.getElem?_drop, if_neg Ad]
   congr 1
   omega
theorem Lh {cur cs : List Value} {o N : Nat} (h : o + cs.length ≤ N) (hN : N ≤ cur.length) : (Bp cur o cs).take N = Bp (cur.take N) o cs := by
 apply List.ext_getElem?
 intro i
 rw [List.getElem?_take, HF Ad, HF (by rw [List.length_take]; omega), List.getElem?_take]
 by_cases h1 : i < N
 ·rw [if_pos h1, if_pos h1]
 ·rw [if_neg h1, if_neg h1, if_neg Ad]
abbrev In (B T : Nat) : Nat → Prop := fun b => B ≤ b ∧ b < T
structure Mod (S : Nat → Prop) (w w' : World) : Prop where
 os : w'.os = w.os
 tape : w'.tape = w.tape
 output : w'.output = w.output
 size : w.heap.size ≤ w'.heap.size
 Ai : ∀ b, b < w.heap.size → ¬ S b → hp w' b = hp w b
theorem Mod.tr {S : Nat → Prop} {a b c : World} (h : Mod S a b) (k : Mod S b c) : Mod S a c :=
 ⟨k.os.trans h.os, k.tape.trans h.tape, k.output.trans h.output, Nat.le_trans h.size k.size, fun x hx hg => (k.Ai x (Nat.lt_of_lt_of_le hx h.size) hg).trans (h.Ai x hx hg)⟩
theorem Mod.of {a b : World} (h : Ext a b) (S : Nat → Prop) : Mod S a b := ⟨h.os, h.tape, h.output, h.size, fun x hx _ => h.Ai hx⟩
theorem Mod.SU {S S' : Nat → Prop} {a b : World} (h : Mod S a b) (k : ∀ x, x < a.heap.size → S x → S' x) : Mod S' a b := ⟨h.os, h.tape, h.output, h.size, fun x hx hS => h.Ai x hx fun hs => hS (k x hx hs)⟩
theorem Mod.after {S : Nat → Prop} {a b c : World} (h : Ext a b) (k : Mod S b c) (hS : ∀ x, x < a.heap.size → ¬ S x) : Ext a c :=
 ⟨k.os.trans h.os, k.tape.trans h.tape, k.output.trans h.output, Nat.le_trans h.size k.size, fun x hx => (k.Ai x (Nat.lt_of_lt_of_le hx h.size) (hS x hx)).trans (h.Ai hx)⟩
theorem Mod.Bd {S S' : Nat → Prop} {a b c : World} (h : Mod S a b) (k : Mod S' b c) (hS : ∀ x, x < a.heap.size → S' x → S x) : Mod S a c :=
 ⟨k.os.trans h.os, k.tape.trans h.tape, k.output.trans h.output, Nat.le_trans h.size k.size, fun x hx hn => (k.Ai x (Nat.lt_of_lt_of_le hx h.size) fun hs => hn (hS x hx hs)).trans (h.Ai x hx hn)⟩
theorem Mod.rfl {S : Nat → Prop} {a : World} : Mod S a a := Mod.of Ext.rfl S
theorem Mod.set (w : World) (g : Nat) (cs : Array Value) : Mod (fun b => b = g) w (w.setRow g cs) := ⟨by rfl, by rfl, by rfl, by simp, fun b _ hb => Ac hb⟩
theorem Mod.alloc (S : Nat → Prop) (w : World) (o : Obj) : Mod S w (w.alloc o) := Mod.of (Ext.alloc w o) S
theorem Mod.dw (S : Nat → Prop) (w : World) : Mod S w (dw w) := Mod.of (Cn w) S
structure Lay (α : Type) where
 n : Nat
 lay : Bool → World → List Value → α → List Nat → Prop
 len : ∀ {o w cs a bs}, lay o w cs a bs → cs.length = n
 one : ∀ {o w cs a bs}, lay o w cs a bs → cs.all Value.oneCell' = true
 lt : ∀ {o w cs a bs}, lay o w cs a bs → ∀ b ∈ bs, b < w.heap.size
 Aj : ∀ {o w w' cs a bs}, lay o w cs a bs → (∀ b ∈ bs, hp w' b = hp w b) → lay o w' cs a bs
 read : ∀ {w cs a bs}, lay true w cs a bs → ∃ bs', lay false w cs a bs' ∧ ∀ b ∈ bs', b ∈ bs
section
variable {α β : Type}
def D (L : Lay α) (S : Nat → Prop) (w : World) (cs : List Value) (a : α) : Prop := ∃ bs, L.lay false w cs a bs ∧ ∀ b ∈ bs, S b
def O (L : Lay α) (S : Nat → Prop) (w : World) (cs : List Value) (a : α) : Prop := ∃ bs, L.lay true w cs a bs ∧ bs.Nodup ∧ ∀ b ∈ bs, S b
variable {L : Lay α} {S S' : Nat → Prop} {w w' : World} {cs : List Value} {a : α}
theorem D.Aj (h : D L S w cs a) (k : ∀ b, S b → b < w.heap.size → hp w' b = hp w b) : D L S w' cs a := by
 obtain ⟨bs, h1, h2⟩ := h
 exact ⟨bs, L.Aj h1 fun b hb => k b (h2 b hb) (L.lt h1 b hb), h2⟩
theorem O.Aj (h : O L S w cs a) (k : ∀ b, S b → b < w.heap.size → hp w' b = hp w b) : O L S w' cs a := by
 obtain ⟨bs, h1, h2, h3⟩ := h
 exact ⟨bs, L.Aj h1 fun b hb => k b (h3 b hb) (L.lt h1 b hb), h2, h3⟩
theorem D.wide (h : D L S w cs a) (k : ∀ b, S b → b < w.heap.size → S' b) : D L S' w cs a := by
 obtain ⟨bs, h1, h2⟩ := h
 exact ⟨bs, h1, fun b hb => k b (h2 b hb) (L.lt h1 b hb)⟩
theorem O.wide (h : O L S w cs a) (k : ∀ b, S b → b < w.heap.size → S' b) : O L S' w cs a := by
 obtain ⟨bs, h1, h2, h3⟩ := h
 exact ⟨bs, h1, h2, fun b hb => k b (h3 b hb) (L.lt h1 b hb)⟩
theorem O.d (h : O L S w cs a) : D L S w cs a := by
 obtain ⟨bs, h1, _, h3⟩ := h
 obtain ⟨bs', h4, h5⟩ := L.read h1
 exact ⟨bs', h4, fun b hb => h3 b (h5 b hb)⟩
theorem O.lt (h : O L S w cs a) : O L (fun b => S b ∧ b < w.heap.size) w cs a := h.wide fun b h1 h2 => ⟨h1, h2⟩
theorem D.ext (h : D L S w cs a) (k : Ext w w') : D L S w' cs a := h.Aj fun b _ hb => k.Ai hb
theorem O.ext (h : O L S w cs a) (k : Ext w w') : O L S w' cs a := h.Aj fun b _ hb => k.Ai hb
def HZ : Lay Int where
 n := 1
 lay _ _ cs a bs := cs = [i64 a] ∧ bs = []
 len := by rintro o w cs a bs ⟨rfl, rfl⟩; rfl
 one := by rintro o w cs a bs ⟨rfl, rfl⟩; rfl
 lt := by rintro o w cs a bs ⟨rfl, rfl⟩; simp
 Aj := fun h _ => h
 read := fun h => ⟨_, h, fun _ h => h⟩
def HG : Lay ByteArray where
 n := 1
 lay _ _ cs a bs := cs = [.string a] ∧ a.size ≤ 140737488351232 ∧ bs = []
 len := by rintro o w cs a bs ⟨rfl, _, rfl⟩; rfl
 one := by rintro o w cs a bs ⟨rfl, _, rfl⟩; rfl
 lt := by rintro o w cs a bs ⟨rfl, _, rfl⟩; simp
 Aj := fun h _ => h
 read := fun h => ⟨_, h, fun _ h => h⟩
def LBool : Lay Bool where
 n := 1
 lay _ _ cs a bs := cs = [.bool a] ∧ bs = []
 len := by rintro o w cs a bs ⟨rfl, rfl⟩; rfl
 one := by rintro o w cs a bs ⟨rfl, rfl⟩; rfl
 lt := by rintro o w cs a bs ⟨rfl, rfl⟩; simp
 Aj := fun h _ => h
 read := fun h => ⟨_, h, fun _ h => h⟩
def F6 : Lay Tag where
 n := 2
 lay _ _ cs a bs := cs = OK a ∧ bs = []
 len := by rintro o w cs a bs ⟨rfl, rfl⟩; rfl
 one := by rintro o w cs a bs ⟨rfl, rfl⟩; rfl
 lt := by rintro o w cs a bs ⟨rfl, rfl⟩; simp
 Aj := fun h _ => h
 read := fun h => ⟨_, h, fun _ h => h⟩
def BX (L : Lay α) (M : Lay β) : Lay (α × β) where
 n := L.n + M.n
 lay o w cs a bs := ∃ c d b1 b2, cs = c ++ d ∧ L.lay o w c a.1 b1 ∧ M.lay o w d a.2 b2 ∧ bs = b1 ++ b2
 len := by rintro o w cs a bs ⟨c, d, b1, b2, rfl, h1, h2, rfl⟩; rw [List.length_append, L.len h1, M.len h2]
 one := by rintro o w cs a bs ⟨c, d, b1, b2, rfl, h1, h2, rfl⟩; rw [List.all_append, L.one h1, M.one h2]; rfl
 lt := by
  rintro o w cs a bs ⟨c, d, b1, b2, rfl, h1, h2, rfl⟩ b hb
  rcases List.mem_append.1 hb with hb | hb
  ·exact L.lt h1 b hb
  ·exact M.lt h2 b hb
 Aj := by
  rintro o w w' cs a bs ⟨c, d, b1, b2, rfl, h1, h2, rfl⟩ k
  exact ⟨c, d, b1, b2, rfl, L.Aj h1 fun b hb => k b (List.mem_append_left _ hb), M.Aj h2 fun b hb => k b (List.mem_append_right _ hb), rfl⟩
 read := by
  rintro w cs a bs ⟨c, d, b1, b2, rfl, h1, h2, rfl⟩
  obtain ⟨b3, h3, h4⟩ := L.read h1
  obtain ⟨b5, h5, h6⟩ := M.read h2
  refine ⟨b3 ++ b5, ⟨c, d, b3, b5, rfl, h3, h5, rfl⟩, fun b hb => ?_⟩
  rcases List.mem_append.1 hb with hb | hb
  ·exact List.mem_append_left _ (h4 b hb)
  ·exact List.mem_append_right _ (h6 b hb)
def Nu (L : Lay α) (f : β → α) : Lay β where
 n := L.n
 lay o w cs b bs := L.lay o w cs (f b) bs
 len h := L.len h
 one h := L.one h
 lt h := L.lt h
 Aj h := L.Aj h
 read h := L.read h
theorem D.map {f : β → α} {b : β} : D (Nu L f) S w cs b = D L S w cs (f b) := rfl
theorem O.map {f : β → α} {b : β} : O (Nu L f) S w cs b = O L S w cs (f b) := rfl
theorem D.pair {M : Lay β} {p : α × β} : D (BX L M) S w cs p ↔ ∃ c d, cs = c ++ d ∧ D L S w c p.1 ∧ D M S w d p.2 := by
 constructor
 ·rintro ⟨bs, ⟨c, d, b1, b2, rfl, h1, h2, rfl⟩, hS⟩
  exact ⟨c, d, rfl, ⟨b1, h1, fun b hb => hS b (List.mem_append_left _ hb)⟩, ⟨b2, h2, fun b hb => hS b (List.mem_append_right _ hb)⟩⟩
 ·rintro ⟨c, d, rfl, ⟨b1, h1, s1⟩, ⟨b2, h2, s2⟩⟩
  refine ⟨_, ⟨c, d, b1, b2, rfl, h1, h2, rfl⟩, fun b hb => ?_⟩
  rcases List.mem_append.1 hb with hb | hb
  ·exact s1 b hb
  ·exact s2 b hb
theorem O.pair {M : Lay β} {p : α × β} {c d : List Value} {S1 S2 : Nat → Prop} (h1 : O L S1 w c p.1) (h2 : O M S2 w d p.2) (hd : ∀ b, b < w.heap.size → S1 b → ¬ S2 b) : O (BX L M) (fun b => S1 b ∨ S2 b) w (c ++ d) p := by
 obtain ⟨b1, h1, n1, s1⟩ := h1
 obtain ⟨b2, h2, n2, s2⟩ := h2
 refine ⟨_, ⟨c, d, b1, b2, rfl, h1, h2, rfl⟩, ?_, fun b hb => ?_⟩
 ·rw [List.nodup_append]
  refine ⟨n1, n2, fun x hx y hy e => ?_⟩
  subst e
  exact hd x (L.lt h1 x hx) (s1 x hx) (s2 x hy)
 ·rcases List.mem_append.1 hb with hb | hb
  ·exact .inl (s1 b hb)
  ·exact .inr (s2 b hb)
theorem O.DH {M : Lay β} {p : α × β} (h : O (BX L M) S w cs p) : ∃ c d S1 S2, cs = c ++ d ∧ O L S1 w c p.1 ∧ O M S2 w d p.2 ∧ (∀ b, S1 b → S b ∧ ¬ S2 b ∧ b < w.heap.size) ∧ (∀ b, S2 b → S b ∧ ¬ S1 b ∧ b < w.heap.size) := by
 obtain ⟨bs, ⟨c, d, b1, b2, rfl, h1, h2, rfl⟩, hn, hS⟩ := h
 rw [List.nodup_append] at hn
 exact ⟨c, d, (· ∈ b1), (· ∈ b2), rfl, ⟨b1, h1, hn.1, fun b hb => hb⟩, ⟨b2, h2, hn.2.1, fun b hb => hb⟩, fun b hb => ⟨hS b (List.mem_append_left _ hb), fun h => hn.2.2 b hb b h rfl, L.lt h1 b hb⟩,
  fun b hb => ⟨hS b (List.mem_append_right _ hb), fun h => hn.2.2 b h b hb rfl, M.lt h2 b hb⟩⟩
theorem D.int {n : Int} : D HZ S w cs n ↔ cs = [i64 n] := ⟨fun ⟨_, h, _⟩ => h.1, fun h => ⟨[], ⟨h, rfl⟩, by simp⟩⟩
theorem D.str {n : ByteArray} : D HG S w cs n ↔ cs = [.string n] ∧ n.size ≤ 140737488351232 := ⟨fun ⟨_, h, _⟩ => ⟨h.1, h.2.1⟩, fun h => ⟨[], ⟨h.1, h.2, rfl⟩, by simp⟩⟩
theorem D.bool {n : Bool} : D LBool S w cs n ↔ cs = [.bool n] := ⟨fun ⟨_, h, _⟩ => h.1, fun h => ⟨[], ⟨h, rfl⟩, by simp⟩⟩
theorem D.tag {n : Tag} : D F6 S w cs n ↔ cs = OK n := ⟨fun ⟨_, h, _⟩ => h.1, fun h => ⟨[], ⟨h, rfl⟩, by simp⟩⟩
theorem O.int {n : Int} : O HZ S w cs n ↔ cs = [i64 n] := ⟨fun ⟨_, h, _⟩ => h.1, fun h => ⟨[], ⟨h, rfl⟩, by simp, by simp⟩⟩
theorem O.str {n : ByteArray} : O HG S w cs n ↔ cs = [.string n] ∧ n.size ≤ 140737488351232 := ⟨fun ⟨_, h, _⟩ => ⟨h.1, h.2.1⟩, fun h => ⟨[], ⟨h.1, h.2, rfl⟩, by simp, by simp⟩⟩
theorem O.bool {n : Bool} : O LBool S w cs n ↔ cs = [.bool n] := ⟨fun ⟨_, h, _⟩ => h.1, fun h => ⟨[], ⟨h, rfl⟩, by simp, by simp⟩⟩
theorem O.tag {n : Tag} : O F6 S w cs n ↔ cs = OK n := ⟨fun ⟨_, h, _⟩ => h.1, fun h => ⟨[], ⟨h, rfl⟩, by simp, by simp⟩⟩
def G4 (s : Value) {α : Type} : List α → List Nat
 | [] => []
 | _ :: _ => (AF s).toList
def AY (E : TypeId) (mx : Nat) (L : Lay α) : Lay (List α) where
 n := 1
 lay o w cs xs bs := ∃ s css bss, cs = [s] ∧ Bm (L.lay o w) css xs bss ∧ xs.length ≤ mx ∧ (match o with
  | false => Sl w s xs.length css.flatten ∧ (∀ b ∈ G4 s xs, b < w.heap.size) ∧ bs = G4 s xs ++ bss.flatten
  | true => K0 w 0 E L.n s xs.length css.flatten ∧ bs = (AF s).toList ++ bss.flatten)
 len := by rintro o w cs a bs ⟨s, css, bss, rfl, _⟩; rfl
 one := by
  rintro o w cs a bs ⟨s, css, bss, rfl, _, _, h⟩
  cases o with
  | false => obtain ⟨⟨a, c, rfl, _⟩, _⟩ := h; cases a <;> rfl
  | true =>
   obtain ⟨⟨_, _, h⟩, _⟩ := h
   rcases h with ⟨rfl, _⟩ | ⟨g, cap, cur, rfl, _⟩ <;> rfl
 lt := by
  rintro o w cs a bs ⟨s, css, bss, rfl, h3, _, h⟩ b hb
  have hf : b ∈ bss.flatten → b < w.heap.size := by
   intro hb
   obtain ⟨l, hl, hb⟩ := List.mem_flatten.1 hb
   obtain ⟨x, _, c, _, h⟩ := h3.Rh l hl
   exact L.lt h b hb
  cases o with
  | false =>
   obtain ⟨_, h1, rfl⟩ := h
   rcases List.mem_append.1 hb with hb | hb
   ·exact h1 b hb
   ·exact hf hb
  | true =>
   obtain ⟨h1, rfl⟩ := h
   rcases List.mem_append.1 hb with hb | hb
   ·exact (h1.lt (g := b) (by simpa using hb)).2.1
   ·exact hf hb
 Aj := by
  rintro o w w' cs a bs ⟨s, css, bss, rfl, h3, hm, h⟩ k
  have hk : (∀ b ∈ bss.flatten, hp w' b = hp w b) → Bm (L.lay o w') css a bss := fun k => h3.imp fun x y z _ _ hz h => L.Aj h fun b hb => k b (List.mem_flatten.2 ⟨z, hz, hb⟩)
  cases o with
  | false =>
   obtain ⟨h1, h2, rfl⟩ := h
   refine ⟨s, css, bss, rfl, hk fun b hb => k b (List.mem_append_right _ hb), hm, ?_, ?_, rfl⟩
   ·cases a with
    | nil =>
     obtain ⟨a, c, h4, h5, h6⟩ := h1
     have : css = [] := by have := h3.length.1; exact List.eq_nil_of_length_eq_zero this
     subst this
     exact ⟨a, c, h4, h5, .inl rfl⟩
    | cons x xs => exact h1.Aj fun b hb => k b (List.mem_append_left _ hb)
   ·intro b hb
    have h7 := k b (List.mem_append_left _ hb)
    have h8 := h2 b hb
    rcases Nat.lt_or_ge b w'.heap.size with h' | h'
    ·exact h'
    ·rw [hp, Array.getElem?_eq_none h', hp] at h7
     exact absurd (Array.getElem?_eq_none_iff.1 h7.symm) Ad
  | true =>
   obtain ⟨h1, rfl⟩ := h
   exact ⟨s, css, bss, rfl, hk fun b hb => k b (List.mem_append_right _ hb), hm, h1.Aj fun g hg => k g (List.mem_append_left _ (by simp [hg])), rfl⟩
 read := by
  rintro w cs a bs ⟨s, css, bss, rfl, h3, hm, h1, rfl⟩
  have : ∀ {css : List (List Value)} {a : List α} {bss : List (List Nat)}, Bm (L.lay true w) css a bss → ∃ bss', Bm (L.lay false w) css a bss' ∧ ∀ b ∈ bss'.flatten, b ∈ bss.flatten := by
   intro css a bss h
   refine Bm.ind (M := fun css a bss => ∃ bss', Bm (L.lay false w) css a bss' ∧ ∀ b ∈ bss'.flatten, b ∈ bss.flatten) ⟨[], trivial, by simp⟩ ?_ h
   rintro c css x xs b bss h1 _ ⟨bss', h2, h3⟩
   obtain ⟨b', h4, h5⟩ := L.read h1
   refine ⟨b' :: bss', ⟨h4, h2⟩, fun y hy => ?_⟩
   rw [List.flatten_cons, List.mem_append] at hy ⊢
   exact hy.imp (h5 y) (h3 y)
  obtain ⟨bss', h4, h5⟩ := this h3
  have hr : ∀ b ∈ G4 s a, b ∈ (AF s).toList := by
   intro b hb
   cases a with
   | nil => simp [G4] at hb
   | cons x xs => exact hb
  refine ⟨_, ⟨s, css, bss', rfl, h4, hm, h1.sl, fun b hb => (h1.lt (g := b) (by simpa using hr b hb)).2.1, rfl⟩, fun b hb => ?_⟩
  rw [List.mem_append] at hb ⊢
  exact hb.imp (hr b) (h5 b)
variable {E mx : Nat}
theorem D.sl {s : Value} {xs : List α} (h : D (AY E mx L) S w [s] xs) : ∃ a c, s = .slice a xs.length c ∧ xs.length ≤ mx ∧ xs.length ≤ 9223372036854775807 := by
 obtain ⟨bs, ⟨s', css, bss, he, h3, hm, ⟨a, c, h1, h2, _⟩, _⟩, _⟩ := h
 obtain rfl : s = s' := by simpa using he
 exact ⟨a, c, h1, hm, h2⟩
theorem D.It {t : List Value} {xs : List α} (h : D (AY E mx L) S w t xs) : ∃ a c, t = [.slice a xs.length c] ∧ D (AY E mx L) S w [.slice a xs.length c] xs := by
 obtain ⟨bs, ⟨s', css, bss, rfl, h3, hm, ⟨a, c, rfl, h2, h4⟩, h5⟩, h6⟩ := h
 exact ⟨a, c, rfl, bs, ⟨_, css, bss, rfl, h3, hm, ⟨a, c, rfl, h2, h4⟩, h5⟩, h6⟩
theorem O.It {t : List Value} {xs : List α} (h : O (AY E mx L) S w t xs) : ∃ a c, t = [.slice a xs.length c] ∧ O (AY E mx L) S w [.slice a xs.length c] xs := by
 obtain ⟨a, c, rfl, _⟩ := h.d.It
 exact ⟨a, c, rfl, h⟩
theorem D.n {a : Option Addr} {n c : Nat} {xs : List α} (h : D (AY E mx L) S w [.slice a n c] xs) : n = xs.length ∧ xs.length ≤ mx ∧ xs.length ≤ 9223372036854775807 := by
 obtain ⟨a', c', h1, h2⟩ := h.sl
 simp only [Value.slice.injEq] at h1
 exact ⟨h1.2.1, h2⟩
theorem O.n {a : Option Addr} {n c : Nat} {xs : List α} (h : O (AY E mx L) S w [.slice a n c] xs) : n = xs.length ∧ xs.length ≤ mx ∧ xs.length ≤ 9223372036854775807 := h.d.n
theorem D.at {a : Option Addr} {n c : Nat} {xs : List α} (h : D (AY E mx L) S w [.slice a n c] xs) (h0 : 0 < L.n) {i : Nat} {x : α} (hi : xs[i]? = some x) :
  ∃ b o cs, a = some ⟨b, o, none⟩ ∧ At w b (o + i * L.n) cs ∧ D L S w cs x ∧ S b ∧ b < w.heap.size := by
 obtain ⟨bs, ⟨s', css, bss, he, h3, hm, h1, h2, rfl⟩, hS⟩ := h
 obtain ⟨rfl⟩ : .slice a n c = s' := by simpa using he
 obtain ⟨cs, bl, h4, h5, h6⟩ := h3.get hi
 obtain ⟨b, o, c', h7, h8⟩ := Sl.at h1 (fun c hc => by obtain ⟨x, _, z, _, h⟩ := h3.Uc c hc; exact L.len h) h0 h4
 simp only [Value.slice.injEq] at h7
 obtain ⟨rfl, _⟩ := h7
 have hb : b ∈ G4 (.slice (some ⟨b, o, none⟩) n c) xs := by
  cases xs with
  | nil => simp at hi
  | cons y ys => simp [G4, AF]
 exact ⟨b, o, cs, rfl, h8, ⟨bl, h6, fun b hb => hS b (List.mem_append_right _ (List.mem_flatten.2 ⟨bl, List.mem_of_getElem? h5, hb⟩))⟩, hS b (List.mem_append_left _ hb), h2 b hb⟩
theorem O.nil : O (AY E mx L) S w [.slice none 0 0] ([] : List α) :=
 ⟨[], ⟨_, [], [], rfl, trivial, by simp, K0.nil _ _ _ _, rfl⟩, by simp, by simp⟩
def GB (L : Lay α) (S : Nat → Prop) (w : World) (css : List (List Value)) (xs : List α) : Prop := ∃ bss, Bm (L.lay true w) css xs bss ∧ bss.flatten.Nodup ∧ ∀ b ∈ bss.flatten, S b
theorem GB.lay {css : List (List Value)} {xs : List α} (h : GB L S w css xs) : css.length = xs.length ∧ ∀ c ∈ css, c.length = L.n := by
 obtain ⟨bss, h3, _⟩ := h
 exact ⟨h3.length.1, fun c hc => by obtain ⟨x, _, z, _, h⟩ := h3.Uc c hc; exact L.len h⟩
theorem GB.Yj {css : List (List Value)} {xs : List α} (h : GB L S w css xs) : css.flatten.all Value.oneCell' = true := by
 obtain ⟨bss, h3, _⟩ := h
 rw [List.all_eq_true]
 intro v hv
 obtain ⟨c, hc, hv⟩ := List.mem_flatten.1 hv
 obtain ⟨x, _, z, _, h⟩ := h3.Uc c hc
 exact List.all_eq_true.1 (L.one h) v hv
theorem Iu {css : List (List Value)} {xs : List α} {bss : List (List Nat)} {o : Bool} (h3 : Bm (L.lay o w) css xs bss) : ∀ b ∈ bss.flatten, b < w.heap.size := fun b hb => by
 obtain ⟨l, hl, hb⟩ := List.mem_flatten.1 hb
 obtain ⟨x, _, c, _, h⟩ := h3.Rh l hl
 exact L.lt h b hb
theorem GB.Aj {css : List (List Value)} {xs : List α} (h : GB L S w css xs) (k : ∀ b, S b → b < w.heap.size → hp w' b = hp w b) : GB L S w' css xs := by
 obtain ⟨bss, h3, hn, hS⟩ := h
 exact ⟨bss, h3.imp fun p q r _ _ hr h => L.Aj h fun b hb => by
  have := List.mem_flatten.2 ⟨r, hr, hb⟩
  exact k b (hS b this) (Iu h3 b this), hn, hS⟩
theorem GB.wide {css : List (List Value)} {xs : List α} (h : GB L S w css xs) (k : ∀ b, S b → b < w.heap.size → S' b) : GB L S' w css xs := by
 obtain ⟨bss, h3, hn, hS⟩ := h
 exact ⟨bss, h3, hn, fun b hb => k b (hS b hb) (Iu h3 b hb)⟩
theorem GB.nil : GB L S w [] [] := ⟨[], trivial, by simp, by simp⟩
theorem GB.one {x : α} (h : O L S w cs x) : GB L S w [cs] [x] := by
 obtain ⟨bs, h1, h2, h3⟩ := h
 exact ⟨[bs], ⟨h1, trivial⟩, by simpa using h2, by simpa using h3⟩
theorem GB.app {c1 c2 : List (List Value)} {x1 x2 : List α} {S1 S2 : Nat → Prop} (h1 : GB L S1 w c1 x1) (h2 : GB L S2 w c2 x2) (hd : ∀ b, b < w.heap.size → S1 b → ¬ S2 b) : GB L (fun b => S1 b ∨ S2 b) w (c1 ++ c2) (x1 ++ x2) := by
 obtain ⟨b1, h3, n1, s1⟩ := h1
 obtain ⟨b2, h4, n2, s2⟩ := h2
 refine ⟨b1 ++ b2, Bm.app h3 h4, ?_, fun b hb => ?_⟩
 ·rw [List.flatten_append, List.nodup_append]
  refine ⟨n1, n2, fun p hp q hq e => ?_⟩
  subst e
  exact hd p (Iu h3 p hp) (s1 p hp) (s2 p hq)
 ·rw [List.flatten_append] at hb
  rcases List.mem_append.1 hb with hb | hb
  ·exact .inl (s1 b hb)
  ·exact .inr (s2 b hb)
theorem GB.cut {css : List (List Value)} {xs : List α} (h : GB L S w css xs) (i : Nat) : ∃ S1 S2, GB L S1 w (css.take i) (xs.take i) ∧ GB L S2 w (css.drop i) (xs.drop i) ∧ (∀ b, S1 b → S b ∧ ¬ S2 b ∧ b < w.heap.size) ∧ (∀ b, S2 b → S b ∧ ¬ S1 b ∧ b < w.heap.size) := by
 obtain ⟨bss, h3, hn, hS⟩ := h
 have e : bss.flatten = (bss.take i).flatten ++ (bss.drop i).flatten := by rw [← List.flatten_append, List.take_append_drop]
 have l := Iu h3
 rw [e] at hn hS l
 rw [List.nodup_append] at hn
 exact ⟨(· ∈ (bss.take i).flatten), (· ∈ (bss.drop i).flatten), ⟨_, h3.take i, hn.1, fun b hb => hb⟩, ⟨_, h3.drop i, hn.2.1, fun b hb => hb⟩,
  fun b hb => ⟨hS b (List.mem_append_left _ hb), fun h => hn.2.2 b hb b h rfl, l b (List.mem_append_left _ hb)⟩, fun b hb => ⟨hS b (List.mem_append_right _ hb), fun h => hn.2.2 b h b hb rfl, l b (List.mem_append_right _ hb)⟩⟩
theorem O.un {s : Value} {xs : List α} (h : O (AY E mx L) S w [s] xs) : ∃ css, K0 w 0 E L.n s xs.length css.flatten ∧ GB L (fun b => S b ∧ b ∉ (AF s).toList ∧ b < w.heap.size) w css xs ∧ (∀ b ∈ (AF s).toList, S b ∧ b < w.heap.size) ∧ xs.length ≤ mx := by
 obtain ⟨bs, ⟨s', css, bss, he, h3, hm, h1, rfl⟩, hn, hS⟩ := h
 obtain rfl : s = s' := by simpa using he
 rw [List.nodup_append] at hn
 exact ⟨css, h1, ⟨bss, h3, hn.2.1, fun b hb => ⟨hS b (List.mem_append_right _ hb), fun h => hn.2.2 b h b hb rfl, Iu h3 b hb⟩⟩, fun b hb => ⟨hS b (List.mem_append_left _ hb), (h1.lt (g := b) (by simpa using hb)).2.1⟩, hm⟩
theorem O.mk {s : Value} {xs : List α} {css : List (List Value)} {S1 : Nat → Prop} (h1 : K0 w 0 E L.n s xs.length css.flatten) (h2 : GB L S1 w css xs) (hd : ∀ b ∈ (AF s).toList, ¬ S1 b) (hm : xs.length ≤ mx) : O (AY E mx L) (fun b => S1 b ∨ b ∈ (AF s).toList) w [s] xs := by
 obtain ⟨bss, h3, hn, hS⟩ := h2
 refine ⟨_, ⟨s, css, bss, rfl, h3, hm, h1, rfl⟩, ?_, fun b hb => ?_⟩
 ·rw [List.nodup_append]
  refine ⟨by cases AF s <;> simp, hn, fun p hp q hq e => ?_⟩
  subst e
  exact hd p hp (hS p hq)
 ·rcases List.mem_append.1 hb with hb | hb
  ·exact .inr hb
  ·exact .inl (hS b hb)
theorem O.apps {P : Program} {t ty y : Nat} (hE : Hu P t = some (E, L.n, y)) {z : List Value} (hz : CS P E = some z) (hzs : z.length = L.n) (h0 : 0 < L.n) {sv : Value} {xs ys : List α} {css : List (List Value)} {S1 : Nat → Prop} {b o m c : Nat}
  (ho : O (AY E mx L) S w [sv] xs) (hx : GB L S1 w css ys) (hd : ∀ b, b < w.heap.size → S b → ¬ S1 b) (hA : At w b o css.flatten) (hm : m = ys.length) (hm0 : 0 < m) (hl : xs.length + m ≤ mx) (hy : mx * y ≤ 140737488355328) (hm2 : mx ≤ 140737488355328) :
  Af (Ar P #[t, t] ty #[sv, .slice (some ⟨b, o, none⟩) m c] w) fun r => ∃ a' c', r.1 = .slice a' (xs.length + m) c' ∧
   O (AY E mx L) (fun b => S b ∨ S1 b ∨ (w.heap.size ≤ b ∧ b < r.2.heap.size)) r.2 [r.1] (xs ++ ys) ∧ Mod S w r.2 := by
 obtain ⟨c0, h1, h2, h3, hmx⟩ := ho.un
 obtain ⟨l1, l2⟩ := hx.lay
 have hb1 : (xs.length + m) * y ≤ mx * y := Nat.mul_le_mul_right _ hl
 refine Af.mono (RL hE hz hzs h0 h1 (Nat.zero_le _) hA (by rw [BE l2, l1, hm]) hx.Yj Ad Ad hm0) ?_
 rintro ⟨s1, w1⟩ ⟨h4, h5, h6⟩
 dsimp only at *
 have hg : ∀ b, b < w.heap.size → b ∉ (AF sv).toList → hp w1 b = hp w b := fun b hb hn => h5.Ai b hb fun e => hn (by simp [e])
 obtain ⟨a', c', e1, _⟩ := h4.at
 have k1 := h2.Aj (w' := w1) fun b hb hs => hg b hs hb.2.1
 have k2 := hx.Aj (w' := w1) fun b hb hs => hg b hs fun h => hd b hs (h3 b h).1 hb
 have k2' : GB L (fun b => S1 b ∧ b < w.heap.size) w1 css ys := by
  obtain ⟨bss, q1, q2, q3⟩ := hx
  exact ⟨bss, q1.imp fun p q r _ _ hr h => L.Aj h fun b hb => by
   have hb' := List.mem_flatten.2 ⟨r, hr, hb⟩
   exact hg b (Iu q1 b hb') fun h => hd b (Iu q1 b hb') (h3 b h).1 (q3 b hb'), q2, fun b hb => ⟨q3 b hb, Iu q1 b hb⟩⟩
 have k3 := k1.app k2' fun b _ hb hb2 => hd b hb.2.2 hb.1 hb2.1
 have k4 : ∀ b ∈ (AF s1).toList, ¬ ((S b ∧ b ∉ (AF sv).toList ∧ b < w.heap.size) ∨ (S1 b ∧ b < w.heap.size)) := by
  intro b hb hn
  rcases h6 with h6 | ⟨g, h6, h7, _⟩
  ·rw [h6] at hb
   rcases hn with hn | hn
   ·exact hn.2.1 hb
   ·exact hd b hn.2 (h3 b hb).1 hn.1
  ·rw [h6] at hb
   simp only [Option.toList_some, List.mem_singleton] at hb
   omega
 refine ⟨a', c', e1, (O.mk (mx := mx) (css := c0 ++ css) (xs := xs ++ ys) ?_ k3 k4 (by rw [List.length_append]; omega)).wide ?_, ?_⟩
 ·rw [List.flatten_append, List.length_append, ← hm]; exact h4
 ·intro b hb hs
  rcases hb with (hb | hb) | hb
  ·exact .inl hb.1
  ·exact .inr (.inl hb.1)
  ·rcases h6 with h6 | ⟨g, h6, h7, h8⟩
   ·rw [h6] at hb; exact .inl (h3 b hb).1
   ·rw [h6] at hb
    simp only [Option.toList_some, List.mem_singleton] at hb
    subst hb
    exact .inr (.inr ⟨h7, h8⟩)
 ·exact ⟨h5.os, h5.tape, h5.output, h5.size, fun b hb hn => h5.Ai b hb fun e => hn (h3 b (by simp [e])).1⟩
theorem O.app {P : Program} {t ty y : Nat} (hE : Hu P t = some (E, L.n, y)) {z : List Value} (hz : CS P E = some z) (hzs : z.length = L.n) (h0 : 0 < L.n) {sv : Value} {xs : List α} {x : α} {S1 : Nat → Prop} {b o c : Nat}
  (ho : O (AY E mx L) S w [sv] xs) (hx : O L S1 w cs x) (hd : ∀ b, b < w.heap.size → S b → ¬ S1 b) (hA : At w b o cs) (hl : xs.length + 1 ≤ mx) (hy : mx * y ≤ 140737488355328) (hm2 : mx ≤ 140737488355328) :
  Af (Ar P #[t, t] ty #[sv, .slice (some ⟨b, o, none⟩) 1 c] w) fun r => ∃ a' c', r.1 = .slice a' (xs.length + 1) c' ∧
   O (AY E mx L) (fun b => S b ∨ S1 b ∨ (w.heap.size ≤ b ∧ b < r.2.heap.size)) r.2 [r.1] (xs ++ [x]) ∧ Mod S w r.2 :=
 O.apps hE hz hzs h0 ho (GB.one hx) hd (by simpa using hA) rfl Ad hl hy hm2
theorem O.elem {a : Option Addr} {n c : Nat} {xs : List α} (h : O (AY E mx L) S w [.slice a n c] xs) (h0 : 0 < L.n) {i : Nat} {x : α} (hi : xs[i]? = some x) :
  ∃ g cur cs S1, a = some ⟨g, 0, none⟩ ∧ S g ∧ g < w.heap.size ∧ hp w g = some (.cells cur E (0, 0)) ∧ (i + 1) * L.n ≤ cur.size ∧ (cur.toList.drop (i * L.n)).take L.n = cs ∧ At w g (i * L.n) cs ∧ O L S1 w cs x ∧ (∀ b, S1 b → S b ∧ b ≠ g ∧ b < w.heap.size) ∧
   ∀ (w' : World) (cs' : List Value) (x' : α) (S2 : Nat → Prop), O L S2 w' cs' x' → hp w' g = some (.cells (Bp cur.toList (i * L.n) cs').toArray E (0, 0)) → (∀ b, b < w.heap.size → S b → b ≠ g → ¬ S1 b → hp w' b = hp w b) →
    (∀ b, b < w'.heap.size → S2 b → S1 b ∨ ¬ (b < w.heap.size ∧ S b)) → O (AY E mx L) (fun b => S b ∨ S2 b) w' [.slice a n c] (xs.set i x') := by
 obtain ⟨bs, ⟨s', css, bss, he, h3, hm, h1, rfl⟩, hn, hS⟩ := h
 obtain rfl : .slice a n c = s' := by simpa using he
 obtain ⟨cs, bx, h4, h5, h6⟩ := h3.get hi
 have hil : i < xs.length := (List.getElem?_eq_some_iff.1 hi).1
 have hcl : ∀ c ∈ css, c.length = L.n := fun c hc => by obtain ⟨x, _, z, _, h⟩ := h3.Uc c hc; exact L.len h
 obtain ⟨e1, e2, ho⟩ := h1
 rcases ho with ⟨_, hz⟩ | ⟨g, cap, cur, hs, hg, hh, hc, hcm, hcs, ht⟩
 ·omega
 simp only [Value.slice.injEq] at hs
 obtain ⟨rfl, rfl, rfl⟩ := hs
 have hlen := h3.length
 have hfl := BE hcl
 have him : (i + 1) * L.n ≤ xs.length * L.n := Nat.mul_le_mul_right _ hil
 have hcm2 : xs.length * L.n ≤ c * L.n := Nat.mul_le_mul_right _ hc
 have hgm : g ∈ (AF (.slice (some ⟨g, 0, none⟩) xs.length c)).toList := by simp [AF]
 have hAt : ∀ (j : Nat) v, cs[j]? = some v → cur.toList[i * L.n + j]? = some v := fun j v hv => by
  have h7 := flat_get css i cs hcl h4 j v hv
  rw [← ht, List.getElem?_take] at h7
  split at h7
  ·exact h7
  ·contradiction
 have hbx : ∀ b ∈ bx, b ∈ bss.flatten := fun b hb => List.mem_flatten.2 ⟨bx, List.mem_of_getElem? h5, hb⟩
 rw [List.nodup_append] at hn
 have hnf : (bss.flatMap id).Nodup := by simpa [List.flatMap] using hn.2.1
 have nbx : bx.Nodup := by
  obtain ⟨l1, l2, hl⟩ := List.append_of_mem (List.mem_of_getElem? h5)
  have := hn.2.1
  rw [hl, List.flatten_append, List.flatten_cons, List.nodup_append, List.nodup_append] at this
  exact this.2.1.1
 have hgl : g < w.heap.size := Aq hh
 refine ⟨g, cur, cs, (· ∈ bx), rfl, hS g (List.mem_append_left _ hgm), hgl, hh, by omega, ?_, fun j v hv => ?_, ⟨bx, h6, nbx, fun b hb => hb⟩, fun b hb => ⟨hS b (List.mem_append_right _ (hbx b hb)), fun e => hn.2.2 g hgm b (hbx b hb) e.symm, L.lt h6 b hb⟩, ?_⟩
 ·apply List.ext_getElem?
  intro j
  have hcl' := hcl cs (List.mem_of_getElem? h4)
  rw [List.getElem?_take]
  rcases Nat.lt_or_ge j L.n with hj | hj
  ·rw [if_pos hj, List.getElem?_drop, hAt j (cs[j]'Ad) (List.getElem?_eq_getElem Ad), List.getElem?_eq_getElem Ad]
  ·rw [if_neg Ad, List.getElem?_eq_none Ad]
 ·rw [hh, Bt, ← CD]; exact hAt j v hv
 ·rintro w' cs' x' S2 ⟨b2, k1, k2, k3⟩ hw hk hdis
  have lcs' := L.len k1
  have hilb : i < bss.length := by omega
  have hilc : i < css.length := by omega
  have hkeep : Bm (L.lay true w') (css.set i cs') (xs.set i x') (bss.set i b2) := by
   have hq : ∀ {css : List (List Value)} {xs : List α} {bss : List (List Nat)} (i : Nat), Bm (L.lay true w) css xs bss → (∀ (j : Nat) (bl : List Nat), j ≠ i → bss[j]? = some bl → ∀ b ∈ bl, hp w' b = hp w b) → Bm (L.lay true w') (css.set i cs') (xs.set i x') (bss.set i b2) := by
    intro css
    induction css with
    | nil => intro xs bss i h _; cases xs <;> cases bss <;> first | exact h | exact h.elim
    | cons d css ih =>
     intro xs bss i h hb
     cases xs with
     | nil => exact h.elim
     | cons y xs =>
      cases bss with
      | nil => exact h.elim
      | cons e bss =>
       cases i with
       | zero => exact ⟨k1, h.2.imp fun p q r hp hq hr hl => L.Aj hl fun b hbr => by
         obtain ⟨j, hj⟩ := List.getElem?_of_mem hr
         exact hb (j + 1) r Ad (by simpa using hj) b hbr⟩
       | succ i => exact ⟨L.Aj h.1 fun b hbr => hb 0 e Ad rfl b hbr, ih i h.2 fun j bl hj hl b hbb => hb (j + 1) bl Ad (by simpa using hl) b hbb⟩
   refine hq i h3 fun j bl hj hl b hb => ?_
   have hbf : b ∈ bss.flatten := List.mem_flatten.2 ⟨bl, List.mem_of_getElem? hl, hb⟩
   refine hk b ?_ (hS b (List.mem_append_right _ hbf)) (fun e => hn.2.2 g hgm b hbf e.symm) fun hbb => EH (f := id) hnf hl h5 hj b hb hbb
   obtain ⟨y, _, z, _, h⟩ := h3.Rh bl (List.mem_of_getElem? hl)
   exact L.lt h b hb
  refine ⟨(AF (.slice (some ⟨g, 0, none⟩) xs.length c)).toList ++ (bss.set i b2).flatten, ⟨_, css.set i cs', bss.set i b2, rfl, hkeep, by simpa using hm, ⟨?_, by simpa using e2, .inr ⟨g, c, _, by rw [List.length_set], by omega, hw, by simpa using hc, hcm, ?_, ?_⟩⟩, rfl⟩, ?_, ?_⟩
  ·rw [BE (n := L.n), List.length_set, List.length_set, hlen.1]
   intro d hd
   rcases List.mem_or_eq_of_mem_set hd with h | h
   ·exact hcl d h
   ·rw [h]; exact lcs'
  ·rw [Aa]
   simp only [List.size_toArray, List.length_append, List.length_take, List.length_drop, Array.length_toList, lcs']
   rw [Nat.succ_mul] at him
   omega
  ·rw [Nat.succ_mul] at him
   have hcz : cur.toList.length = cur.size := by simp
   rw [Nt i hcl hilc lcs', ← ht, List.length_set, List.toList_toArray, Lh (by rw [lcs']; omega) Ad, Aa, lcs']
  ·rw [List.nodup_append]
   have hmem : ∀ b ∈ (bss.set i b2).flatten, b ∈ b2 ∨ ∃ j bl, j ≠ i ∧ bss[j]? = some bl ∧ b ∈ bl := by
    intro b hb
    obtain ⟨l, hl, hb⟩ := List.mem_flatten.1 hb
    obtain ⟨j, hj⟩ := List.getElem?_of_mem hl
    rw [List.getElem?_set] at hj
    split at hj
    ·obtain rfl : b2 = l := by simpa [hilb] using hj
     exact .inl hb
    ·exact .inr ⟨j, l, by omega, hj, hb⟩
   have k4 : ∀ b ∈ b2, b ∈ bx ∨ ¬ (b < w.heap.size ∧ S b) := fun b hb => hdis b (L.lt k1 b hb) (k3 b hb)
   refine ⟨by simp [AF], ?_, ?_⟩
   ·have hq : ∀ {bss : List (List Nat)} (i : Nat), bss.flatten.Nodup → (∀ b ∈ b2, ∀ (j : Nat) (bl : List Nat), j ≠ i → bss[j]? = some bl → b ∉ bl) → (bss.set i b2).flatten.Nodup := by
     intro bss
     induction bss with
     | nil => intro i h _; simp
     | cons e bss ih =>
      intro i h hb
      rw [List.flatten_cons, List.nodup_append] at h
      cases i with
      | zero =>
       rw [List.set_cons_zero, List.flatten_cons, List.nodup_append]
       refine ⟨k2, h.2.1, fun p hp q hq e => ?_⟩
       subst e
       obtain ⟨l, hl, hq⟩ := List.mem_flatten.1 hq
       obtain ⟨j, hj⟩ := List.getElem?_of_mem hl
       exact hb p hp (j + 1) l Ad (by simpa using hj) hq
      | succ i =>
       rw [List.set_cons_succ, List.flatten_cons, List.nodup_append]
       refine ⟨h.1, ih i h.2.1 fun b hbb j bl hj hl => hb b hbb (j + 1) bl Ad (by simpa using hl), fun p hp q hq e' => ?_⟩
       subst e'
       obtain ⟨l, hl, hq⟩ := List.mem_flatten.1 hq
       obtain ⟨j, hj⟩ := List.getElem?_of_mem hl
       rw [List.getElem?_set] at hj
       split at hj
       ·split at hj
        ·obtain rfl := Option.some.inj hj
         exact hb p hq 0 e Ad rfl hp
        ·contradiction
       ·exact h.2.2 p hp p (List.mem_flatten.2 ⟨l, List.mem_of_getElem? hj, hq⟩) rfl
    refine hq i hn.2.1 fun b hb j bl hj hl hbl => ?_
    rcases k4 b hb with h | h
    ·exact EH (f := id) hnf hl h5 hj b hbl h
    ·refine h ⟨?_, hS b (List.mem_append_right _ (List.mem_flatten.2 ⟨bl, List.mem_of_getElem? hl, hbl⟩))⟩
     obtain ⟨y, _, z, _, h⟩ := h3.Rh bl (List.mem_of_getElem? hl)
     exact L.lt h b hbl
   ·intro p hp q hq e
    subst e
    have hpg : p = g := by simpa [AF] using hp
    subst hpg
    rcases hmem p hq with h | ⟨j, bl, _, hl, h⟩
    ·rcases k4 p h with h | h
     ·exact hn.2.2 p hgm p (hbx p h) rfl
     ·exact h ⟨hgl, hS p (List.mem_append_left _ hgm)⟩
    ·exact hn.2.2 p hgm p (List.mem_flatten.2 ⟨bl, List.mem_of_getElem? hl, h⟩) rfl
  ·intro b hb
   rcases List.mem_append.1 hb with hb | hb
   ·exact .inl (hS b (List.mem_append_left _ (by simpa [AF] using hb)))
   ·obtain ⟨l, hl, hbl⟩ := List.mem_flatten.1 hb
    rcases List.mem_or_eq_of_mem_set hl with h | h
    ·exact .inl (hS b (List.mem_append_right _ (List.mem_flatten.2 ⟨l, h, hbl⟩)))
    ·exact .inr (k3 b (h ▸ hbl))
end
theorem Yk {P : Program} (a : Value) (l : List Value) (w : World) : xt P (.tuple (a :: l).toArray) 0 w = some (a, w) := TV (a :: l) 0 rfl w
theorem Yl {P : Program} (a b : Value) (l : List Value) (w : World) : xt P (.tuple (a :: b :: l).toArray) 1 w = some (b, w) := TV (a :: b :: l) 1 rfl w
theorem Ym {P : Program} (a b c : Value) (l : List Value) (w : World) : xt P (.tuple (a :: b :: c :: l).toArray) 2 w = some (c, w) := TV (a :: b :: c :: l) 2 rfl w
theorem Af.post {R : Type} {x : Option R} {Q : R → Prop} (h : ∀ Q' : R → Prop, (∀ r, Q r → Q' r) → Af x Q') : Af x Q := h Q fun _ h => h
theorem Li (e : Env) (d : Nat) (v : Value) (l : List (Nat × Value)) (n : Nat) : AJ e ((d, v) :: l) n = AJ (UB e d v) l n := rfl
theorem Nv (e : Env) (n : Nat) : AJ e [] n = e n := rfl
theorem Qo (e : Env) (d : Nat) (v : Value) : UB e d v d = v := by unfold UB; rw [Nat.beq_refl]; rfl
theorem OY (e : Env) {d n : Nat} (v : Value) (h : n ≠ d) : UB e d v n = e n := by
 unfold UB
 rw [show Nat.beq n d = false from Bool.eq_false_iff.2 fun hh => h (Nat.eq_of_beq_eq_true hh)]
 rfl
theorem Qp (a : Value) (l : List Value) : AO (a :: l).toArray 0 = a := rfl
theorem Qq (a : Value) (l : List Value) (n : Nat) : AO (a :: l).toArray (n + 1) = AO l.toArray n := rfl
def Bu (cur : List Value) (o : Nat) (cs : List Value) : List Value := Bp cur o cs
theorem Hp {cur cs : List Value} {o : Nat} (h : o + cs.length ≤ cur.length) : (Bu cur o cs).length = cur.length := by
 unfold Bu
 rw [Aa]
 simp only [List.length_append, List.length_take, List.length_drop]
 omega
theorem Nw {cur cs : List Value} {o : Nat} (h : o + cs.length ≤ cur.length) (i : Nat) : (Bu cur o cs)[i]? = if o ≤ i ∧ i < o + cs.length then cs[i - o]? else cur[i]? := by
 unfold Bu
 rw [Aa]
 have q : (cur.take o).length = o := by rw [List.length_take]; omega
 rcases Nat.lt_or_ge i o with hi | hi
 ·rw [List.getElem?_append_left Ad, List.getElem?_take, if_pos hi, if_neg Ad]
 ·rw [List.getElem?_append_right Ad, q]
  rcases Nat.lt_or_ge (i - o) cs.length with h2 | h2
  ·rw [List.getElem?_append_left h2, if_pos Ad]
  ·rw [List.getElem?_append_right h2, List.getElem?_drop, if_neg Ad]
   congr 1
   omega
theorem Iv {cur cs : List Value} {o j : Nat} (hj : j < cs.length) (h : o + cs.length ≤ cur.length) : nth (Bu cur o cs) (o + j) = nth cs j := by
 rw [← CD, Nw h, if_pos Ad, ← CD]
 congr 1
 omega
theorem OZ {cur cs : List Value} {o : Nat} (hj : 0 < cs.length) (h : o + cs.length ≤ cur.length) : nth (Bu cur o cs) o = nth cs 0 := Iv (j := 0) hj h
theorem O0 {cur cs : List Value} {o j k : Nat} (hj : j + k < cs.length) (h : o + cs.length ≤ cur.length) : nth (Bu cur o cs) (o + j + k) = nth cs (j + k) := by rw [Nat.add_assoc]; exact Iv hj h
theorem Ri {cur cs : List Value} {o : Nat} (h : o + cs.length ≤ cur.length) : (Bp cur o cs).length = cur.length := Hp h
theorem DL {cur cs vs : List Value} {o j : Nat} (hj : j + vs.length ≤ cs.length) (h : o + cs.length ≤ cur.length) : Bp (Bu cur o cs) (o + j) vs = Bu cur o (Bp cs j vs) := by
 apply List.ext_getElem?
 intro i
 have e1 := Ri hj
 rw [HF (by rw [Hp h]; omega), Nw h, Nw (by rw [e1]; exact h), HF hj, e1]
 by_cases c1 : o + j ≤ i ∧ i < o + j + vs.length
 ·rw [if_pos c1, if_pos Ad, if_pos Ad]
  congr 1
  omega
 ·rw [if_neg c1]
  by_cases c2 : o ≤ i ∧ i < o + cs.length
  ·rw [if_pos c2, if_pos c2, if_neg Ad]
  ·rw [if_neg c2, if_neg c2]
theorem Ke {cur cs vs : List Value} {o : Nat} (hj : 0 + vs.length ≤ cs.length) (h : o + cs.length ≤ cur.length) : Bp (Bu cur o cs) o vs = Bu cur o (Bp cs 0 vs) := DL (j := 0) hj h
theorem Kf {cur cs vs : List Value} {o j k : Nat} (hj : j + k + vs.length ≤ cs.length) (h : o + cs.length ≤ cur.length) : Bp (Bu cur o cs) (o + j + k) vs = Bu cur o (Bp cs (j + k) vs) := by rw [Nat.add_assoc]; exact DL hj h
theorem Qr (x v : Value) (cs vs : List Value) : Bp (x :: cs) 0 (v :: vs) = v :: Bp cs 0 vs := by simp [Bp]
theorem Qs (cs : List Value) : Bp cs 0 [] = cs := by simp [Bp]
theorem Qt (x : Value) (cs vs : List Value) (j : Nat) : Bp (x :: cs) (j + 1) vs = x :: Bp cs j vs := by
 simp only [Bp, List.take_succ_cons, List.cons_append, show j + 1 + vs.length = (j + vs.length) + 1 by omega, List.drop_succ_cons]
theorem O1 {cur cs : List Value} {o n : Nat} (h : (cur.drop o).take n = cs) : Bu cur o cs = cur := by
 have e : cs ++ cur.drop (o + cs.length) = cur.drop o := by
  rw [← List.drop_drop, ← h]
  generalize cur.drop o = l
  rcases Nat.le_total n l.length with hn | hn
  ·rw [List.length_take, Nat.min_eq_left hn, List.take_append_drop]
  ·rw [List.take_of_length_le hn, List.drop_length, List.append_nil]
 unfold Bu
 rw [Aa, e, List.take_append_drop]
 class One (v : Value) : Prop where
 h : v.cells.toList = [v] ∧ v.oneCell' = true
instance {k : IntKind} {n : Int} : One (.int k n) := ⟨by rfl, by rfl⟩
instance {b : Bool} : One (.bool b) := ⟨by rfl, by rfl⟩
instance {b : ByteArray} : One (.string b) := ⟨by rfl, by rfl⟩
instance {a : Option Addr} {n c : Nat} : One (.slice a n c) := ⟨by rfl, by rfl⟩
instance {a : Option Addr} : One (.pointer a) := ⟨by rfl, by rfl⟩
instance {a : Option Nat} : One (.map a) := ⟨by rfl, by rfl⟩
section
variable {P : Program} {t b o j k : Nat} {w : World} {cur cs vs : List Value} {e : TypeId} {v : Value}
theorem RO [One v] {x : Value} (h : o + 1 ≤ (x :: cs).length) : HR P t 1 b o v w (some (.cells (x :: cs).toArray e (0, 0))) = some (undef, w.setRow b (Bp (x :: cs) o [v]).toArray) := by
 obtain ⟨h1, h2⟩ := One.h (v := v)
 have h3 : v.cells.size = 1 := by rw [← Array.length_toList, h1]; rfl
 rw [Ab, if_pos ⟨h3, by simpa using h, by rw [h1]; simp [h2]⟩, h1]
theorem Qu {x : Value} {n : Nat} (hn : vs.length = n) (hv : vs.all Value.oneCell' = true) (h : o + vs.length ≤ (x :: cs).length) : HR P t n b o (.agg vs.toArray) w (some (.cells (x :: cs).toArray e (0, 0))) = some (undef, w.setRow b (Bp (x :: cs) o vs).toArray) := by
 rw [Ab, KY, if_pos ⟨by simpa using hn, by rw [← hn]; simpa using h, by simpa using hv⟩]
theorem LL [One v] (hj : j + 1 ≤ cs.length) (h : o + cs.length ≤ cur.length) : HR P t 1 b (o + j) v w (some (.cells (Bu cur o cs).toArray e (0, 0))) = some (undef, w.setRow b (Bu cur o (Bp cs j [v])).toArray) := by
 obtain ⟨h1, h2⟩ := One.h (v := v)
 have h3 : v.cells.size = 1 := by rw [← Array.length_toList, h1]; rfl
 rw [Ab, if_pos ⟨h3, by rw [List.size_toArray, Hp h]; omega, by rw [h1]; simp [h2]⟩, h1, List.toList_toArray, DL (by simpa using hj) h]
theorem Qv [One v] (hj : 0 + 1 ≤ cs.length) (h : o + cs.length ≤ cur.length) : HR P t 1 b o v w (some (.cells (Bu cur o cs).toArray e (0, 0))) = some (undef, w.setRow b (Bu cur o (Bp cs 0 [v])).toArray) := LL (j := 0) hj h
theorem Qw [One v] (hj : j + k + 1 ≤ cs.length) (h : o + cs.length ≤ cur.length) : HR P t 1 b (o + j + k) v w (some (.cells (Bu cur o cs).toArray e (0, 0))) = some (undef, w.setRow b (Bu cur o (Bp cs (j + k) [v])).toArray) := by rw [Nat.add_assoc]; exact LL hj h
theorem Ny {n : Nat} (hn : vs.length = n) (hv : vs.all Value.oneCell' = true) (hj : j + vs.length ≤ cs.length) (h : o + cs.length ≤ cur.length) : HR P t n b (o + j) (.agg vs.toArray) w (some (.cells (Bu cur o cs).toArray e (0, 0))) = some (undef, w.setRow b (Bu cur o (Bp cs j vs)).toArray) := by
 rw [Ab, KY, if_pos ⟨by simpa using hn, by rw [List.size_toArray, Hp h]; omega, by simpa using hv⟩, List.toList_toArray, List.toList_toArray, DL hj h]
theorem O2 {n : Nat} (hn : vs.length = n) (hv : vs.all Value.oneCell' = true) (hj : 0 + vs.length ≤ cs.length) (h : o + cs.length ≤ cur.length) : HR P t n b o (.agg vs.toArray) w (some (.cells (Bu cur o cs).toArray e (0, 0))) = some (undef, w.setRow b (Bu cur o (Bp cs 0 vs)).toArray) := Ny (j := 0) hn hv hj h
end
theorem wrap_small {x : Int} (h0 : 0 ≤ x) (h1 : x ≤ 9000000000000000000) : IntKind.i64.wrap x = x := HS Ad Ad
theorem Mod.al {S : Nat → Prop} {a b : World} (h : Mod S a b) (o : Obj) : Mod S a (b.alloc o) := h.tr (Mod.alloc S b o)
theorem Mod.Ud {S : Nat → Prop} {a b : World} (h : Mod S a b) : Mod S a (Go.Ev.dw b) := h.tr (Mod.dw S b)
theorem Mod.ex {S : Nat → Prop} {a b c : World} (h : Mod S a b) (k : Ext b c) : Mod S a c := h.tr (Mod.of k S)
theorem Mod.AQ {S : Nat → Prop} {a b : World} (h : Mod S a b) {k : Nat} (hk : a.heap.size ≤ k ∨ S k) (cs : Array Value) : Mod S a (b.setRow k cs) :=
 Mod.Bd h (Mod.set b k cs) fun x hx he => by subst he; rcases hk with hk | hk; exact absurd hx Ad; exact hk
section
variable {α : Type} {L : Lay α} {S : Nat → Prop} {w : World} {E mx : Nat}
theorem O.row {a : Option Addr} {n c : Nat} {xs : List α} (h : O (AY E mx L) S w [.slice a n c] xs) (h0 : 0 < L.n) {i : Nat} {x : α} (hi : xs[i]? = some x) :
  ∃ g cur cs S1, a = some ⟨g, 0, none⟩ ∧ S g ∧ g < w.heap.size ∧ hp w g = some (.cells (Bu cur (i * L.n) cs).toArray E (0, 0)) ∧ i * L.n + L.n ≤ cur.length ∧ O L S1 w cs x ∧ (∀ b, S1 b → S b ∧ b ≠ g ∧ b < w.heap.size) ∧
   ∀ (w' : World) (cs' : List Value) (x' : α) (S2 : Nat → Prop), O L S2 w' cs' x' → hp w' g = some (.cells (Bu cur (i * L.n) cs').toArray E (0, 0)) → (∀ b, b < w.heap.size → S b → b ≠ g → ¬ S1 b → hp w' b = hp w b) →
    (∀ b, b < w'.heap.size → S2 b → S1 b ∨ ¬ (b < w.heap.size ∧ S b)) → O (AY E mx L) (fun b => S b ∨ S2 b) w' [.slice a n c] (xs.set i x') := by
 obtain ⟨g, cur, cs, S1, h1, h2, h3, h4, h5, h6, h7, h8, h9, h10⟩ := h.elem h0 hi
 refine ⟨g, cur.toList, cs, S1, h1, h2, h3, ?_, by rw [Nat.succ_mul] at h5; simpa using h5, h8, h9, h10⟩
 rw [O1 h6, h4]
end
structure Mk (α : Type) where
 of ::
 mk : Int → α → α
 nx : Int → α → Int
 wt : α → Nat
 le : ∀ k a, k ≤ nx k a
section
variable {α : Type} {M : Mk α}
end
abbrev Iw (E : TypeId) : Lay (List Tag) := AY E 8796093021952 F6
def LI (E : TypeId) : Lay Ver := Nu (BX HZ (BX F6 (BX (Iw E) (BX HG LBool)))) fun v => (v.key, v.tag, v.past, v.text, v.gone)
abbrev F7 (E F : TypeId) : Lay (List Ver) := AY F 1954687338211 (LI E)
structure CNode where
 store : List Ver
 wait : List Ver
def Kg (E F : TypeId) : Lay CNode := Nu (BX (F7 E F) (F7 E F)) fun v => (v.store, v.wait)
abbrev Nz (E F N : TypeId) : Lay (List CNode) := AY N 2932031007317 (Kg E F)
section
variable {S : Nat → Prop} {w : World} {cs : List Value} {E F N : TypeId}
theorem Co : (LI E).n = 6 := rfl
theorem Rj : F6.n = 2 := rfl
theorem BN : (Kg E F).n = 2 := rfl
theorem D.Cq {v : Ver} : D (LI E) S w cs v ↔ ∃ a c, cs = [i64 v.key, i64 v.tag.t, i64 v.tag.p, .slice a v.past.length c, .string v.text, .bool v.gone] ∧ D (Iw E) S w [.slice a v.past.length c] v.past ∧ v.text.size ≤ 140737488351232 := by
 unfold LI
 rw [D.map]
 simp only [D.pair, D.int, D.tag, D.str, D.bool]
 constructor
 ·rintro ⟨c1, d1, rfl, rfl, c2, d2, rfl, rfl, c3, d3, rfl, h3, c4, d4, rfl, ⟨rfl, h4⟩, rfl⟩
  obtain ⟨a, c, rfl, h⟩ := h3.It
  exact ⟨a, c, rfl, h, h4⟩
 ·rintro ⟨a, c, rfl, h3, h4⟩
  exact ⟨[_], _, rfl, rfl, [_, _], _, rfl, rfl, [_], _, rfl, h3, [_], _, rfl, ⟨rfl, h4⟩, rfl⟩
theorem O.Cq {v : Ver} : O (LI E) S w cs v ↔ ∃ a c, cs = [i64 v.key, i64 v.tag.t, i64 v.tag.p, .slice a v.past.length c, .string v.text, .bool v.gone] ∧ O (Iw E) S w [.slice a v.past.length c] v.past ∧ v.text.size ≤ 140737488351232 := by
 constructor
 ·intro h
  unfold LI at h
  rw [O.map] at h
  obtain ⟨bs, ⟨c1, d1, b1, e1, rfl, ⟨rfl, rfl⟩, ⟨c2, d2, b2, e2, rfl, ⟨rfl, rfl⟩, ⟨c3, d3, b3, e3, rfl, h3, ⟨c4, d4, b4, e4, rfl, ⟨rfl, h4, rfl⟩, ⟨rfl, rfl⟩, rfl⟩, rfl⟩, rfl⟩, rfl⟩, hn, hS⟩ := h
  simp only [List.nil_append, List.append_nil] at hn hS
  obtain ⟨a, c, rfl, h⟩ := O.It (L := F6) (E := E) (mx := 8796093021952) (S := S) (w := w) ⟨b3, h3, hn, hS⟩
  exact ⟨a, c, rfl, h, h4⟩
 ·rintro ⟨a, c, rfl, ⟨bs, h1, hn, hS⟩, h4⟩
  refine ⟨bs, ?_, hn, hS⟩
  exact ⟨[_], _, [], bs, rfl, ⟨rfl, rfl⟩, ⟨[_, _], _, [], bs, rfl, ⟨rfl, rfl⟩, ⟨[_], _, bs, [], rfl, h1, ⟨[_], _, [], [], rfl, ⟨rfl, h4, rfl⟩, ⟨rfl, rfl⟩, rfl⟩, by simp⟩, rfl⟩, rfl⟩
theorem D.node {v : CNode} : D (Kg E F) S w cs v ↔ ∃ a c a' c', cs = [.slice a v.store.length c, .slice a' v.wait.length c'] ∧ D (F7 E F) S w [.slice a v.store.length c] v.store ∧ D (F7 E F) S w [.slice a' v.wait.length c'] v.wait := by
 unfold Kg
 rw [D.map]
 simp only [D.pair]
 constructor
 ·rintro ⟨c1, d1, rfl, h1, h2⟩
  obtain ⟨a, c, rfl, h⟩ := h1.It
  obtain ⟨a', c', rfl, h'⟩ := h2.It
  exact ⟨a, c, a', c', rfl, h, h'⟩
 ·rintro ⟨a, c, a', c', rfl, h3, h4⟩
  exact ⟨[_], [_], rfl, h3, h4⟩
theorem O.GC {v : CNode} {S1 S2 : Nat → Prop} {s t : Value} (h1 : O (F7 E F) S1 w [s] v.store) (h2 : O (F7 E F) S2 w [t] v.wait) (hd : ∀ b, b < w.heap.size → S1 b → ¬ S2 b) : O (Kg E F) (fun b => S1 b ∨ S2 b) w [s, t] v := by
 unfold Kg; rw [O.map]; exact O.pair (p := (v.store, v.wait)) h1 h2 hd
theorem O.LM {v : CNode} (h : O (Kg E F) S w cs v) : ∃ a c a' c' S1 S2, cs = [.slice a v.store.length c, .slice a' v.wait.length c'] ∧ O (F7 E F) S1 w [.slice a v.store.length c] v.store ∧ O (F7 E F) S2 w [.slice a' v.wait.length c'] v.wait ∧
  (∀ b, S1 b → S b ∧ ¬ S2 b ∧ b < w.heap.size) ∧ (∀ b, S2 b → S b ∧ ¬ S1 b ∧ b < w.heap.size) := by
 unfold Kg at h
 rw [O.map] at h
 obtain ⟨c, d, S1, S2, rfl, h1, h2, h3, h4⟩ := h.DH
 obtain ⟨a, c, rfl, k1⟩ := h1.It
 obtain ⟨a', c', rfl, k2⟩ := h2.It
 exact ⟨a, c, a', c', S1, S2, rfl, k1, k2, h3, h4⟩
theorem D.Cb {s : Value} {ts : List Tag} (h : D (Iw E) S w [s] ts) : Cb w s ts := by
 obtain ⟨bs, ⟨s', css, bss, he, h3, hm, h1, _⟩, _⟩ := h
 obtain rfl : s = s' := by simpa using he
 have : ∀ {css : List (List Value)} {ts : List Tag} {bss : List (List Nat)}, Bm (F6.lay false w) css ts bss → css.flatten = HT ts := by
  intro css ts bss h
  refine Bm.ind (M := fun css ts _ => css.flatten = HT ts) rfl ?_ h
  intro a l b m c n h1 _ ih
  rw [List.flatten_cons, ih, Rg, h1.1]
 rw [this h3] at h1
 exact ⟨h1, hm⟩
theorem D.PK {v : Ver} (h : D (LI E) S w cs v) : PK w cs v := by
 obtain ⟨a, c, rfl, h1, h2⟩ := D.Cq.1 h
 exact ⟨_, rfl, h1.Cb, h2⟩
theorem D.Kd {s : Value} {vs : List Ver} (h : D (F7 E F) S w [s] vs) : Kd w s vs := by
 obtain ⟨bs, ⟨s', css, bss, he, h3, hm, h1, _⟩, _⟩ := h
 obtain rfl : s = s' := by simpa using he
 refine ⟨css, h1, ?_, hm⟩
 have : ∀ {css : List (List Value)} {ts : List Ver} {bss : List (List Nat)}, Bm ((LI E).lay false w) css ts bss → DG (Go.Ev.PK w) css ts := by
  intro css ts bss h
  refine Bm.ind (M := fun css ts _ => DG (Go.Ev.PK w) css ts) trivial ?_ h
  intro a l b m c n h1 _ ih
  exact ⟨D.PK (S := fun _ => True) ⟨c, h1, fun _ _ => trivial⟩, ih⟩
 exact this h3
theorem Qx (o : Bool) : ∀ ts : List Tag, Bm (F6.lay o w) (ts.map OK) ts (ts.map fun _ => [])
 | [] => trivial
 | t :: ts => ⟨⟨rfl, rfl⟩, Qx o ts⟩
theorem RP (ts : List Tag) : (ts.map fun _ => ([] : List Nat)).flatten = [] := by induction ts <;> simp_all
theorem Ue {s : Value} {ts : List Tag} {B : Nat} (h : Dm E B w s ts) : O (Iw E) (In B w.heap.size) w [s] ts := by
 refine ⟨(AF s).toList ++ (ts.map fun _ => []).flatten, ⟨s, ts.map OK, ts.map fun _ => [], rfl, Qx _ ts, h.2, h.1.from (Nat.zero_le _), rfl⟩, ?_, fun b hb => ?_⟩
 ·rw [RP, List.append_nil]; cases AF s <;> simp
 ·rw [RP, List.append_nil] at hb; exact h.lt b hb
end
def Lay.Flat {α : Type} (L : Lay α) : Prop := ∀ o w cs a bs, L.lay o w cs a bs → bs = [] ∧ ∀ o' w', L.lay o' w' cs a []
theorem B8 : F6.Flat := by rintro o w cs a bs ⟨rfl, rfl⟩; exact ⟨rfl, fun _ _ => ⟨rfl, rfl⟩⟩
theorem Cp : HZ.Flat := by rintro o w cs a bs ⟨rfl, rfl⟩; exact ⟨rfl, fun _ _ => ⟨rfl, rfl⟩⟩
theorem Qy : HG.Flat := by rintro o w cs a bs ⟨rfl, h, rfl⟩; exact ⟨rfl, fun _ _ => ⟨rfl, h, rfl⟩⟩
theorem SV : LBool.Flat := by rintro o w cs a bs ⟨rfl, rfl⟩; exact ⟨rfl, fun _ _ => ⟨rfl, rfl⟩⟩
theorem BO {α β : Type} {L : Lay α} {M : Lay β} (h1 : L.Flat) (h2 : M.Flat) : (BX L M).Flat := by
 rintro o w cs a bs ⟨c, d, b1, b2, rfl, h3, h4, rfl⟩
 obtain ⟨rfl, k1⟩ := h1 _ _ _ _ _ h3
 obtain ⟨rfl, k2⟩ := h2 _ _ _ _ _ h4
 exact ⟨rfl, fun o' w' => ⟨c, d, [], [], rfl, k1 o' w', k2 o' w', rfl⟩⟩
theorem Kh {α β : Type} {L : Lay α} {f : β → α} (h : L.Flat) : (Nu L f).Flat := fun o w cs a bs k => h o w cs (f a) bs k
section
variable {α : Type} {L : Lay α} {S S1 : Nat → Prop} {w : World} {E mx E' mx' : Nat}
theorem Yn {α : Type} (ys : List α) : (ys.map fun _ => ([] : List Nat)).flatten = [] := by induction ys <;> simp_all
theorem D.flat (hf : L.Flat) (h0 : 0 < L.n) {a : Option Addr} {n c : Nat} {ys : List α} (h : D (AY E mx L) S w [.slice a n c] ys) : ∃ css, GB L (fun _ => False) w css ys ∧ (ys = [] ∨ ∃ b o, a = some ⟨b, o, none⟩ ∧ At w b o css.flatten) := by
 obtain ⟨bs, ⟨s', css, bss, he, h3, hm, ⟨a', c', e1, _, h1⟩, _⟩, _⟩ := h
 obtain ⟨rfl⟩ : .slice a n c = s' := by simpa using he
 simp only [Value.slice.injEq] at e1
 obtain ⟨rfl, rfl, rfl⟩ := e1
 refine ⟨css, ⟨ys.map fun _ => [], ?_, ?_, ?_⟩, ?_⟩
 ·have : ∀ {css : List (List Value)} {ys : List α} {bss : List (List Nat)}, Bm (L.lay false w) css ys bss → Bm (L.lay true w) css ys (ys.map fun _ => []) := by
   intro css ys bss h
   refine Bm.ind (M := fun css ys _ => Bm (L.lay true w) css ys (ys.map fun _ => [])) trivial ?_ h
   intro a l b m c n h1 _ ih
   exact ⟨(hf _ _ _ _ _ h1).2 _ _, ih⟩
  exact this h3
 ·rw [Yn]; simp
 ·rw [Yn]; simp
 ·cases ys with
  | nil => exact .inl rfl
  | cons y ys =>
   right
   rcases h1 with h1 | h1
   ·cases css with
    | nil => exact h3.elim
    | cons d css =>
     cases bss with
     | nil => exact h3.elim
     | cons e bss =>
      have h5 := L.len h3.1
      have h6 : d = [] := (List.append_eq_nil_iff.1 (by simpa using h1 : d ++ css.flatten = [])).1
      rw [h6] at h5
      simp at h5
      omega
   ·exact h1
theorem O.I3 {P : Program} (hf : L.Flat) {t ty y : Nat} (hE : Hu P t = some (E, L.n, y)) {z : List Value} (hz : CS P E = some z) (hzs : z.length = L.n) (h0 : 0 < L.n) {sv : Value} {xs ys : List α} {a : Option Addr} {n c : Nat}
  (ho : O (AY E mx L) S w [sv] xs) (hx : D (AY E' mx' L) S1 w [.slice a n c] ys) (hl : xs.length + ys.length ≤ mx) (hy : mx * y ≤ 140737488355328) (hm2 : mx ≤ 140737488355328) :
  Af (Ar P #[t, t] ty #[sv, .slice a n c] w) fun r => ∃ a' c', r.1 = .slice a' (xs.length + ys.length) c' ∧
   O (AY E mx L) (fun b => S b ∨ (w.heap.size ≤ b ∧ b < r.2.heap.size)) r.2 [r.1] (xs ++ ys) ∧ Mod S w r.2 := by
 obtain ⟨hn, _⟩ := hx.n
 obtain ⟨css, h1, h2⟩ := D.flat hf h0 hx
 rcases h2 with rfl | ⟨b, o, rfl, hA⟩
 ·obtain ⟨a', c', hs, ho'⟩ := ho.It
  obtain rfl : sv = .slice a' xs.length c' := by simpa using hs
  have hle : xs.length ≤ c' := by
   obtain ⟨css', ⟨_, _, h3⟩, _⟩ := ho.un
   rcases h3 with ⟨h3, h4⟩ | ⟨g, cap, cur, h3, _, _, h4, _⟩
   ·omega
   ·simp only [Value.slice.injEq] at h3
    omega
  simp only [List.length_nil] at hn
  subst hn
  rw [Iq hE a' a xs.length c' c hle w]
  refine ⟨_, rfl, a', c', rfl, ?_, Mod.rfl⟩
  rw [List.append_nil]
  exact ho.wide fun b h _ => .inl h
 ·by_cases hz0 : ys.length = 0
  ·have : ys = [] := List.eq_nil_of_length_eq_zero hz0
   subst this
   obtain ⟨a', c', hs, ho'⟩ := ho.It
   obtain rfl : sv = .slice a' xs.length c' := by simpa using hs
   have hle : xs.length ≤ c' := by
    obtain ⟨css', ⟨_, _, h3⟩, _⟩ := ho.un
    rcases h3 with ⟨h3, h4⟩ | ⟨g, cap, cur, h3, _, _, h4, _⟩
    ·omega
    ·simp only [Value.slice.injEq] at h3
     omega
   simp only [List.length_nil] at hn
   subst hn
   rw [Iq hE a' (some ⟨b, o, none⟩) xs.length c' c hle w]
   refine ⟨_, rfl, a', c', rfl, ?_, Mod.rfl⟩
   rw [List.append_nil]
   exact ho.wide fun b h _ => .inl h
  ·refine Af.mono (O.apps hE hz hzs h0 ho h1 (fun _ _ _ h => h) hA hn Ad Ad hy hm2) ?_
   rintro ⟨s, w1⟩ ⟨a', c', h3, h4, h5⟩
   rw [hn] at h3
   exact ⟨a', c', h3, h4.wide fun b h _ => h.elim .inl fun h => h.elim (fun h => h.elim) .inr, h5⟩
theorem O.empty {g : Nat} (h : hp w g = some (.cells #[] E (0, 0))) : O (AY E mx L) (fun b => b = g) w [.slice (some ⟨g, 0, none⟩) 0 0] ([] : List α) := by
 have hO : K0 w 0 E L.n (.slice (some ⟨g, 0, none⟩) 0 0) ([] : List α).length ([] : List (List Value)).flatten :=
  ⟨by simp, by simp, .inr ⟨g, 0, #[], rfl, Nat.zero_le _, h, by simp, by omega, by simp, by simp⟩⟩
 have := O.mk (mx := mx) (S1 := fun _ => False) hO GB.nil (fun _ _ h => h) (by simp)
 exact this.wide fun b h _ => h.elim (fun h => h.elim) fun h => by simpa [AF] using h
end
section
variable {α : Type} {L : Lay α} {S S1 : Nat → Prop} {w : World} {E mx : Nat}
theorem RQ {z : List Value} {x0 : α} (h : O L (fun _ => False) w z x0) : ∀ n : Nat, GB L (fun _ => False) w (List.replicate n z) (List.replicate n x0)
 | 0 => GB.nil
 | n + 1 => by
  have := (GB.one h).app (RQ h n) (fun _ _ h => h.elim)
  rw [List.replicate_succ, List.replicate_succ]
  exact this.wide fun b h _ => h.elim id id
theorem Ki (z : List Value) : ∀ n : Nat, Ip z n = (List.replicate n z).flatten
 | 0 => rfl
 | n + 1 => by rw [Ip, Ki z n, List.replicate_succ, List.flatten_cons]
theorem O.make {P : Program} {t y : Nat} (hE : Hu P t = some (E, L.n, y)) {z : List Value} (hz : CS P E = some z) (hzs : z.length = L.n) (h0 : 0 < L.n) {n : Nat} {x0 : α} (hx : ∀ w, O L (fun _ => False) w z x0) (hn : n ≤ mx) (hy : mx * y ≤ 140737488355328) (hm2 : mx ≤ 140737488355328) :
  Af (ms P t (i64 n) (i64 n) w) fun r => r.1 = .slice (some ⟨w.heap.size, 0, none⟩) n n ∧ O (AY E mx L) (fun b => b = w.heap.size) r.2 [r.1] (List.replicate n x0) ∧ r.2.heap.size = w.heap.size + 1 ∧ Ext w r.2 := by
 have hb1 : n * y ≤ mx * y := Nat.mul_le_mul_right _ hn
 have hb2 : y * (n : Int) ≤ 281474976710656 := by
  have : (y * n : Nat) ≤ 140737488355328 := by rw [Nat.mul_comm]; omega
  have h2 : ((y * n : Nat) : Int) = (y : Int) * (n : Int) := by simp
  rw [← h2]; omega
 rw [VJ (P := P) hE hz hzs h0 Ad (Int.le_refl _) hb2 Ad w]
 refine ⟨_, rfl, by simp, ?_, by simp, Ext.alloc w _⟩
 have hO : K0 (w.alloc (.cells (Ip z (n : Int).toNat).toArray E)) 0 E L.n (.slice (some ⟨w.heap.size, 0, none⟩) n n) (List.replicate n x0).length (List.replicate n z).flatten := by
  refine ⟨?_, by simp; omega, .inr ⟨w.heap.size, n, _, by simp, Nat.zero_le _, Av rfl, by simp, by omega, ?_, ?_⟩⟩
  ·rw [← Ki, Kc, hzs, List.length_replicate]
  ·rw [List.size_toArray, Kc, hzs]; simp
  ·rw [List.length_replicate, List.toList_toArray, Int.toNat_natCast, Ki, List.take_of_length_le]
   rw [← Ki, Kc, hzs]; omega
 have := O.mk (mx := mx) hO (RQ (hx _) n) (fun _ _ h => h) (by simpa using hn)
 simp only [Int.toNat_natCast] at *
 exact this.wide fun b h _ => h.elim (fun h => h.elim) fun h => by simpa [AF] using h
def HU (xs : List α) (z : α) (k : Nat) : List α := xs.take k ++ List.replicate (xs.length - k) z
theorem Rk (xs : List α) (z : α) : HU xs z 0 = List.replicate xs.length z := by simp [HU]
theorem SW (xs : List α) (z : α) : HU xs z xs.length = xs := by simp [HU]
theorem O3 {xs : List α} {z : α} {k : Nat} (h : k < xs.length) : (HU xs z k)[k]? = some z := by
 unfold HU
 rw [List.getElem?_append_right (by simp; omega), List.length_take, Nat.min_eq_left Ad, Nat.sub_self, show xs.length - k = (xs.length - k - 1) + 1 by omega, List.replicate_succ]; rfl
theorem O4 {xs : List α} {z x : α} {k : Nat} (h : xs[k]? = some x) : (HU xs z k).set k x = HU xs z (k + 1) := by
 have hk := (List.getElem?_eq_some_iff.1 h).1
 unfold HU
 rw [List.set_append_right _ _ (by simp; omega), List.length_take, Nat.min_eq_left Ad, Nat.sub_self, IG h, show xs.length - k = (xs.length - (k + 1)) + 1 by omega, List.replicate_succ, List.set_cons_zero, List.append_assoc]; rfl
end
theorem aG {l : List Value} (h : l.length = 6) : ∃ a b c d e f, l = [a, b, c, d, e, f] := by
 match l, h with
 | [a, b, c, d, e, f], _ => exact ⟨a, b, c, d, e, f, rfl⟩
def Hq (xs : List Ver) (v : Ver) : List Ver :=
 match xs[v.key.toNat]? with
 | some u => if BF u.tag v.tag then xs.set v.key.toNat v else xs
 | none => xs
theorem NA {xs : List Ver} {v u : Ver} (h : xs[v.key.toNat]? = some u) (hl : BF u.tag v.tag = true) : Hq xs v = xs.set v.key.toNat v := by simp [Hq, h, hl]
theorem Rl {xs : List Ver} {v u : Ver} (h : xs[v.key.toNat]? = some u) (hl : BF u.tag v.tag = false) : Hq xs v = xs := by simp [Hq, h, hl]
section
variable {w : World} {E F B : Nat}
end
theorem Fg {p : Prop} (h : p := by first | omega | (simp only [World.size_alloc, size_setRow, Ak]; done) | (simp only [World.size_alloc, size_setRow, Ak]; omega) | (simp only [List.length_set, Array.length_toList]; omega) | fail) : p := h
end Go.Ev
