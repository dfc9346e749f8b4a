/- A part of the proof, without conditions. -/
import Derived.Below
import Derived.Laws.AppendOwn
import Derived.Laws.MakeOwn
import Derived.Laws.OwnMore
import Derived.Laws.Slices
import Derived.Laws.Entries
import Derived.Laws.Wrap64
import Derived.Laws.CopyRow
import Derived.Laws.StructEq
import Derived.Laws.BytesString
import Derived.Great.BuildSlice
import Derived.Test.YtjhhommnkaemlaaGreatEvE
set_option linter.unusedVariables false
set_option linter.unusedSimpArgs false
set_option linter.deprecated false
namespace Go.Ev
open Go Go.RowKit
noncomputable def SM (P : Program) (f : Value) (args : Array Value) (w : World) := SA P (EV P) f args w
noncomputable def gn (P : Program) (o : Oper) (e : Env) (w : World) := nx (EV P) ((execOp (val e) o).run P w)
noncomputable def nk (P : Program) (v : Value) (w : World) := nx (EV P) ((execOp (fun _ => v) { dst := none, op := .nilCheck (.tmp 0), type := 0, pos := "", after := #[], guard := none }).run P w)
noncomputable def nc (P : Program) (o : Oper) (e : Env) (w : World) := nx (EV P) ((execOp (val e) o).run P w)
def vl (v : Value) (w : World) : Option (Value × World) := some (v, w)
def dw (w : World) : World := { w with drawn := w.drawn + 1 }
def al (P : Program) (t : TypeId) (w : World) := ro ((Instr.alloc t true (.tuple #[])).run P w)
def bx (P : Program) (t : TypeId) (x : Value) (w : World) := ro ((Instr.box t x).run P w)
def bd (P : Program) (t : TypeId) (ps : Array (Nat × Value)) (w : World) := ro ((Instr.build t ps).run P w)
def bs (P : Program) (t : TypeId) (n : Nat) (ps : Array (Nat × Value)) (w : World) := ro ((Instr.buildSlice t n ps).run P w)
def ld (P : Program) (t : TypeId) (a : Value) (w : World) := ro ((Instr.loadAt t a).run P w)
def st (P : Program) (t : TypeId) (a x : Value) (w : World) := rs ((Instr.storeAt t a x).run P w)
def bo (P : Program) (op : BinOp) (t : TypeId) (x y : Operand) (a b : Value) (w : World) := ro ((do eqGuard op t x y a b; binOp op t a b : Sem Value).run P w)
def uo (P : Program) (op : UnOp) (x : Value) (w : World) := ro ((Op.unary op x).run P w)
def cv (P : Program) (s d : TypeId) (x : Value) (w : World) := ro ((convert s d x).run P w)
def mm (P : Program) (t : TypeId) (r : Option Value) (w : World) := ro ((Instr.makeMap t r).run P w)
def ms (P : Program) (t : TypeId) (l c : Value) (w : World) := ro ((Instr.makeSlice t l c).run P w)
def sl (P : Program) (t : TypeId) (x : Value) (lo hi mx : Option Value) (w : World) := ro ((Instr.sliceAt t x lo hi mx).run P w)
def fa (P : Program) (s : TypeId) (x : Value) (f : Nat) (w : World) := ro ((Instr.fieldAt s x f).run P w)
def fv (P : Program) (s : TypeId) (x : Value) (f : Nat) (w : World) := ro ((Instr.field s x f).run P w)
def ia (P : Program) (t : TypeId) (x i : Value) (w : World) := ro ((Instr.indexAt t x i).run P w)
def ix (P : Program) (t : TypeId) (x i : Value) (w : World) := ro ((Instr.index t x i).run P w)
def lk (P : Program) (t : TypeId) (x i : Value) (ok : Bool) (w : World) := ro ((Instr.lookup t x i ok).run P w)
def mu (P : Program) (t : TypeId) (m k x : Value) (w : World) := rs ((Instr.mapUpdate t m k x).run P w)
def en (P : Program) (x : Value) (w : World) := ro ((Instr.entry x).run P w)
def xt (P : Program) (t : Value) (i : Nat) (w : World) := ro ((Instr.extract t i).run P w)
def Au (P : Program) (ts : Array TypeId) (t : TypeId) (args : Array Value) (w : World) := ro ((Builtin.append_ ts t args).run P w)
def Ax (P : Program) (ts : Array TypeId) (t : TypeId) (args : Array Value) (w : World) := ro ((Builtin.len_ ts t args).run P w)
def RY (P : Program) (ts : Array TypeId) (t : TypeId) (args : Array Value) (w : World) := ro ((Builtin.max_ ts t args).run P w)
abbrev pt (b o : Nat) : Value := .pointer (some ⟨b, o, none⟩)
abbrev i64 (n : Int) : Value := .int .i64 n
abbrev Ext (w w' : World) : Prop := Below w.heap.size w w'
def Tj : TypeDesc → Bool | .struct _ => true | .array _ _ => true | _ => false
def Kl (P : Program) (t : TypeId) : Option Bool := match P.underlying t with | some d => some (Tj d) | none => none
def OC (P : Program) (t : TypeId) : Option Nat := match P.info? t with | some i => some i.size | none => none
def QT (P : Program) (s : TypeId) (f : Nat) : Option (Nat × Option Nat × Option Bool) := match P.underlying s with
 | some (.struct fs) => (match fs.toList[f]? with | some x => some (x.offset, OC P x.type, Kl P x.type) | none => none)
 | _ => none
def EZ (P : Program) (t : TypeId) : Option (TypeId × Nat × Nat) := match P.underlying t with
 | some (.slice e) => (match P.info? e with | some i => some (e, i.size, i.bytes) | none => none)
 | _ => none
def Cg (P : Program) (t : TypeId) : Option (List Value) := match P.info? t with | some i => (match i.zero with | some z => some z.cells.toList | none => none) | none => none
section
variable {P : Program}
theorem Ga {t : TypeId} {b : Bool} (h : Kl P t = some b) (w : World) : (isAgg t).run P w = .ok b w := by
 unfold Kl at h
 cases hd : P.underlying t with
 | none => rw [hd] at h; cases h
 | some d =>
  rw [hd] at h
  simp only [Option.some.injEq] at h
  subst h
  simp only [isAgg, Sem.run_bind, run_underlying hd, Result.andThen_ok]
  cases d <;> rfl
theorem Bj {t n : Nat} (h : OC P t = some n) (w : World) : (sizeOf t).run P w = .ok n w := by
 unfold OC at h
 cases hd : P.info? t with
 | none => rw [hd] at h; cases h
 | some i =>
  rw [hd] at h
  simp only [Option.some.injEq] at h
  subst h
  simp [sizeOf, typeInfo, hd]
def hp (w : World) (b : Nat) : Option Obj := w.heap[b]?
def Bn : Option Obj → Nat → Option Value
 | some (.cells c _ _), i => c[i]?
 | _, _ => none
def nth : List Value → Nat → Option Value
 | [], _ => none
 | a :: _, 0 => some a
 | _ :: l, n + 1 => nth l n
theorem BQ : ∀ (l : List Value) (i : Nat), l[i]? = nth l i
 | [], _ => rfl
 | _ :: _, 0 => rfl
 | _ :: l, n + 1 => BQ l n
theorem Bm (c : Array Value) (e : TypeId) (z : Nat × Nat) (i : Nat) : Bn (some (.cells c e z)) i = nth c.toList i := by
 rw [← BQ]; simp [Bn]
theorem cell?_eq (w : World) (b i : Nat) : w.cell? ⟨b, i, none⟩ = Bn (hp w b) i := by
 unfold World.cell? Bn hp
 cases w.heap[b]? with
 | none => rfl
 | some x => cases x <;> rfl
def TL : Option Value → Option (List Value) → Option (List Value)
 | some v, some l => some (v :: l)
 | _, _ => none
def Ba (w : World) (b : Nat) : Nat → Nat → Option (List Value)
 | _, 0 => some []
 | o, n + 1 => match Bn (hp w b) o with | some v => (match Ba w b (o + 1) n with | some l => some (v :: l) | none => none) | none => none
theorem add_lit (b o n : Nat) : (⟨b, o, none⟩ : Addr).add n = ⟨b, o + n, none⟩ := by
 unfold Addr.add
 split
 ·rename_i h; subst h; rfl
 ·rfl
theorem G4 {w : World} {b : Nat} : ∀ {n o : Nat} {l : List Value}, Ba w b o n = some l → l.length = n
 | 0, o, l, h => by simp only [Ba, Option.some.injEq] at h; subst h; rfl
 | n + 1, o, l, h => by
  simp only [Ba] at h
  split at h
  ·split at h
   ·rename_i l' hl
    simp only [Option.some.injEq] at h
    subst h
    simp [G4 hl]
   ·contradiction
  ·contradiction
theorem JX {w : World} {b : Nat} : ∀ {n o : Nat} {l : List Value}, Ba w b o n = some l → ∀ (j : Nat) v, l[j]? = some v → Bn (hp w b) (o + j) = some v
 | 0, o, l, h, j, v, hv => by simp only [Ba, Option.some.injEq] at h; subst h; simp at hv
 | n + 1, o, l, h, j, v, hv => by
  simp only [Ba] at h
  split at h
  ·rename_i u hu
   split at h
   ·rename_i l' hl
    simp only [Option.some.injEq] at h
    subst h
    cases j with
    | zero => simp only [List.getElem?_cons_zero, Option.some.injEq] at hv; subst hv; exact hu
    | succ j =>
     have := JX hl j v (by simpa using hv)
     rw [show o + (j + 1) = o + 1 + j by omega]
     exact this
   ·contradiction
  ·contradiction
def At (w : World) (b o : Nat) (l : List Value) : Prop := ∀ (j : Nat) v, l[j]? = some v → Bn (hp w b) (o + j) = some v
noncomputable def TM (P : Program) (t : TypeId) (b o : Nat) (w : World) := ld P t (pt b o) w
noncomputable def O1 (P : Program) (t : TypeId) (b o : Nat) (w : World) : Option Value → Option (Value × World)
 | some v => some (v, w)
 | none => TM P t b o w
noncomputable def PH (P : Program) (t : TypeId) (b o : Nat) (w : World) : Option (List Value) → Option (Value × World)
 | some l => some (.agg l.toArray, w)
 | none => TM P t b o w
theorem Dl {t : TypeId} (h : Kl P t = some false) (b o : Nat) (w : World) : ld P t (pt b o) w = O1 P t b o w (Bn (hp w b) o) := by
 cases hc : Bn (hp w b) o with
 | none => rfl
 | some v =>
  have hc' : w.cell? ⟨b, o, none⟩ = some v := by rw [cell?_eq]; exact hc
  simp only [O1, ld, Instr.loadAt, Instr.sureAddr, loadVar, Sem.run_bind, Sem.run_pure, Result.andThen_ok, Ga h]
  simp [hc', ro]
theorem Ee {t n : Nat} (h : Kl P t = some true) (hs : OC P t = some n) (b o : Nat) (w : World) : ld P t (pt b o) w = PH P t b o w (Ba w b o n) := by
 cases hc : Ba w b o n with
 | none => rfl
 | some l =>
  have hl := G4 hc
  have hr := run_loadCells_list (P := P) w ⟨b, o, none⟩ l (fun j v hv => by rw [add_lit, cell?_eq]; exact JX hc j v hv)
  rw [hl] at hr
  simp only [PH, ld, Instr.loadAt, Instr.sureAddr, loadVar, Sem.run_bind, Sem.run_pure, Result.andThen_ok, Ga h, Bj hs, if_true, hr, ro]
theorem Vs (t : TypeId) (v : Value) (w : World) : bx P t v w = some (pt w.heap.size 0, w.alloc (.cells v.cells t)) := by
 simp [bx, Instr.box, newVar, newRow, ro]
theorem Gb {t : TypeId} {z : List Value} (h : Cg P t = some z) (w : World) : al P t w = some (pt w.heap.size 0, w.alloc (.cells z.toArray t)) := by
 unfold Cg at h
 split at h
 ·rename_i i hi
  split at h
  ·rename_i z' hz
   simp only [Option.some.injEq] at h
   subst h
   simp [al, Instr.alloc, zeroValue, typeInfo, hi, hz, newVar, newRow, ro]
  ·contradiction
 ·contradiction
theorem A8 {s f off n : Nat} {g : Option Bool} (h : QT P s f = some (off, some (n + 1), g)) (b o : Nat) (w : World) : fa P s (pt b o) f w = some (pt b (o + off), w) := by
 unfold QT at h
 split at h
 ·rename_i fs hu
  split at h
  ·rename_i x hx
   simp only [Option.some.injEq, Prod.mk.injEq] at h
   obtain ⟨h1, h2, _⟩ := h
   rw [Array.getElem?_toList] at hx
   subst h1
   simp [fa, pt, Instr.fieldAt, run_underlying hu, hx, Instr.sureAddr, fieldPlace, Bj h2, ro, add_lit]
  ·contradiction
 ·contradiction
theorem Ug {s f off n : Nat} (h : QT P s f = some (off, some n, some false)) (cs : List Value) {v : Value} (hv : cs[off]? = some v) (w : World) : fv P s (.agg cs.toArray) f w = some (v, w) := by
 unfold QT at h
 split at h
 ·rename_i fs hu
  split at h
  ·rename_i x hx
   simp only [Option.some.injEq, Prod.mk.injEq] at h
   obtain ⟨h1, h2, h3⟩ := h
   rw [Array.getElem?_toList] at hx
   subst h1
   simp [fv, Instr.field, run_underlying hu, hx, asAgg, part, Ga h3, hv, ro]
  ·contradiction
 ·contradiction
theorem Uh {s f off n : Nat} (h : QT P s f = some (off, some n, some true)) (cs : List Value) (w : World) : fv P s (.agg cs.toArray) f w = some (.agg ((cs.drop off).take n).toArray, w) := by
 unfold QT at h
 split at h
 ·rename_i fs hu
  split at h
  ·rename_i x hx
   simp only [Option.some.injEq, Prod.mk.injEq] at h
   obtain ⟨h1, h2, h3⟩ := h
   rw [Array.getElem?_toList] at hx
   subst h1
   simp [fv, Instr.field, run_underlying hu, hx, asAgg, part, Ga h3, Bj h2, ro]
  ·contradiction
 ·contradiction
theorem Gc {t e s y : Nat} (h : EZ P t = some (e, s, y)) {b o n c : Nat} {i : Int} (h0 : 0 ≤ i) (h1 : i < n) (w : World) :
  ia P t (.slice (some ⟨b, o, none⟩) n c) (i64 i) w = some (pt b (o + i.toNat * s), w) := by
 unfold EZ at h
 split at h
 ·rename_i e' hu
  split at h
  ·rename_i x hx
   simp only [Option.some.injEq, Prod.mk.injEq] at h
   obtain ⟨rfl, rfl, _⟩ := h
   simp [ia, Instr.indexAt, asIntOf, run_underlying hu, h0, h1, sizeOf, typeInfo, hx, ro, add_lit]
  ·contradiction
 ·contradiction
theorem BG {t e ty : Nat} {s : Nat × Nat} (h : EZ P t = some (e, s)) (a : Option Addr) (n c : Nat) (w : World) : Ax P #[t] ty #[.slice a n c] w = some (i64 n, w) := by
 unfold EZ at h
 split at h
 ·rename_i e' hu
  simp [Ax, Builtin.len_, run_underlying hu, ro, goInt]
 ·contradiction
theorem O2 (op : BinOp) (t : TypeId) (x y : Operand) (k j : IntKind) (a b : Int) (w : World) : (eqGuard op t x y (.int k a) (.int j b)).run P w = .ok () w := by
 unfold eqGuard
 split <;> rfl
theorem Ef (op : BinOp) (t : TypeId) (x y : Operand) (k j : IntKind) (a b : Int) (w : World) : bo P op t x y (.int k a) (.int j b) w = ro ((binOp op t (.int k a) (.int j b)).run P w) := by
 simp only [bo, Sem.run_bind, O2, Result.andThen_ok]
theorem Ui (t : TypeId) (x y : Operand) (k : IntKind) (a b : Int) (w : World) : bo P .lss t x y (.int k a) (.int k b) w = some (.bool (decide (a < b)), w) := by
 rw [Ef]; simp [binOp, Op.intCmp, ro]
theorem Uj (t : TypeId) (x y : Operand) (k : IntKind) (a b : Int) (w : World) : bo P .leq t x y (.int k a) (.int k b) w = some (.bool (decide (a ≤ b)), w) := by
 rw [Ef]; simp [binOp, Op.intCmp, ro]
theorem Uk (t : TypeId) (x y : Operand) (k : IntKind) (a b : Int) (w : World) : bo P .gtr t x y (.int k a) (.int k b) w = some (.bool (decide (b < a)), w) := by
 rw [Ef]; simp [binOp, Op.intCmp, ro]
theorem Ul (t : TypeId) (x y : Operand) (k : IntKind) (a b : Int) (w : World) : bo P .geq t x y (.int k a) (.int k b) w = some (.bool (decide (b ≤ a)), w) := by
 rw [Ef]; simp [binOp, Op.intCmp, ro]
theorem Um (t : TypeId) (x y : Operand) (k : IntKind) (a b : Int) (w : World) : bo P .eql t x y (.int k a) (.int k b) w = some (.bool (a == b), w) := by
 rw [Ef]; simp [binOp, Op.intCmp, ro]
theorem Un (t : TypeId) (x y : Operand) (k : IntKind) (a b : Int) (w : World) : bo P .neq t x y (.int k a) (.int k b) w = some (.bool (a != b), w) := by
 rw [Ef]; simp [binOp, Op.intCmp, ro]
theorem Uo (t : TypeId) (x y : Operand) (k : IntKind) (a b : Int) (w : World) : bo P .add t x y (.int k a) (.int k b) w = some (.int k (k.wrap (a + b)), w) := by
 rw [Ef]; simp [binOp, Op.intArith, ro]
theorem Up (t : TypeId) (x y : Operand) (k : IntKind) (a b : Int) (w : World) : bo P .sub t x y (.int k a) (.int k b) w = some (.int k (k.wrap (a - b)), w) := by
 rw [Ef]; simp [binOp, Op.intArith, ro]
theorem Uq (t : TypeId) (x y : Operand) (k : IntKind) (a b : Int) (w : World) : bo P .mul t x y (.int k a) (.int k b) w = some (.int k (k.wrap (a * b)), w) := by
 rw [Ef]; simp [binOp, Op.intArith, ro]
theorem RZ (op : BinOp) (t : TypeId) (x y : Operand) (a b : ByteArray) (w : World) : bo P op t x y (.string a) (.string b) w = ro ((Op.stringOp op a b).run P w) := by
 simp only [bo, eqGuard, binOp]
 cases op <;> simp
theorem PI (t : TypeId) (x y : Operand) (a b : ByteArray) (w : World) : bo P .eql t x y (.string a) (.string b) w = some (.bool (a.toList == b.toList), w) := by
 rw [RZ]; simp [Op.stringOp, ro]
theorem PJ (t : TypeId) (x y : Operand) (a b : ByteArray) (w : World) : bo P .neq t x y (.string a) (.string b) w = some (.bool (!(a.toList == b.toList)), w) := by
 rw [RZ]; simp [Op.stringOp, ro]
theorem Ur (b : Bool) (w : World) : uo P .not (.bool b) w = some (.bool (!b), w) := by simp [uo, Op.unary, ro]
theorem Us (n : Int) (w : World) : uo P .neg (i64 n) w = some (i64 (IntKind.i64.wrap (0 - n)), w) := by simp [uo, Op.unary, Op.intArith, ro]
theorem R7 (vs : List Value) (i : Nat) {v : Value} (h : vs[i]? = some v) (w : World) : xt P (.tuple vs.toArray) i w = some (v, w) := by
 simp [xt, Instr.extract, h, ro]
theorem Tk {t ty : Nat} (h : P.underlying t = some .string) (s : ByteArray) (w : World) : Ax P #[t] ty #[.string s] w = some (i64 s.size, w) := by
 simp [Ax, Builtin.len_, run_underlying h, ro, goInt]
theorem Gd {t off : Nat} (h : Kl P t = some false) (cs : Array Value) {v : Value} (hv : cs[off]? = some v) (w : World) : (part t cs off).run P w = .ok v w := by
 simp [part, Ga h, hv]
theorem Ny {f g : Field} (hf : P.underlying f.type = some (.int .i64)) (hg : P.underlying g.type = some (.int .i64)) (hn : (f.name ≠ "_" ∧ g.name ≠ "_" ∧ f.offset = 0 ∧ g.offset = 1))
  (a0 a1 b0 b1 : Int) (w : World) : ro (((Op.eqFields 9999 #[i64 a0, i64 a1] #[i64 b0, i64 b1] [f, g]).run P w).andThen fun b w' => .ok (.bool b) w') = some (.bool ((a0 == b0) && (a1 == b1)), w) := by
 obtain ⟨h1, h2, h3, h4⟩ := hn
 have ag : ∀ t, P.underlying t = some (.int .i64) → Kl P t = some false := fun t h => by simp [Kl, h, Tj]
 have e0 := run_equalIn_int (P := P) w 9998 f.type .i64 .i64 a0 b0 hf
 have e1 := run_equalIn_int (P := P) w 9998 g.type .i64 .i64 a1 b1 hg
 have p : ∀ x y, (part f.type #[i64 x, i64 y] 0).run P w = .ok (i64 x) w := fun x y => Gd (ag _ hf) _ rfl w
 have q : ∀ x y, (part g.type #[i64 x, i64 y] 1).run P w = .ok (i64 y) w := fun x y => Gd (ag _ hg) _ rfl w
 simp only [Op.eqFields, h1, h2, h3, h4, ne_eq, not_false_eq_true, if_true, Sem.run_bind, p, Result.andThen_ok, e0]
 cases hb : (a0 == b0) <;> cases hc : (a1 == b1) <;> simp [ro, q, e1, hc]
theorem QU {f g : Field} (hf : P.underlying f.type = some (.int .i64)) (hg : P.underlying g.type = some (.int .i64)) (hn : (f.name ≠ "_" ∧ g.name ≠ "_" ∧ f.offset = 0 ∧ g.offset = 1))
  (a0 a1 b0 b1 : Int) (w : World) : ro (((Op.eqFields 9999 #[i64 a0, i64 a1] #[i64 b0, i64 b1] [f, g]).run P w).andThen fun b w' => .ok (.bool (!b)) w') = some (.bool (!((a0 == b0) && (a1 == b1))), w) := by
 have := Ny hf hg hn a0 a1 b0 b1 w
 cases hr : (Op.eqFields 9999 #[i64 a0, i64 a1] #[i64 b0, i64 b1] [f, g]).run P w with
 | ok b w' =>
  rw [hr] at this
  simp only [Result.andThen_ok, ro, Option.some.injEq, Prod.mk.injEq, Value.bool.injEq] at this ⊢
  rw [this.1]
  exact ⟨rfl, this.2⟩
 | halt => rw [hr] at this; simp [ro] at this
theorem Ch {t : TypeId} {ps : Array (Nat × Value)} {cells : Array Value} (h : P.built t ps.toList = some cells) {w : World} : bd P t ps w = some (.agg cells, w) := by
 simp only [bd, run_build w t ps cells h, ro]
def IW (z : List Value) : Nat → List Value
 | 0 => []
 | n + 1 => z ++ IW z n
def R8 (P : Program) (t : TypeId) (len : Nat) (ps : List (Nat × Value)) : Option (TypeId × Array Value) :=
 match P.underlying t with
 | some (.slice e) => (match P.info? e with
  | some i => (match i.zero with
   | some z => (match decide (0 < len * i.size) && decide (len * i.size ≤ 2 ^ 24) && Nat.beq z.cells.size i.size with
    | true => (match Instr.fill (fun k => some (k * i.size, i.size)) (IW z.cells.toList len).toArray ps with | some cs => some (e, cs) | none => none)
    | false => none)
   | none => none)
  | none => none)
 | _ => none
theorem O3 (z : List Value) (hz : 0 < z.length) : ∀ (n j : Nat), (IW z n)[j]? = if j < n * z.length then some (z[j % z.length]!) else none
 | 0, j => by simp [IW]
 | n + 1, j => by
  simp only [IW, List.getElem?_append]
  by_cases hj : j < z.length
  ·rw [if_pos hj, if_pos (by rw [Nat.succ_mul]; omega), Nat.mod_eq_of_lt hj]
   simp [hj]
  ·rw [if_neg hj, O3 z hz n]
   have : (j - z.length) % z.length = j % z.length := by
    rw [Nat.mod_eq_sub_mod (a := j) (by omega)]
   rw [this]
   by_cases h : j < (n + 1) * z.length
   ·rw [if_pos h, if_pos (by rw [Nat.succ_mul] at h; omega)]
   ·rw [if_neg h, if_neg (by rw [Nat.succ_mul] at h; omega)]
theorem Qm (z : Array Value) (hz : 0 < z.size) (n : Nat) : (Array.range (n * z.size)).map (z[· % z.size]!) = (IW z.toList n).toArray := by
 apply Array.ext'
 apply List.ext_getElem?
 intro j
 have := O3 z.toList (by simpa using hz) n j
 simp only [Array.length_toList] at this
 rw [this]
 by_cases h : j < n * z.size
 ·have hm : j % z.size < z.size := Nat.mod_lt _ hz
  simp [h, hm]
 ·simp [h]
theorem ER {t e : TypeId} {n : Nat} {ps : Array (Nat × Value)} {cells : Array Value} (h : R8 P t n ps.toList = some (e, cells)) {w : World} :
  bs P t n ps w = some (.slice (some ⟨w.heap.size, 0, none⟩) n n, w.alloc (.cells cells e)) := by
 unfold R8 at h
 split at h
 ·rename_i e' hu
  split at h
  ·rename_i i hi
   split at h
   ·rename_i z hz
    split at h
    ·rename_i hc
     simp only [Bool.and_eq_true, decide_eq_true_eq, Nat.beq_eq] at hc
     obtain ⟨⟨h1, h2⟩, h3⟩ := hc
     split at h
     ·rename_i cs hf
      simp only [Option.some.injEq, Prod.mk.injEq] at h
      obtain ⟨rfl, rfl⟩ := h
      have hpos : 0 < z.cells.size := by rw [h3]; exact Nat.pos_of_mul_pos_left h1
      have := run_buildSlice (P := P) w t e' n ps cs i z hu hi hz (by omega) (by omega) (by rw [← h3, Qm _ hpos, h3]; exact hf)
      simp only [bs, this, ro]
     ·contradiction
    ·contradiction
   ·contradiction
  ·contradiction
 ·contradiction
theorem Gu {t e n : TypeId} (h : P.underlying t = some (.slice e)) (hi : OC P e = some n) (w : World) :
  bs P t 0 #[] w = some (.slice (some ⟨w.heap.size, 0, none⟩) 0 0, w.alloc (.cells #[] e)) := by
 simp [bs, Instr.buildSlice, run_underlying h, Bj hi, Instr.fill, newRow, ro]
 have : ∀ f : Nat → Value, Array.map f (Array.range 0) = #[] := fun f => by apply Array.ext'; simp
 rw [this]
def AH (cur : List Value) (o : Nat) (vs : List Value) : List Value := cur.take o ++ (vs ++ cur.drop (o + vs.length))
noncomputable def Qn (P : Program) (t : TypeId) (b o : Nat) (v : Value) (w : World) := st P t (pt b o) v w
noncomputable def GJ (P : Program) (t : TypeId) (n b o : Nat) (v : Value) (w : World) : Option Obj → Option (Value × World)
 | some (.cells cur e (0, 0)) => if v.cells.size = n ∧ o + n ≤ cur.size ∧ v.cells.toList.all Value.oneCell' = true then some (undef, w.setRow b (AH cur.toList o v.cells.toList).toArray) else Qn P t b o v w
 | _ => Qn P t b o v w
theorem Ab (t n b o : Nat) (v : Value) (w : World) (cur : Array Value) (e : TypeId) : GJ P t n b o v w (some (.cells cur e (0, 0))) =
  if v.cells.size = n ∧ o + n ≤ cur.size ∧ v.cells.toList.all Value.oneCell' = true then some (undef, w.setRow b (AH cur.toList o v.cells.toList).toArray) else Qn P t b o v w := by cases w; rfl
theorem R9 (t b o : Nat) (w : World) (v : Value) : O1 P t b o w (some v) = some (v, w) := by cases w; rfl
theorem Sc (t b o : Nat) (w : World) (v : List Value) : PH P t b o w (some v) = some (.agg v.toArray, w) := by cases w; rfl
theorem Cn {t n : Nat} (hs : OC P t = some n) (b o : Nat) (v : Value) (w : World) : st P t (pt b o) v w = GJ P t n b o v w (hp w b) := by
 unfold hp
 cases hg : w.heap[b]? with
 | none => rfl
 | some x =>
  cases x with
  | cells cur e z =>
   by_cases hz : z = (0, 0)
   ·subst hz
    simp only [GJ]
    split
    ·rename_i h
     obtain ⟨h1, h2, h3⟩ := h
     have hr := run_storeCells_at P b o e v.cells.toList 0 cur w hg (by simp; omega) (fun x hx => List.all_eq_true.1 h3 x hx)
     simp only [st, Instr.storeAt, Instr.sureAddr, storeVar, Sem.run_bind, Sem.run_pure, Result.andThen_ok, Bj hs, h1]
     simp only [Nat.add_zero] at hr
     simp [hr, rs, AH]
    ·rfl
   ·have : GJ P t n b o v w (some (.cells cur e z)) = Qn P t b o v w := by
     obtain ⟨z1, z2⟩ := z
     unfold GJ
     split
     ·rename_i heq
      simp only [Option.some.injEq, Obj.cells.injEq] at heq
      exact absurd heq.2.2 hz
     ·rfl
    rw [this]
    rfl
  | _ => rfl
def Vt (cs : Array Value) : Option Obj → Option Obj
 | some (.cells _ e z) => some (.cells cs e z)
 | x => x
theorem QV (cs c : Array Value) (e : TypeId) (z : Nat × Nat) : Vt cs (some (.cells c e z)) = some (.cells cs e z) := by cases z; rfl
theorem B8 (w : World) (b : Nat) (cs : Array Value) : hp (w.setRow b cs) b = Vt cs (hp w b) := by
 simp only [hp, World.setRow, Array.getElem?_modify, if_true]
 cases hg : w.heap[b]? with
 | none => rfl
 | some x => cases x <;> rfl
theorem Ac {w : World} {b k : Nat} {cs : Array Value} (h : k ≠ b) : hp (w.setRow b cs) k = hp w k := setRow_other w b k cs h
theorem Sd {R : Type} (r : R) (Q : R → Prop) : Ae (Option.some r) Q = Q r := by
 apply propext
 constructor
 ·rintro ⟨x, hx, h⟩; cases hx; exact h
 ·exact fun h => ⟨r, rfl, h⟩
theorem Ae.bind {R S : Type} {x : Option R} {k : R → Option S} {Q : R → Prop} {Q' : S → Prop} (h : Ae x Q) (hk : ∀ r, Q r → Ae (k r) Q') : Ae (x.bind k) Q' := by
 obtain ⟨r, rfl, hr⟩ := h
 exact hk r hr
theorem Ae.mono {R : Type} {x : Option R} {Q Q' : R → Prop} (h : Ae x Q) (hq : ∀ r, Q r → Q' r) : Ae x Q' := by
 obtain ⟨r, h1, hr⟩ := h
 exact ⟨r, h1, hq r hr⟩
theorem Ae.enter (hP : Plain P) (hm : P.follows .mixedOrders = true) {f : FuncId} {args : Array Value} {w : World} {Q : Value × World → Prop} {n : Nat} {x : Option (Value × World)} (e : Br P (EV P) f args w = x) (hi : P.inits.idxOf? f = none)
  (hn : (P.funcs.toList[f]?).map (fun fn => Nat.ble n fn.ntmps) = Option.some true) (ha : args.size = n) (h : Ae x Q) : Ae (EV P f args w) Q := by
 obtain ⟨r, h1, h2⟩ := h
 refine ⟨r, U7 hP hm hi (fun fn hf => ?_) (by rw [← T0]; exact e.trans h1), h2⟩
 rw [Array.getElem?_toList, hf] at hn
 simp only [Option.map_some, Option.some.injEq, Nat.ble_eq] at hn
 omega
theorem Xc {R S : Type} (x : R) (f : R → Option S) : (Option.some x).bind f = f x := by cases h : f x <;> simp [h]
theorem Tl (i : Nat) : nth [] i = none := by cases i <;> rfl
theorem Se (a : Value) (l : List Value) : nth (a :: l) 0 = Option.some a := by cases l <;> rfl
theorem Sg (a : Value) (l : List Value) (n : Nat) : nth (a :: l) (n + 1) = nth l n := by cases l <;> rfl
theorem Oq (w : World) (b o : Nat) : Ba w b o 0 = Option.some [] := by cases w; rfl
theorem Ot (w : World) (b o n : Nat) : Ba w b o (n + 1) = TL (Bn (hp w b) o) (Ba w b (o + 1) n) := by
 rw [Ba]
 cases Bn (hp w b) o with
 | none => rfl
 | some v => cases Ba w b (o + 1) n <;> rfl
theorem PK (v : Value) (l : List Value) : TL (Option.some v) (Option.some l) = Option.some (v :: l) := by cases l <;> rfl
theorem Aa (cur : List Value) (o : Nat) (vs : List Value) : AH cur o vs = cur.take o ++ (vs ++ cur.drop (o + vs.length)) := by cases cur <;> rfl
theorem Vu {R : Type} (x y : Option R) : AR (.bool true) x y = x := by cases x <;> rfl
theorem Vv {R : Type} (x y : Option R) : AR (.bool false) x y = y := by cases x <;> rfl
theorem Ut (x : Option (Value × World)) (w : World) : Ao (.bool true) true x w = x := by cases x <;> rfl
theorem Uu (x : Option (Value × World)) (w : World) : Ao (.bool true) false x w = Option.some (undef, w) := by cases x <;> rfl
theorem Uv (x : Option (Value × World)) (w : World) : Ao (.bool false) true x w = Option.some (undef, w) := by cases x <;> rfl
theorem Uw (x : Option (Value × World)) (w : World) : Ao (.bool false) false x w = x := by cases x <;> rfl
theorem Vx (t : Bool) (x : Option (Value × World)) (w : World) : Ao undef t x w = Option.some (undef, w) := by cases x <;> rfl
theorem Ux (a b : Value) (w : World) : Az (.bool true) a b w = Option.some (a, w) := by cases a <;> rfl
theorem Uy (a b : Value) (w : World) : Az (.bool false) a b w = Option.some (b, w) := by cases a <;> rfl
theorem JO (cs : Array Value) : Value.cells (.agg cs) = cs := by cases cs; rfl
theorem QW (k : IntKind) (n : Int) : Value.cells (.int k n) = #[.int k n] := by cases k <;> rfl
theorem PL (b : Bool) : Value.cells (.bool b) = #[.bool b] := by cases b <;> rfl
theorem Ou (b : ByteArray) : Value.cells (.string b) = #[.string b] := by cases b; rfl
theorem O4 (a : Option Addr) (l c : Nat) : Value.cells (.slice a l c) = #[.slice a l c] := by cases a <;> rfl
theorem Nd (a : Option Addr) : Value.cells (.pointer a) = #[.pointer a] := by cases a <;> rfl
theorem QX (a : Option Nat) : Value.cells (.map a) = #[.map a] := by cases a <;> rfl
theorem LA : Value.cells .nilIface = #[.nilIface] := rfl
theorem PM (f : Fn) (a b : Array Value) : Value.cells (.func f a b) = #[.func f a b] := by cases a; rfl
theorem QY {α β : Type} {x y : Option α} (f : α → Option β) (h : Unit → x = y) : x.bind f = y.bind f := by rw [h ()]
theorem Sh {R : Type} {c d : Value} (x y : Option R) (h : Unit → c = d) : AR c x y = AR d x y := by rw [h ()]
theorem Si {R : Type} {p q : Prop} (x : Option R) (h : Unit → p = q) : Ah p x = Ah q x := by cases h (); rfl
attribute [congr] QY Sh Si
theorem Sj {R : Type} (x : Option R) : Ah True x = x := Td x trivial
theorem Vy (v : Value) (w : World) : vl v w = Option.some (v, w) := by cases w; rfl
theorem Ad (w : World) : (dw w).heap.size = w.heap.size := by cases w; rfl
theorem BB (w : World) (b : Nat) : hp (dw w) b = hp w b := by cases w; rfl
theorem BJ (w : World) : Ext w (dw w) := (Below.refl _ w).drew
theorem Ag {w : World} {o : Obj} {b : Nat} (h : b < w.heap.size) : hp (w.alloc o) b = hp w b := Below.heap_alloc w o b h
theorem An {w : World} {o : Obj} {b : Nat} (h : b = w.heap.size) : hp (w.alloc o) b = Option.some o := by subst h; exact heap_alloc_new w o
theorem Aq {w : World} {b : Nat} {o : Obj} (h : hp w b = Option.some o) : b < w.heap.size := (Array.getElem?_eq_some_iff.1 h).1
theorem Ext.Ai {w w' : World} (h : Ext w w') {b : Nat} (hb : b < w.heap.size) : hp w' b = hp w b := h.block b hb
theorem Ext.alloc (w : World) (o : Obj) : Ext w (w.alloc o) := (Below.refl _ w).alloc (Nat.le_refl _) o
theorem Ext.tr {a b c : World} (h : Ext a b) (k : Ext b c) : Ext a c := Below.trans h (k.mono h.size)
theorem Ext.rfl {a : World} : Ext a a := Below.refl _ a
theorem Ext.al {a b : World} (h : Ext a b) (o : Obj) : Ext a (b.alloc o) := h.tr (Ext.alloc b o)
theorem Ext.dw {a b : World} (h : Ext a b) : Ext a (dw b) := h.tr (BJ b)
theorem Ext.set {a b : World} (h : Ext a b) {k : Nat} (hk : a.heap.size ≤ k) (cs : Array Value) : Ext a (b.setRow k cs) :=
 Below.trans h ⟨by rfl, by rfl, by rfl, by simp, fun i hi => setRow_other _ _ _ _ (by omega)⟩
theorem At.mono {w w' : World} {b o : Nat} {l : List Value} (h : At w b o l) (he : ∀ b, b < w.heap.size → hp w' b = hp w b) : At w' b o l := by
 intro j v hv
 have h1 := h j v hv
 have : b < w.heap.size := by
  rcases Nat.lt_or_ge b w.heap.size with h' | h'
  ·exact h'
  ·rw [hp, Array.getElem?_eq_none h'] at h1; simp [Bn] at h1
 rw [he b this]; exact h1
theorem Kv {x : Int} (h0 : -9223372036854775808 ≤ x) (h1 : x ≤ 9223372036854775807) : IntKind.i64.wrap x = x := by
 simp only [IntKind.wrap, IntKind.bits, IntKind.signed, Bool.true_and, decide_eq_true_eq, show (2 : Int) ^ 64 = 18446744073709551616 from rfl, show (2 : Int) ^ (64 - 1) = 9223372036854775808 from rfl]
 split <;> omega
theorem Uz {g : FuncId} (h : (P.funcs.toList[g]?).map (fun fn => fn.body.isSome) = Option.some true) (first cap args : List Value) (w : World) :
  SM P (.func (.func g) first.toArray cap.toArray) args.toArray w = EV P g (first ++ (args ++ cap)).toArray w := by
 unfold SM SA VB
 cases hf : P.funcs.toList[g]? with
 | none => rw [hf] at h; simp at h
 | some fn =>
  rw [hf] at h
  simp only [Option.map_some, Option.some.injEq] at h
  simp only []
  cases hb : fn.body with
  | none => rw [hb] at h; simp at h
  | some c => simp only [hf, hb]
theorem UA {src dst : TypeId} {j : IntKind} (hs : (P.underlying src).isSome = true) (hd : P.underlying dst = Option.some (.int j)) (k : IntKind) (n : Int) (w : World) :
  cv P src dst (.int k n) w = Option.some (.int j (j.wrap n), w) := by
 obtain ⟨d, hd'⟩ := Option.isSome_iff_exists.mp hs
 simp [cv, convert, run_underlying hd', run_underlying hd, Conv.intToInt, ro]
theorem Ov (t : TypeId) (x y : Operand) (k : IntKind) (a : Int) {b : Int} (h : b ≠ 0) (w : World) : bo P .rem t x y (.int k a) (.int k b) w = Option.some (.int k (a.tmod b), w) := by
 rw [Ef]; simp [binOp, Op.intDiv, h, ro]
theorem UB (t : TypeId) (x y : Operand) (k : IntKind) (a : Int) {b : Int} (h : b ≠ 0) (w : World) : bo P .quo t x y (.int k a) (.int k b) w = Option.some (.int k (k.wrap (a.tdiv b)), w) := by
 rw [Ef]; simp [binOp, Op.intDiv, h, ro]
theorem PN {t e : TypeId} {z : Nat × Nat} (h : EZ P t = Option.some (e, z)) (x y : Operand) (A : Option Addr) (n c : Nat) (w : World) : bo P .eql t x y (.slice A n c) (.slice none 0 0) w = Option.some (.bool A.isNone, w) := by
 unfold EZ at h
 split at h
 ·rename_i e' hu
  have h : (Op.equal t (.slice A n c) (.slice none 0 0)).run P w = .ok A.isNone w := by
   unfold Op.equal
   rw [show Op.maxDepth = 9999 + 1 from rfl, Op.equalIn]
   cases A <;> simp [run_underlying hu]
  cases A <;> simp [bo, eqGuard, binOp, h, ro]
 ·contradiction
theorem IX {t e : TypeId} {z : Nat × Nat} (h : EZ P t = Option.some (e, z)) : P.underlying t = Option.some (.slice (P.elem t)) ∧ OC P (P.elem t) = Option.some z.1 := by
 unfold EZ at h
 split at h
 ·rename_i e' hu
  have he : P.elem t = e' := by simp [Program.elem, hu]
  rw [he]
  refine ⟨hu, ?_⟩
  unfold OC
  split at h
  ·rename_i i hi
   simp only [Option.some.injEq, Prod.mk.injEq] at h
   obtain ⟨_, rfl⟩ := h
   simp only []
  ·contradiction
 ·contradiction
theorem add_zero' (a : Addr) : a.add 0 = a := by simp [Addr.add]
theorem TN {t e : TypeId} {z : Nat × Nat} (h : EZ P t = Option.some (e, z)) {a : Option Addr} {len cap : Nat} {n : Int} (h0 : 0 ≤ n) (h1 : n ≤ cap) (w : World) :
  sl P t (.slice a len cap) none (Option.some (i64 n)) (Option.some (i64 n)) w = Option.some (.slice a n.toNat n.toNat, w) := by
 obtain ⟨hu, hs⟩ := IX h
 simp only [sl, run_sliceAt_slice w t _ _ _ _ hu, run_slice_hm w t a len cap hu .i64 .i64 n n h0 (Int.le_refl _) h1, Bj hs, Result.andThen_ok, sliced, ro]
 cases a <;> simp [add_zero']
theorem PO {t e : TypeId} {z : Nat × Nat} (h : EZ P t = Option.some (e, z)) {a : Option Addr} {len cap : Nat} {n : Int} (h0 : 0 ≤ n) (h1 : n ≤ cap) (w : World) :
  sl P t (.slice a len cap) none (Option.some (i64 n)) none w = Option.some (.slice a n.toNat cap, w) := by
 obtain ⟨hu, hs⟩ := IX h
 simp only [sl, run_sliceAt_slice w t _ _ _ _ hu, run_slice_h w t a len cap hu .i64 n h0 h1, Bj hs, Result.andThen_ok, sliced, ro]
 cases a <;> simp [add_zero']
theorem Xd {t e : TypeId} {z : Nat × Nat} (h : EZ P t = Option.some (e, z)) {b o len cap : Nat} {n : Int} (h0 : 0 ≤ n) (h1 : n ≤ len) (h2 : n.toNat ≠ cap) (w : World) :
  sl P t (.slice (Option.some ⟨b, o, none⟩) len cap) (Option.some (i64 n)) none none w = Option.some (.slice (Option.some ⟨b, o + n.toNat * z.1, none⟩) (len - n.toNat) (cap - n.toNat), w) := by
 obtain ⟨hu, hs⟩ := IX h
 simp only [sl, run_sliceAt_slice w t _ _ _ _ hu, run_slice_l w t _ len cap hu .i64 n h0 h1, Bj hs, Result.andThen_ok, sliced, ro]
 simp [add_lit, Ne.symm h2]
theorem Ge {t ty e : TypeId} {z : Nat × Nat} (h : EZ P t = Option.some (e, z)) (a b : Option Addr) (n c d : Nat) (hn : n ≤ c) (w : World) : Au P #[t, t] ty #[.slice a n c, .slice b 0 d] w = Option.some (.slice a n c, w) := by
 unfold EZ at h
 split at h
 ·rename_i e' hu
  split at h
  ·rename_i i hi
   cases a <;> cases b <;> simp [Au, Builtin.append_, run_underlying hu, sizeOf, typeInfo, hi, Builtin.lenOf, Builtin.firstCells, hn, storeCells, ro, show ∀ b : Addr, (loadCells b 0).run P w = .ok #[] w from fun b => run_loadCells_list w b [] (fun j v hv => by simp at hv)]
  ·contradiction
 ·contradiction
theorem LB (b o : Nat) (w : World) : nk P (pt b o) w = Option.some (pt b o, w) := by
 simp [nk, execOp, nx]
theorem UC (t : TypeId) (x y : Operand) {a b : Nat} (ha : a < 9223372036854775808) (hb : b < 9223372036854775808) (w : World) : bo P .xor t x y (i64 a) (i64 b) w = Option.some (i64 ((a ^^^ b : Nat) : Int), w) ∧ a ^^^ b < 9223372036854775808 := by
 have hx : a ^^^ b < 2 ^ 63 := Nat.xor_lt_two_pow (by simpa using ha) (by simpa using hb)
 have hx' : a ^^^ b < 9223372036854775808 := by simpa using hx
 refine ⟨?_, hx'⟩
 rw [Ef]
 have h1 : (BitVec.ofInt 64 (a : Int) ^^^ BitVec.ofInt 64 (b : Int)).toNat = a ^^^ b := by
  rw [BitVec.toNat_xor, BitVec.ofInt_natCast, BitVec.ofInt_natCast, BitVec.toNat_ofNat, BitVec.toNat_ofNat, Nat.mod_eq_of_lt (by omega), Nat.mod_eq_of_lt (by omega)]
 have h2 : (Op.intBits .xor .i64 (a : Int) (b : Int)).run P w = .ok (.int .i64 (IntKind.i64.wrap ((BitVec.ofInt 64 (a : Int) ^^^ BitVec.ofInt 64 (b : Int)).toNat : Int))) w := by
  rfl
 have h3 : (binOp .xor t (i64 a) (i64 b)).run P w = (Op.intBits .xor .i64 (a : Int) (b : Int)).run P w := by simp [binOp]
 rw [h3, h2, h1, Kv (by omega) (by omega)]
 rfl
theorem Tm (t ty k : _) (a b : Int) (w : World) : RY P #[t, t] ty #[.int k a, .int k b] w = Option.some (.int k (if b > a then b else a), w) := by
 simp [RY, Builtin.max_, Builtin.max2, ro]
theorem UD {t : TypeId} (h : P.underlying t = Option.some .string) (s : ByteArray) {i : Int} (h0 : 0 ≤ i) {b : UInt8} (hb : s.toList[i.toNat]? = Option.some b) (w : World) : ix P t (.string s) (i64 i) w = Option.some (.int .u8 b.toNat, w) := by
 have hb' : s[i.toNat]? = Option.some b := by
  rw [ByteArray.toList_eq] at hb
  obtain ⟨hn, hv⟩ := List.getElem?_eq_some_iff.1 hb
  have hn' : i.toNat < s.size := by simpa using hn
  rw [ByteArray.getElem?_lt' s _ hn', ← hv]
  rfl
 simp [ix, Instr.index, asIntOf, run_underlying h, h0, hb', ro]
theorem LC {t e s y : Nat} (h : EZ P t = Option.some (e, s, y)) : P.underlying t = Option.some (.slice e) ∧ ∃ i, P.info? e = Option.some i ∧ i.size = s ∧ i.bytes = y := by
 unfold EZ at h
 split at h
 ·rename_i e' hu
  split at h
  ·rename_i x hx
   simp only [Option.some.injEq, Prod.mk.injEq] at h
   obtain ⟨rfl, rfl, rfl⟩ := h
   exact ⟨hu, x, hx, by rfl, by rfl⟩
  ·contradiction
 ·contradiction
theorem LD {e : Nat} {z : List Value} (h : Cg P e = Option.some z) : ∃ i v, P.info? e = Option.some i ∧ i.zero = Option.some v ∧ v.cells.toList = z := by
 unfold Cg at h
 split at h
 ·rename_i i hi
  split at h
  ·rename_i v hv
   simp only [Option.some.injEq] at h
   exact ⟨i, v, hi, hv, h⟩
  ·contradiction
 ·contradiction
theorem Vz {t e s y : Nat} (h : EZ P t = Option.some (e, s, y)) {z : List Value} (hz : Cg P e = Option.some z) (hzs : z.length = s) (hs : 0 < s) {l c : Int} (h0 : 0 ≤ l) (h1 : l ≤ c) (h2 : y * c ≤ 281474976710656) (h3 : c ≤ 9223372036854775807) (w : World) :
  ms P t (i64 l) (i64 c) w = Option.some (.slice (Option.some ⟨w.heap.size, 0, none⟩) l.toNat c.toNat, w.alloc (.cells (IW z c.toNat).toArray e)) := by
 obtain ⟨hu, i, hi, h4, h5⟩ := LC h
 obtain ⟨i', v, hi', hv, h6⟩ := LD hz
 rw [hi] at hi'
 cases hi'
 have hsz : v.cells.size = s := by rw [← hzs, ← h6]; simp
 have := run_make (P := P) w t e i v hu hi hv .i64 .i64 l c h0 h1 (by rw [h5]; exact h2) h3
 rw [h4] at this
 have hm : madeCells v.cells (c.toNat * s) = (IW z c.toNat).toArray := by
  rw [← hsz, ← h6]
  exact Qm v.cells (by omega) c.toNat
 rw [hm] at this
 simp only [ms, this, ro]
def Il (w : World) (B : Nat) (e : TypeId) (size : Nat) (s : Value) (n : Nat) (l : List Value) : Prop :=
 l.length = n * size ∧ n ≤ 9223372036854775807 ∧ ((s = .slice none 0 0 ∧ n = 0) ∨
  ∃ g cap cur, s = .slice (Option.some ⟨g, 0, none⟩) n cap ∧ B ≤ g ∧ hp w g = Option.some (.cells cur e (0, 0)) ∧ n ≤ cap ∧ cap ≤ 9223372036854775807 ∧ cap * size ≤ cur.size ∧ cur.toList.take (n * size) = l)
def Av : Value → Option Nat | .slice (some a) _ _ => some a.block | _ => none
structure But (w w' : World) (g : Option Nat) : Prop where
 os : w'.os = w.os
 tape : w'.tape = w.tape
 output : w'.output = w.output
 size : w.heap.size ≤ w'.heap.size
 Ai : ∀ b, b < w.heap.size → g ≠ Option.some b → hp w' b = hp w b
theorem Kw {t ty e s y : Nat} (h : EZ P t = Option.some (e, s, y)) {z : List Value} (hz : Cg P e = Option.some z) (hzs : z.length = s) (hs : 0 < s) {w : World} {B n : Nat} {v : Value} {l news : List Value}
  (ho : Il w B e s v n l) (hB : B ≤ w.heap.size) {b o m c : Nat} (hA : At w b o news) (hn : news.length = m * s) (h1 : news.all Value.oneCell' = true) (hb : (n + m) * y ≤ 140737488355328) (hb2 : n + m ≤ 140737488355328) (hm : 0 < m) :
  Ae (Au P #[t, t] ty #[v, .slice (Option.some ⟨b, o, none⟩) m c] w) fun r => Il r.2 B e s r.1 (n + m) (l ++ news) ∧ But w r.2 (Av v) ∧ (Av r.1 = Av v ∨ ∃ g, Av r.1 = Option.some g ∧ w.heap.size ≤ g ∧ g < r.2.heap.size) := by
 obtain ⟨hu, i, hi, h4, h5⟩ := LC h
 obtain ⟨i', zv, hi', hv, h6⟩ := LD hz
 rw [hi] at hi'
 cases hi'
 have hsz : zv.cells.size = s := by rw [← hzs, ← h6]; simp
 obtain ⟨hl, hn2, ho⟩ := ho
 have hA' : ∀ j u, news[j]? = Option.some u → w.cell? ((⟨b, o, none⟩ : Addr).add j) = Option.some u := fun j u hu => by rw [add_lit, cell?_eq]; exact hA j u hu
 have h1' : ∀ u ∈ news, u.oneCell' = true := fun u hu => List.all_eq_true.1 h1 u hu
 have hlen : (l ++ news).length = (n + m) * s := by rw [List.length_append, hl, hn, Nat.add_mul]
 have grown : ∀ old, old < n + m → ∀ g, Il (w.drew.alloc (.cells (l.toArray ++ news.toArray ++ Builtin.zeroCells zv.cells (grownCap w (n + m) old e - (n + m))) e)) B e s
   (.slice (Option.some ⟨w.heap.size, 0, none⟩) (n + m) (grownCap w (n + m) old e)) (n + m) (l ++ news) ∧
   But w (w.drew.alloc (.cells (l.toArray ++ news.toArray ++ Builtin.zeroCells zv.cells (grownCap w (n + m) old e - (n + m))) e)) g := by
  intro old hold g
  have hge := grownCap_ge w (n + m) old e
  have hle := grownCap_le_maxLen w (n + m) old e (by simp only [maxLen]; omega)
  simp only [maxLen] at hle
  refine ⟨⟨hlen, by omega, .inr ⟨w.heap.size, _, _, by rfl, hB, An (w := w.drew) (by rfl), hge, by omega, ?_, ?_⟩⟩, ⟨by rfl, by rfl, by rfl, by simp, fun k hk _ => Ag (w := w.drew) hk⟩⟩
  ·simp only [Array.size_append, List.size_toArray, size_zeroCells, hsz, hl, hn, ← Nat.add_mul]
   exact Nat.mul_le_mul_right _ (by omega)
  ·simp only [Array.toList_append, List.append_assoc]
   rw [← List.append_assoc, ← hlen]
   exact List.take_left
 rcases ho with ⟨rfl, rfl⟩ | ⟨g, cap, cur, rfl, hg, hh, hc, hcm, hcs, ht⟩
 ·have hl0 : l = [] := List.eq_nil_of_length_eq_zero (by simpa using hl)
  subst hl0
  have hr := run_append_nil (P := P) w t ty e i zv hu hi hv ⟨b, o, none⟩ m c news (by rw [h4]; exact hn) hA' hm (by omega) (by rw [h5]; simp only [Nat.zero_add] at hb; omega)
  have hgr := grown 0 (by omega) (Av (.slice none 0 0))
  simp only [Nat.zero_add, List.nil_append, Array.empty_append] at hgr
  have hx := congrArg ro hr
  refine ⟨_, hx, ?_, hgr.2, .inr ⟨w.heap.size, by rfl, Nat.le_refl _, by simp⟩⟩
  simpa using hgr.1
 ·by_cases hroom : n + m ≤ cap
  ·have hfit : n * i.size + news.length ≤ cur.size := by rw [h4, hn, ← Nat.add_mul]; exact Nat.le_trans (Nat.mul_le_mul_right _ hroom) hcs
   have hr := run_append_room (P := P) w t ty e i hu hi g n cap cur hh ⟨b, o, none⟩ m c news (by rw [h4]; exact hn) hA' h1' hroom hfit
   rw [h4] at hr hfit
   have hx := congrArg ro hr
   refine ⟨_, hx, ⟨hlen, by omega, .inr ⟨g, cap, _, by rfl, hg, setRow_heap w g cur _ e _ hh, hroom, hcm, ?_, ?_⟩⟩, ⟨by rfl, by rfl, by rfl, by simp, fun k hk hne => setRow_other _ _ _ _ (fun e => hne (by rw [e]; rfl))⟩, .inl (by rfl)⟩
   ·simp only [List.size_toArray, List.length_append, List.length_take, List.length_drop, Array.length_toList]
    omega
   ·have h7 : (cur.toList.take (n * s) ++ news).length = (n + m) * s := by rw [ht]; exact hlen
    simp only [← h7]
    rw [List.take_left, ht]
  ·have hold : ∀ j u, l[j]? = Option.some u → w.cell? ((⟨g, 0, none⟩ : Addr).add j) = Option.some u := by
    intro j u hju
    rw [add_lit, cell?_eq, hh, Bm, ← BQ]
    rw [← ht, List.getElem?_take] at hju
    split at hju
    ·simpa using hju
    ·contradiction
   have hr := run_append_grow (P := P) w t ty e i zv hu hi hv ⟨g, 0, none⟩ n cap l (by rw [h4]; exact hl) hold ⟨b, o, none⟩ m c news (by rw [h4]; exact hn) hA' (by omega) (by omega)
    (growslice_fits (by omega) (by rw [h5]; exact hb))
   have hgr := grown cap (by omega) (Av (.slice (Option.some ⟨g, 0, none⟩) n cap))
   have hx := congrArg ro hr
   exact ⟨_, hx, hgr.1, hgr.2, .inr ⟨w.heap.size, by rfl, Nat.le_refl _, by simp⟩⟩
theorem Il.at {w : World} {B : Nat} {e : TypeId} {size : Nat} {s : Value} {n : Nat} {l : List Value} (h : Il w B e size s n l) :
  ∃ a c, s = .slice a n c ∧ n ≤ 9223372036854775807 ∧ (l = [] ∨ ∃ b o, a = Option.some ⟨b, o, none⟩ ∧ At w b o l) := by
 obtain ⟨hl, hn, h⟩ := h
 rcases h with ⟨rfl, rfl⟩ | ⟨g, cap, cur, rfl, hg, hh, hc, hcm, hcs, ht⟩
 ·exact ⟨none, 0, by rfl, hn, .inl (List.eq_nil_of_length_eq_zero (by simpa using hl))⟩
 ·refine ⟨_, _, by rfl, hn, .inr ⟨g, 0, by rfl, fun j v hv => ?_⟩⟩
  rw [hh, Bm, ← BQ, Nat.zero_add]
  rw [← ht, List.getElem?_take] at hv
  split at hv
  ·simpa using hv
  ·contradiction
theorem Il.Aj {w w' : World} {B : Nat} {e : TypeId} {size : Nat} {s : Value} {n : Nat} {l : List Value} (h : Il w B e size s n l) (hk : ∀ g, Av s = Option.some g → hp w' g = hp w g) : Il w' B e size s n l := by
 obtain ⟨hl, hn, h⟩ := h
 refine ⟨hl, hn, h.imp id ?_⟩
 rintro ⟨g, cap, cur, rfl, hg, hh, rest⟩
 exact ⟨g, cap, cur, by rfl, hg, (hk g (by rfl)).trans hh, rest⟩
theorem Il.from {w : World} {B C : Nat} {e : TypeId} {size : Nat} {s : Value} {n : Nat} {l : List Value} (h : Il w B e size s n l) (hC : C ≤ B) : Il w C e size s n l := by
 obtain ⟨hl, hn, h⟩ := h
 refine ⟨hl, hn, h.imp id ?_⟩
 rintro ⟨g, cap, cur, h1, hg, rest⟩
 exact ⟨g, cap, cur, h1, by omega, rest⟩
theorem Il.nil (w : World) (B : Nat) (e : TypeId) (size : Nat) : Il w B e size (.slice none 0 0) 0 [] := ⟨by simp, by omega, .inl ⟨by rfl, by rfl⟩⟩
theorem Il.lt {w : World} {B : Nat} {e : TypeId} {size : Nat} {s : Value} {n : Nat} {l : List Value} (h : Il w B e size s n l) {g : Nat} (hg : Av s = Option.some g) : B ≤ g ∧ g < w.heap.size ∧ ∃ cur, hp w g = Option.some (.cells cur e (0, 0)) := by
 obtain ⟨hl, hn, h⟩ := h
 rcases h with ⟨rfl, rfl⟩ | ⟨g', cap, cur, rfl, hgg, hh, rest⟩
 ·simp [Av] at hg
 ·simp only [Av, Option.some.injEq] at hg
  subst hg
  exact ⟨hgg, Aq hh, cur, hh⟩
end
end Go.Ev
