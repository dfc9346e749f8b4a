/- A part of the proof, without conditions. -/
import Derived.Below
import Derived.Laws.AppendOwn
import Derived.Laws.MakeOwn
import Derived.Laws.OwnMore
import Derived.Laws.Slices
import Derived.Laws.Entries
import Derived.Laws.Wrap64
import Derived.Laws.CopyRow
import Derived.Laws.StructEq
import Derived.Laws.BytesString
import Derived.Great.BuildSlice
import Derived.Test.YtligcpabhddggaaGreatEvE
set_option linter.unusedVariables false
set_option linter.unusedSimpArgs false
namespace Go.Ev
open Go Go.RowKit
noncomputable def clo (P : Program) (f : Value) (args : Array Value) (w : World) := cloD P (EV P) f args w
noncomputable def nk (P : Program) (v : Value) (w : World) := nx (EV P) ((execOp (fun _ => v) { dst := none, op := .nilCheck (.tmp 0), type := 0, pos := "", after := #[], guard := none }).run P w)
def vl (v : Value) (w : World) : Option (Value × World) := some (v, w)
def dw (w : World) : World := { w with drawn := w.drawn + 1 }
def al (P : Program) (t : TypeId) (w : World) := ro ((Instr.alloc t true (.tuple #[])).run P w)
def bx (P : Program) (t : TypeId) (x : Value) (w : World) := ro ((Instr.box t x).run P w)
def bd (P : Program) (t : TypeId) (ps : Array (Nat × Value)) (w : World) := ro ((Instr.build t ps).run P w)
def bs (P : Program) (t : TypeId) (n : Nat) (ps : Array (Nat × Value)) (w : World) := ro ((Instr.buildSlice t n ps).run P w)
def ld (P : Program) (t : TypeId) (a : Value) (w : World) := ro ((Instr.loadAt t a).run P w)
def st (P : Program) (t : TypeId) (a x : Value) (w : World) := rs ((Instr.storeAt t a x).run P w)
def bo (P : Program) (op : BinOp) (t : TypeId) (x y : Operand) (a b : Value) (w : World) := ro ((do eqGuard op t x y a b; binOp op t a b : Sem Value).run P w)
def uo (P : Program) (op : UnOp) (x : Value) (w : World) := ro ((Op.unary op x).run P w)
def cv (P : Program) (s d : TypeId) (x : Value) (w : World) := ro ((convert s d x).run P w)
def mi (P : Program) (t : TypeId) (x : Value) (w : World) := ro ((Instr.makeInterface t x).run P w)
def mm (P : Program) (t : TypeId) (r : Option Value) (w : World) := ro ((Instr.makeMap t r).run P w)
def ms (P : Program) (t : TypeId) (l c : Value) (w : World) := ro ((Instr.makeSlice t l c).run P w)
def sl (P : Program) (t : TypeId) (x : Value) (lo hi mx : Option Value) (w : World) := ro ((Instr.sliceAt t x lo hi mx).run P w)
def fa (P : Program) (s : TypeId) (x : Value) (f : Nat) (w : World) := ro ((Instr.fieldAt s x f).run P w)
def ia (P : Program) (t : TypeId) (x i : Value) (w : World) := ro ((Instr.indexAt t x i).run P w)
def ix (P : Program) (t : TypeId) (x i : Value) (w : World) := ro ((Instr.index t x i).run P w)
def lk (P : Program) (t : TypeId) (x i : Value) (ok : Bool) (w : World) := ro ((Instr.lookup t x i ok).run P w)
def mu (P : Program) (t : TypeId) (m k x : Value) (w : World) := rs ((Instr.mapUpdate t m k x).run P w)
def en (P : Program) (x : Value) (w : World) := ro ((Instr.entry x).run P w)
def xt (P : Program) (t : Value) (i : Nat) (w : World) := ro ((Instr.extract t i).run P w)
def b_append (P : Program) (ts : Array TypeId) (t : TypeId) (args : Array Value) (w : World) := ro ((Builtin.append_ ts t args).run P w)
def b_len (P : Program) (ts : Array TypeId) (t : TypeId) (args : Array Value) (w : World) := ro ((Builtin.len_ ts t args).run P w)
def b_cap (P : Program) (ts : Array TypeId) (t : TypeId) (args : Array Value) (w : World) := ro ((Builtin.cap_ ts t args).run P w)
def b_max (P : Program) (ts : Array TypeId) (t : TypeId) (args : Array Value) (w : World) := ro ((Builtin.max_ ts t args).run P w)
abbrev pt (b o : Nat) : Value := .pointer (some ⟨b, o, none⟩)
abbrev i64 (n : Int) : Value := .int .i64 n
abbrev Ext (w w' : World) : Prop := Below w.heap.size w w'
/-! ### What the types say -/
def aggD : TypeDesc → Bool | .struct _ => true | .array _ _ => true | _ => false
def aggB (P : Program) (t : TypeId) : Option Bool := match P.underlying t with | some d => some (aggD d) | none => none
def szB (P : Program) (t : TypeId) : Option Nat := match P.info? t with | some i => some i.size | none => none
def fldB (P : Program) (s : TypeId) (f : Nat) : Option (Nat × Option Nat × Option Bool) := match P.underlying s with
  | some (.struct fs) => (match fs.toList[f]? with | some x => some (x.offset, szB P x.type, aggB P x.type) | none => none)
  | _ => none
/-- Of a slice's type: its element's cells and bytes. -/
def elB (P : Program) (t : TypeId) : Option (TypeId × Nat × Nat) := match P.underlying t with
  | some (.slice e) => (match P.info? e with | some i => some (e, i.size, i.bytes) | none => none)
  | _ => none
def zeroB (P : Program) (t : TypeId) : Option (List Value) := match P.info? t with | some i => (match i.zero with | some z => some z.cells.toList | none => none) | none => none
section
variable {P : Program}
theorem run_isAgg {t : TypeId} {b : Bool} (h : aggB P t = some b) (w : World) : (isAgg t).run P w = .ok b w := by
  unfold aggB at h
  cases hd : P.underlying t with
  | none => rw [hd] at h; cases h
  | some d =>
    rw [hd] at h
    simp only [Option.some.injEq] at h
    subst h
    simp only [isAgg, Sem.run_bind, run_underlying hd, Result.andThen_ok]
    cases d <;> rfl
theorem run_sizeOf' {t n : Nat} (h : szB P t = some n) (w : World) : (sizeOf t).run P w = .ok n w := by
  unfold szB at h
  cases hd : P.info? t with
  | none => rw [hd] at h; cases h
  | some i =>
    rw [hd] at h
    simp only [Option.some.injEq] at h
    subst h
    simp [sizeOf, typeInfo, hd]
/-! ### Cells -/
/-- The block number b. -/
def hp (w : World) (b : Nat) : Option Obj := w.heap[b]?
def cellO : Option Obj → Nat → Option Value
  | some (.cells c _ _), i => c[i]?
  | _, _ => none
def nth : List Value → Nat → Option Value
  | [], _ => none
  | a :: _, 0 => some a
  | _ :: l, n + 1 => nth l n
theorem nth_eq : ∀ (l : List Value) (i : Nat), l[i]? = nth l i
  | [], _ => rfl
  | _ :: _, 0 => rfl
  | _ :: l, n + 1 => nth_eq l n
theorem cellO_some (c : Array Value) (e : TypeId) (z : Nat × Nat) (i : Nat) : cellO (some (.cells c e z)) i = nth c.toList i := by
  rw [← nth_eq]; simp [cellO]
theorem cell?_eq (w : World) (b i : Nat) : w.cell? ⟨b, i, none⟩ = cellO (hp w b) i := by
  unfold World.cell? cellO hp
  cases w.heap[b]? with
  | none => rfl
  | some x => cases x <;> rfl
def consO : Option Value → Option (List Value) → Option (List Value)
  | some v, some l => some (v :: l)
  | _, _ => none
def cellsAt (w : World) (b : Nat) : Nat → Nat → Option (List Value)
  | _, 0 => some []
  | o, n + 1 => match cellO (hp w b) o with | some v => (match cellsAt w b (o + 1) n with | some l => some (v :: l) | none => none) | none => none
theorem add_lit (b o n : Nat) : (⟨b, o, none⟩ : Addr).add n = ⟨b, o + n, none⟩ := by
  unfold Addr.add
  split
  · rename_i h; subst h; rfl
  · rfl
theorem cellsAt_length {w : World} {b : Nat} : ∀ {n o : Nat} {l : List Value}, cellsAt w b o n = some l → l.length = n
  | 0, o, l, h => by simp only [cellsAt, Option.some.injEq] at h; subst h; rfl
  | n + 1, o, l, h => by
    simp only [cellsAt] at h
    split at h
    · split at h
      · rename_i l' hl
        simp only [Option.some.injEq] at h
        subst h
        simp [cellsAt_length hl]
      · contradiction
    · contradiction
theorem cellsAt_get {w : World} {b : Nat} : ∀ {n o : Nat} {l : List Value}, cellsAt w b o n = some l → ∀ (j : Nat) v, l[j]? = some v → cellO (hp w b) (o + j) = some v
  | 0, o, l, h, j, v, hv => by simp only [cellsAt, Option.some.injEq] at h; subst h; simp at hv
  | n + 1, o, l, h, j, v, hv => by
    simp only [cellsAt] at h
    split at h
    · rename_i u hu
      split at h
      · rename_i l' hl
        simp only [Option.some.injEq] at h
        subst h
        cases j with
        | zero => simp only [List.getElem?_cons_zero, Option.some.injEq] at hv; subst hv; exact hu
        | succ j =>
          have := cellsAt_get hl j v (by simpa using hv)
          rw [show o + (j + 1) = o + 1 + j by omega]
          exact this
      · contradiction
    · contradiction
/-- From o on stand these cells. -/
def At (w : World) (b o : Nat) (l : List Value) : Prop := ∀ (j : Nat) v, l[j]? = some v → cellO (hp w b) (o + j) = some v
theorem At.cells {w : World} {b : Nat} : ∀ {l : List Value} {o : Nat}, At w b o l → cellsAt w b o l.length = some l
  | [], o, h => rfl
  | v :: l, o, h => by
    have h0 := h 0 v rfl
    have ih := At.cells (w := w) (b := b) (l := l) (o := o + 1) fun j u hu => by
      have := h (j + 1) u (by simpa using hu)
      rwa [show o + (j + 1) = o + 1 + j by omega] at this
    simp only [List.length_cons, cellsAt, Nat.add_zero] at h0 ⊢
    rw [h0, ih]
/-- A load: what stands there, or else what the machine says. -/
noncomputable def ldRaw (P : Program) (t : TypeId) (b o : Nat) (w : World) := ld P t (pt b o) w
noncomputable def ldR (P : Program) (t : TypeId) (b o : Nat) (w : World) : Option Value → Option (Value × World)
  | some v => some (v, w)
  | none => ldRaw P t b o w
noncomputable def ldL (P : Program) (t : TypeId) (b o : Nat) (w : World) : Option (List Value) → Option (Value × World)
  | some l => some (.agg l.toArray, w)
  | none => ldRaw P t b o w
theorem ld_one {t : TypeId} (h : aggB P t = some false) (b o : Nat) (w : World) : ld P t (pt b o) w = ldR P t b o w (cellO (hp w b) o) := by
  cases hc : cellO (hp w b) o with
  | none => rfl
  | some v =>
    have hc' : w.cell? ⟨b, o, none⟩ = some v := by rw [cell?_eq]; exact hc
    simp only [ldR, ld, pt, Instr.loadAt, Instr.sureAddr, loadVar, Sem.run_bind, Sem.run_pure, Result.andThen_ok, run_isAgg h]
    simp [hc', ro]
theorem ld_agg {t n : Nat} (h : aggB P t = some true) (hs : szB P t = some n) (b o : Nat) (w : World) : ld P t (pt b o) w = ldL P t b o w (cellsAt w b o n) := by
  cases hc : cellsAt w b o n with
  | none => rfl
  | some l =>
    have hl := cellsAt_length hc
    have hr := run_loadCells_list (P := P) w ⟨b, o, none⟩ l (fun j v hv => by rw [add_lit, cell?_eq]; exact cellsAt_get hc j v hv)
    rw [hl] at hr
    simp only [ldL, ld, pt, Instr.loadAt, Instr.sureAddr, loadVar, Sem.run_bind, Sem.run_pure, Result.andThen_ok, run_isAgg h, run_sizeOf' hs, if_true, hr, ro]
theorem At.ld {t : TypeId} {l : List Value} (h : aggB P t = some true) (hs : szB P t = some l.length) {b o : Nat} {w : World} (ha : At w b o l) : ld P t (pt b o) w = some (.agg l.toArray, w) := by
  rw [ld_agg h hs, ha.cells]; rfl
theorem bx_eq (t : TypeId) (v : Value) (w : World) : bx P t v w = some (pt w.heap.size 0, w.alloc (.cells v.cells t)) := by
  simp [bx, Instr.box, newVar, newRow, ro]
theorem al_eq {t : TypeId} {z : List Value} (h : zeroB P t = some z) (w : World) : al P t w = some (pt w.heap.size 0, w.alloc (.cells z.toArray t)) := by
  unfold zeroB at h
  split at h
  · rename_i i hi
    split at h
    · rename_i z' hz
      simp only [Option.some.injEq] at h
      subst h
      simp [al, Instr.alloc, zeroValue, typeInfo, hi, hz, newVar, newRow, ro]
    · contradiction
  · contradiction
theorem fa_eq {s f off n : Nat} {g : Option Bool} (h : fldB P s f = some (off, some (n + 1), g)) (b o : Nat) (w : World) : fa P s (pt b o) f w = some (pt b (o + off), w) := by
  unfold fldB at h
  split at h
  · rename_i fs hu
    split at h
    · rename_i x hx
      simp only [Option.some.injEq, Prod.mk.injEq] at h
      obtain ⟨h1, h2, _⟩ := h
      rw [Array.getElem?_toList] at hx
      subst h1
      simp [fa, pt, Instr.fieldAt, run_underlying hu, hx, Instr.sureAddr, fieldPlace, run_sizeOf' h2, ro, add_lit]
    · contradiction
  · contradiction
theorem ia_eq {t e s y : Nat} (h : elB P t = some (e, s, y)) {b o n c : Nat} {i : Int} (h0 : 0 ≤ i) (h1 : i < n) (w : World) :
    ia P t (.slice (some ⟨b, o, none⟩) n c) (i64 i) w = some (pt b (o + i.toNat * s), w) := by
  unfold elB at h
  split at h
  · rename_i e' hu
    split at h
    · rename_i x hx
      simp only [Option.some.injEq, Prod.mk.injEq] at h
      obtain ⟨rfl, rfl, _⟩ := h
      simp [ia, Instr.indexAt, asIntOf, run_underlying hu, h0, h1, sizeOf, typeInfo, hx, ro, add_lit]
    · contradiction
  · contradiction
theorem len_slice {t e ty : Nat} {s : Nat × Nat} (h : elB P t = some (e, s)) (a : Option Addr) (n c : Nat) (w : World) : b_len P #[t] ty #[.slice a n c] w = some (i64 n, w) := by
  unfold elB at h
  split at h
  · rename_i e' hu
    simp [b_len, Builtin.len_, run_underlying hu, ro, goInt]
  · contradiction
/-! ### Arithmetic -/
theorem eqGuard_int (op : BinOp) (t : TypeId) (x y : Operand) (k j : IntKind) (a b : Int) (w : World) : (eqGuard op t x y (.int k a) (.int j b)).run P w = .ok () w := by
  unfold eqGuard
  split <;> rfl
theorem bo_int (op : BinOp) (t : TypeId) (x y : Operand) (k j : IntKind) (a b : Int) (w : World) : bo P op t x y (.int k a) (.int j b) w = ro ((binOp op t (.int k a) (.int j b)).run P w) := by
  simp only [bo, Sem.run_bind, eqGuard_int, Result.andThen_ok]
theorem bo_lss (t : TypeId) (x y : Operand) (k : IntKind) (a b : Int) (w : World) : bo P .lss t x y (.int k a) (.int k b) w = some (.bool (decide (a < b)), w) := by
  rw [bo_int]; simp [binOp, Op.intCmp, ro]
theorem bo_leq (t : TypeId) (x y : Operand) (k : IntKind) (a b : Int) (w : World) : bo P .leq t x y (.int k a) (.int k b) w = some (.bool (decide (a ≤ b)), w) := by
  rw [bo_int]; simp [binOp, Op.intCmp, ro]
theorem bo_gtr (t : TypeId) (x y : Operand) (k : IntKind) (a b : Int) (w : World) : bo P .gtr t x y (.int k a) (.int k b) w = some (.bool (decide (b < a)), w) := by
  rw [bo_int]; simp [binOp, Op.intCmp, ro]
theorem bo_geq (t : TypeId) (x y : Operand) (k : IntKind) (a b : Int) (w : World) : bo P .geq t x y (.int k a) (.int k b) w = some (.bool (decide (b ≤ a)), w) := by
  rw [bo_int]; simp [binOp, Op.intCmp, ro]
theorem bo_eql (t : TypeId) (x y : Operand) (k : IntKind) (a b : Int) (w : World) : bo P .eql t x y (.int k a) (.int k b) w = some (.bool (a == b), w) := by
  rw [bo_int]; simp [binOp, Op.intCmp, ro]
theorem bo_neq (t : TypeId) (x y : Operand) (k : IntKind) (a b : Int) (w : World) : bo P .neq t x y (.int k a) (.int k b) w = some (.bool (a != b), w) := by
  rw [bo_int]; simp [binOp, Op.intCmp, ro]
theorem bo_add (t : TypeId) (x y : Operand) (k : IntKind) (a b : Int) (w : World) : bo P .add t x y (.int k a) (.int k b) w = some (.int k (k.wrap (a + b)), w) := by
  rw [bo_int]; simp [binOp, Op.intArith, ro]
theorem bo_sub (t : TypeId) (x y : Operand) (k : IntKind) (a b : Int) (w : World) : bo P .sub t x y (.int k a) (.int k b) w = some (.int k (k.wrap (a - b)), w) := by
  rw [bo_int]; simp [binOp, Op.intArith, ro]
theorem bo_mul (t : TypeId) (x y : Operand) (k : IntKind) (a b : Int) (w : World) : bo P .mul t x y (.int k a) (.int k b) w = some (.int k (k.wrap (a * b)), w) := by
  rw [bo_int]; simp [binOp, Op.intArith, ro]
theorem bo_eql_bool {t : TypeId} (h : P.underlying t = some .bool) (x y : Operand) (a b : Bool) (w : World) : bo P .eql t x y (.bool a) (.bool b) w = some (.bool (a == b), w) := by
  have : (Op.equal t (.bool a) (.bool b)).run P w = .ok (a == b) w := by
    unfold Op.equal Op.maxDepth
    rw [Op.equalIn]
    simp only [Sem.run_bind, run_underlying h, Result.andThen_ok]
    rfl
  simp [bo, eqGuard, binOp, Sem.run_bind, this, ro]
theorem bo_neq_bool {t : TypeId} (h : P.underlying t = some .bool) (x y : Operand) (a b : Bool) (w : World) : bo P .neq t x y (.bool a) (.bool b) w = some (.bool (!(a == b)), w) := by
  have : (Op.equal t (.bool a) (.bool b)).run P w = .ok (a == b) w := by
    unfold Op.equal Op.maxDepth
    rw [Op.equalIn]
    simp only [Sem.run_bind, run_underlying h, Result.andThen_ok]
    rfl
  simp [bo, eqGuard, binOp, Sem.run_bind, this, ro]
theorem bo_str (op : BinOp) (t : TypeId) (x y : Operand) (a b : ByteArray) (w : World) : bo P op t x y (.string a) (.string b) w = ro ((Op.stringOp op a b).run P w) := by
  simp only [bo, eqGuard, binOp]
  cases op <;> simp
theorem bo_eql_str (t : TypeId) (x y : Operand) (a b : ByteArray) (w : World) : bo P .eql t x y (.string a) (.string b) w = some (.bool (a.toList == b.toList), w) := by
  rw [bo_str]; simp [Op.stringOp, ro]
theorem bo_neq_str (t : TypeId) (x y : Operand) (a b : ByteArray) (w : World) : bo P .neq t x y (.string a) (.string b) w = some (.bool (!(a.toList == b.toList)), w) := by
  rw [bo_str]; simp [Op.stringOp, ro]
theorem uo_not (b : Bool) (w : World) : uo P .not (.bool b) w = some (.bool (!b), w) := by simp [uo, Op.unary, ro]
theorem uo_neg (n : Int) (w : World) : uo P .neg (i64 n) w = some (i64 (IntKind.i64.wrap (0 - n)), w) := by simp [uo, Op.unary, Op.intArith, ro]
theorem xt_eq (vs : List Value) (i : Nat) {v : Value} (h : vs[i]? = some v) (w : World) : xt P (.tuple vs.toArray) i w = some (v, w) := by
  simp [xt, Instr.extract, h, ro]
theorem len_str {t ty : Nat} (h : P.underlying t = some .string) (s : ByteArray) (w : World) : b_len P #[t] ty #[.string s] w = some (i64 s.size, w) := by
  simp [b_len, Builtin.len_, run_underlying h, ro, goInt]
theorem part_int {t off : Nat} (h : aggB P t = some false) (cs : Array Value) {v : Value} (hv : cs[off]? = some v) (w : World) : (part t cs off).run P w = .ok v w := by
  simp [part, run_isAgg h, hv]
theorem eqTwo_eql {f g : Field} (hf : P.underlying f.type = some (.int .i64)) (hg : P.underlying g.type = some (.int .i64)) (hn : (f.name ≠ "_" ∧ g.name ≠ "_" ∧ f.offset = 0 ∧ g.offset = 1))
    (a0 a1 b0 b1 : Int) (w : World) : ro (((Op.eqFields 9999 #[i64 a0, i64 a1] #[i64 b0, i64 b1] [f, g]).run P w).andThen fun b w' => .ok (.bool b) w') = some (.bool ((a0 == b0) && (a1 == b1)), w) := by
  obtain ⟨h1, h2, h3, h4⟩ := hn
  have ag : ∀ t, P.underlying t = some (.int .i64) → aggB P t = some false := fun t h => by simp [aggB, h, aggD]
  have e0 := run_equalIn_int (P := P) w 9998 f.type .i64 .i64 a0 b0 hf
  have e1 := run_equalIn_int (P := P) w 9998 g.type .i64 .i64 a1 b1 hg
  have p : ∀ x y, (part f.type #[i64 x, i64 y] 0).run P w = .ok (i64 x) w := fun x y => part_int (ag _ hf) _ rfl w
  have q : ∀ x y, (part g.type #[i64 x, i64 y] 1).run P w = .ok (i64 y) w := fun x y => part_int (ag _ hg) _ rfl w
  simp only [Op.eqFields, h1, h2, h3, h4, ne_eq, not_false_eq_true, if_true, Sem.run_bind, p, q, Result.andThen_ok, e0, e1]
  cases hb : (a0 == b0) <;> cases hc : (a1 == b1) <;> simp [ro, p, q, e1, hc]
theorem eqTwo_neq {f g : Field} (hf : P.underlying f.type = some (.int .i64)) (hg : P.underlying g.type = some (.int .i64)) (hn : (f.name ≠ "_" ∧ g.name ≠ "_" ∧ f.offset = 0 ∧ g.offset = 1))
    (a0 a1 b0 b1 : Int) (w : World) : ro (((Op.eqFields 9999 #[i64 a0, i64 a1] #[i64 b0, i64 b1] [f, g]).run P w).andThen fun b w' => .ok (.bool (!b)) w') = some (.bool (!((a0 == b0) && (a1 == b1))), w) := by
  have := eqTwo_eql hf hg hn a0 a1 b0 b1 w
  cases hr : (Op.eqFields 9999 #[i64 a0, i64 a1] #[i64 b0, i64 b1] [f, g]).run P w with
  | ok b w' =>
    rw [hr] at this
    simp only [Result.andThen_ok, ro, Option.some.injEq, Prod.mk.injEq, Value.bool.injEq] at this ⊢
    rw [this.1]
    exact ⟨rfl, this.2⟩
  | halt => rw [hr] at this; simp [ro] at this
theorem bd_of {t : TypeId} {ps : Array (Nat × Value)} {cells : Array Value} (h : P.built t ps.toList = some cells) {w : World} : bd P t ps w = some (.agg cells, w) := by
  simp only [bd, run_build w t ps cells h, ro]
/-- The cells of a slice that is written out. -/
def zrep (z : List Value) : Nat → List Value
  | 0 => []
  | n + 1 => z ++ zrep z n
def sbuilt (P : Program) (t : TypeId) (len : Nat) (ps : List (Nat × Value)) : Option (TypeId × Array Value) :=
  match P.underlying t with
  | some (.slice e) => (match P.info? e with
    | some i => (match i.zero with
      | some z => (match decide (0 < len * i.size) && decide (len * i.size ≤ 2 ^ 24) && Nat.beq z.cells.size i.size with
        | true => (match Instr.fill (fun k => some (k * i.size, i.size)) (zrep z.cells.toList len).toArray ps with | some cs => some (e, cs) | none => none)
        | false => none)
      | none => none)
    | none => none)
  | _ => none
theorem zrep_get (z : List Value) (hz : 0 < z.length) : ∀ (n j : Nat), (zrep z n)[j]? = if j < n * z.length then some (z[j % z.length]!) else none
  | 0, j => by simp [zrep]
  | n + 1, j => by
    simp only [zrep, List.getElem?_append]
    by_cases hj : j < z.length
    · rw [if_pos hj, if_pos (by rw [Nat.succ_mul]; omega), Nat.mod_eq_of_lt hj]
      simp [hj]
    · rw [if_neg hj, zrep_get z hz n]
      have : (j - z.length) % z.length = j % z.length := by
        rw [Nat.mod_eq_sub_mod (a := j) (by omega)]
      rw [this]
      by_cases h : j < (n + 1) * z.length
      · rw [if_pos h, if_pos (by rw [Nat.succ_mul] at h; omega)]
      · rw [if_neg h, if_neg (by rw [Nat.succ_mul] at h; omega)]
theorem zrep_eq (z : Array Value) (hz : 0 < z.size) (n : Nat) : (Array.range (n * z.size)).map (z[· % z.size]!) = (zrep z.toList n).toArray := by
  apply Array.ext'
  apply List.ext_getElem?
  intro j
  have := zrep_get z.toList (by simpa using hz) n j
  simp only [Array.length_toList] at this
  rw [this]
  by_cases h : j < n * z.size
  · have hm : j % z.size < z.size := Nat.mod_lt _ hz
    simp [h, hm]
  · simp [h]
theorem bs_of {t e : TypeId} {n : Nat} {ps : Array (Nat × Value)} {cells : Array Value} (h : sbuilt P t n ps.toList = some (e, cells)) {w : World} :
    bs P t n ps w = some (.slice (some ⟨w.heap.size, 0, none⟩) n n, w.alloc (.cells cells e)) := by
  unfold sbuilt at h
  split at h
  · rename_i e' hu
    split at h
    · rename_i i hi
      split at h
      · rename_i z hz
        split at h
        · rename_i hc
          simp only [Bool.and_eq_true, decide_eq_true_eq, Nat.beq_eq] at hc
          obtain ⟨⟨h1, h2⟩, h3⟩ := hc
          split at h
          · rename_i cs hf
            simp only [Option.some.injEq, Prod.mk.injEq] at h
            obtain ⟨rfl, rfl⟩ := h
            have hpos : 0 < z.cells.size := by rw [h3]; exact Nat.pos_of_mul_pos_left h1
            have := run_buildSlice (P := P) w t e' n ps cs i z hu hi hz (by omega) (by omega) (by rw [← h3, zrep_eq _ hpos, h3]; exact hf)
            simp only [bs, this, ro]
          · contradiction
        · contradiction
      · contradiction
    · contradiction
  · contradiction
theorem bs_zero {t e n : TypeId} (h : P.underlying t = some (.slice e)) (hi : szB P e = some n) (w : World) :
    bs P t 0 #[] w = some (.slice (some ⟨w.heap.size, 0, none⟩) 0 0, w.alloc (.cells #[] e)) := by
  simp [bs, Instr.buildSlice, run_underlying h, run_sizeOf' hi, Instr.fill, newRow, ro]
  have : ∀ f : Nat → Value, Array.map f (Array.range 0) = #[] := fun f => by apply Array.ext'; simp
  rw [this]
/-! ### A store -/
def splice (cur : List Value) (o : Nat) (vs : List Value) : List Value := cur.take o ++ (vs ++ cur.drop (o + vs.length))
noncomputable def stRaw (P : Program) (t : TypeId) (b o : Nat) (v : Value) (w : World) := st P t (pt b o) v w
noncomputable def stR (P : Program) (t : TypeId) (n b o : Nat) (v : Value) (w : World) : Option Obj → Option (Value × World)
  | some (.cells cur e (0, 0)) => if v.cells.size = n ∧ o + n ≤ cur.size ∧ v.cells.toList.all Value.oneCell' = true then some (undef, w.setRow b (splice cur.toList o v.cells.toList).toArray) else stRaw P t b o v w
  | _ => stRaw P t b o v w
theorem stR_cells (t n b o : Nat) (v : Value) (w : World) (cur : Array Value) (e : TypeId) : stR P t n b o v w (some (.cells cur e (0, 0))) =
    if v.cells.size = n ∧ o + n ≤ cur.size ∧ v.cells.toList.all Value.oneCell' = true then some (undef, w.setRow b (splice cur.toList o v.cells.toList).toArray) else stRaw P t b o v w := by cases w; rfl
theorem ldR_some (t b o : Nat) (w : World) (v : Value) : ldR P t b o w (some v) = some (v, w) := by cases w; rfl
theorem ldL_some (t b o : Nat) (w : World) (v : List Value) : ldL P t b o w (some v) = some (.agg v.toArray, w) := by cases w; rfl
theorem st_eq {t n : Nat} (hs : szB P t = some n) (b o : Nat) (v : Value) (w : World) : st P t (pt b o) v w = stR P t n b o v w (hp w b) := by
  unfold hp
  cases hg : w.heap[b]? with
  | none => rfl
  | some x =>
    cases x with
    | cells cur e z =>
      by_cases hz : z = (0, 0)
      · subst hz
        simp only [stR]
        split
        · rename_i h
          obtain ⟨h1, h2, h3⟩ := h
          have hr := run_storeCells_at P b o e v.cells.toList 0 cur w hg (by simp; omega) (fun x hx => List.all_eq_true.1 h3 x hx)
          simp only [st, pt, Instr.storeAt, Instr.sureAddr, storeVar, Sem.run_bind, Sem.run_pure, Result.andThen_ok, run_sizeOf' hs, h1]
          simp only [Nat.add_zero] at hr
          simp [hr, rs, splice]
        · rfl
      · have : stR P t n b o v w (some (.cells cur e z)) = stRaw P t b o v w := by
          obtain ⟨z1, z2⟩ := z
          unfold stR
          split
          · rename_i heq
            simp only [Option.some.injEq, Obj.cells.injEq] at heq
            exact absurd heq.2.2 hz
          · rfl
        rw [this]
        rfl
    | _ => rfl
def setO (cs : Array Value) : Option Obj → Option Obj
  | some (.cells _ e z) => some (.cells cs e z)
  | x => x
theorem setO_some (cs c : Array Value) (e : TypeId) (z : Nat × Nat) : setO cs (some (.cells c e z)) = some (.cells cs e z) := by cases z; rfl
theorem hp_set_eq (w : World) (b : Nat) (cs : Array Value) : hp (w.setRow b cs) b = setO cs (hp w b) := by
  simp only [hp, World.setRow, Array.getElem?_modify, if_true]
  cases hg : w.heap[b]? with
  | none => rfl
  | some x => cases x <;> rfl
theorem hp_set_ne {w : World} {b k : Nat} {cs : Array Value} (h : k ≠ b) : hp (w.setRow b cs) k = hp w k := setRow_other w b k cs h
/-! ### What a run comes to -/
theorem Ret.some {R : Type} {r : R} {Q : R → Prop} (h : Q r) : Ret (some r) Q := ⟨r, rfl, h⟩
theorem ret_some {R : Type} (r : R) (Q : R → Prop) : Ret (Option.some r) Q = Q r := by
  apply propext
  constructor
  · rintro ⟨x, hx, h⟩; cases hx; exact h
  · exact fun h => ⟨r, rfl, h⟩
theorem Ret.bind {R S : Type} {x : Option R} {k : R → Option S} {Q : R → Prop} {Q' : S → Prop} (h : Ret x Q) (hk : ∀ r, Q r → Ret (k r) Q') : Ret (x.bind k) Q' := by
  obtain ⟨r, rfl, hr⟩ := h
  exact hk r hr
theorem Ret.mono {R : Type} {x : Option R} {Q Q' : R → Prop} (h : Ret x Q) (hq : ∀ r, Q r → Q' r) : Ret x Q' := by
  obtain ⟨r, h1, hr⟩ := h
  exact ⟨r, h1, hq r hr⟩
/-- The way in: what the printed text says of a function's call, the call comes to. -/
theorem Ret.enter (hP : Plain P) (hm : P.follows .mixedOrders = true) {f : FuncId} {args : Array Value} {w : World} {Q : Value × World → Prop} {n : Nat} {x : Option (Value × World)} (e : fnC P (EV P) f args w = x) (hi : P.inits.idxOf? f = none)
    (hn : (P.funcs.toList[f]?).map (fun fn => Nat.ble n fn.ntmps) = Option.some true) (ha : args.size = n) (h : Ret x Q) : Ret (EV P f args w) Q := by
  obtain ⟨r, h1, h2⟩ := h
  refine ⟨r, EV_of hP hm hi (fun fn hf => ?_) (by rw [← fnC_eq]; exact e.trans h1), h2⟩
  rw [Array.getElem?_toList, hf] at hn
  simp only [Option.map_some, Option.some.injEq, Nat.ble_eq] at hn
  omega
theorem bnd {R S : Type} (x : R) (f : R → Option S) : (Option.some x).bind f = f x := by cases h : f x <;> simp [h]
theorem nth_nil (i : Nat) : nth [] i = none := by cases i <;> rfl
theorem nth_zero (a : Value) (l : List Value) : nth (a :: l) 0 = Option.some a := by cases l <;> rfl
theorem nth_succ (a : Value) (l : List Value) (n : Nat) : nth (a :: l) (n + 1) = nth l n := by cases l <;> rfl
theorem cellsAt_zero (w : World) (b o : Nat) : cellsAt w b o 0 = Option.some [] := by cases w; rfl
theorem cellsAt_succ (w : World) (b o n : Nat) : cellsAt w b o (n + 1) = consO (cellO (hp w b) o) (cellsAt w b (o + 1) n) := by
  rw [cellsAt]
  cases cellO (hp w b) o with
  | none => rfl
  | some v => cases cellsAt w b (o + 1) n <;> rfl
theorem consO_some (v : Value) (l : List Value) : consO (Option.some v) (Option.some l) = Option.some (v :: l) := by cases l <;> rfl
theorem splice_eq (cur : List Value) (o : Nat) (vs : List Value) : splice cur o vs = cur.take o ++ (vs ++ cur.drop (o + vs.length)) := by cases cur <;> rfl
theorem cnd_t {R : Type} (x y : Option R) : cnd (.bool true) x y = x := by cases x <;> rfl
theorem cnd_f {R : Type} (x y : Option R) : cnd (.bool false) x y = y := by cases x <;> rfl
theorem gif_tt (x : Option (Value × World)) (w : World) : gif (.bool true) true x w = x := by cases x <;> rfl
theorem gif_tf (x : Option (Value × World)) (w : World) : gif (.bool true) false x w = Option.some (undef, w) := by cases x <;> rfl
theorem gif_ft (x : Option (Value × World)) (w : World) : gif (.bool false) true x w = Option.some (undef, w) := by cases x <;> rfl
theorem gif_ff (x : Option (Value × World)) (w : World) : gif (.bool false) false x w = x := by cases x <;> rfl
theorem gif_u (t : Bool) (x : Option (Value × World)) (w : World) : gif undef t x w = Option.some (undef, w) := by cases x <;> rfl
theorem pick_t (a b : Value) (w : World) : pickV (.bool true) a b w = Option.some (a, w) := by cases a <;> rfl
theorem pick_f (a b : Value) (w : World) : pickV (.bool false) a b w = Option.some (b, w) := by cases a <;> rfl
theorem cells_agg (cs : Array Value) : Value.cells (.agg cs) = cs := by cases cs; rfl
theorem cells_int (k : IntKind) (n : Int) : Value.cells (.int k n) = #[.int k n] := by cases k <;> rfl
theorem cells_bool (b : Bool) : Value.cells (.bool b) = #[.bool b] := by cases b <;> rfl
theorem cells_string (b : ByteArray) : Value.cells (.string b) = #[.string b] := by cases b; rfl
theorem cells_slice (a : Option Addr) (l c : Nat) : Value.cells (.slice a l c) = #[.slice a l c] := by cases a <;> rfl
theorem cells_pointer (a : Option Addr) : Value.cells (.pointer a) = #[.pointer a] := by cases a <;> rfl
theorem cells_map (a : Option Nat) : Value.cells (.map a) = #[.map a] := by cases a <;> rfl
theorem cells_nilIface : Value.cells .nilIface = #[.nilIface] := rfl
theorem cells_func (f : Fn) (a b : Array Value) : Value.cells (.func f a b) = #[.func f a b] := by cases a; rfl
theorem bind_cong {α β : Type} {x y : Option α} (f : α → Option β) (h : Unit → x = y) : x.bind f = y.bind f := by rw [h ()]
theorem cnd_cong {R : Type} {c d : Value} (x y : Option R) (h : Unit → c = d) : cnd c x y = cnd d x y := by rw [h ()]
theorem ifP_cong {R : Type} {p q : Prop} (x : Option R) (h : Unit → p = q) : ifP p x = ifP q x := by cases h (); rfl
attribute [congr] bind_cong cnd_cong ifP_cong
theorem ifP_true {R : Type} (x : Option R) : ifP True x = x := ifP_pos x trivial
theorem vl_eq (v : Value) (w : World) : vl v w = Option.some (v, w) := by cases w; rfl
/-! ### Worlds -/
theorem dw_size (w : World) : (dw w).heap.size = w.heap.size := by cases w; rfl
theorem hp_dw (w : World) (b : Nat) : hp (dw w) b = hp w b := by cases w; rfl
theorem dw_ext (w : World) : Ext w (dw w) := (Below.refl _ w).drew
theorem hp_alloc_lt {w : World} {o : Obj} {b : Nat} (h : b < w.heap.size) : hp (w.alloc o) b = hp w b := Below.heap_alloc w o b h
theorem hp_alloc_eq {w : World} {o : Obj} {b : Nat} (h : b = w.heap.size) : hp (w.alloc o) b = Option.some o := by subst h; exact heap_alloc_new w o
theorem hp_lt {w : World} {b : Nat} {o : Obj} (h : hp w b = Option.some o) : b < w.heap.size := (Array.getElem?_eq_some_iff.1 h).1
theorem Ext.blk {w w' : World} (h : Ext w w') {b : Nat} (hb : b < w.heap.size) : hp w' b = hp w b := h.block b hb
theorem Ext.alloc (w : World) (o : Obj) : Ext w (w.alloc o) := (Below.refl _ w).alloc (Nat.le_refl _) o
theorem Ext.tr {a b c : World} (h : Ext a b) (k : Ext b c) : Ext a c := Below.trans h (k.mono h.size)
theorem Ext.rfl {a : World} : Ext a a := Below.refl _ a
theorem Ext.al {a b : World} (h : Ext a b) (o : Obj) : Ext a (b.alloc o) := h.tr (Ext.alloc b o)
theorem Ext.dw {a b : World} (h : Ext a b) : Ext a (dw b) := h.tr (dw_ext b)
theorem Ext.set {a b : World} (h : Ext a b) {k : Nat} (hk : a.heap.size ≤ k) (cs : Array Value) : Ext a (b.setRow k cs) :=
  Below.trans h ⟨by rfl, by rfl, by rfl, by simp, fun i hi => setRow_other _ _ _ _ (by omega)⟩
theorem At.mono {w w' : World} {b o : Nat} {l : List Value} (h : At w b o l) (he : ∀ b, b < w.heap.size → hp w' b = hp w b) : At w' b o l := by
  intro j v hv
  have h1 := h j v hv
  have : b < w.heap.size := by
    rcases Nat.lt_or_ge b w.heap.size with h' | h'
    · exact h'
    · rw [hp, Array.getElem?_eq_none h'] at h1; simp [cellO] at h1
  rw [he b this]; exact h1
theorem w64 {x : Int} (h0 : -9223372036854775808 ≤ x) (h1 : x ≤ 9223372036854775807) : IntKind.i64.wrap x = x := by
  simp only [IntKind.wrap, IntKind.bits, IntKind.signed, Bool.true_and, decide_eq_true_eq, show (2 : Int) ^ 64 = 18446744073709551616 from rfl, show (2 : Int) ^ (64 - 1) = 9223372036854775808 from rfl]
  split <;> omega
theorem clo_eq {g : FuncId} (h : (P.funcs.toList[g]?).map (fun fn => fn.body.isSome) = Option.some true) (first cap args : List Value) (w : World) :
    clo P (.func (.func g) first.toArray cap.toArray) args.toArray w = EV P g (first ++ (args ++ cap)).toArray w := by
  unfold clo cloD fnD
  cases hf : P.funcs.toList[g]? with
  | none => rw [hf] at h; simp at h
  | some fn =>
    rw [hf] at h
    simp only [Option.map_some, Option.some.injEq] at h
    simp only []
    cases hb : fn.body with
    | none => rw [hb] at h; simp at h
    | some c => simp only [hf, hb]
theorem cv_int {src dst : TypeId} {j : IntKind} (hs : (P.underlying src).isSome = true) (hd : P.underlying dst = Option.some (.int j)) (k : IntKind) (n : Int) (w : World) :
    cv P src dst (.int k n) w = Option.some (.int j (j.wrap n), w) := by
  obtain ⟨d, hd'⟩ := Option.isSome_iff_exists.mp hs
  simp [cv, convert, run_underlying hd', run_underlying hd, Conv.intToInt, ro]
theorem bo_rem (t : TypeId) (x y : Operand) (k : IntKind) (a : Int) {b : Int} (h : b ≠ 0) (w : World) : bo P .rem t x y (.int k a) (.int k b) w = Option.some (.int k (a.tmod b), w) := by
  rw [bo_int]; simp [binOp, Op.intDiv, h, ro]
theorem bo_quo (t : TypeId) (x y : Operand) (k : IntKind) (a : Int) {b : Int} (h : b ≠ 0) (w : World) : bo P .quo t x y (.int k a) (.int k b) w = Option.some (.int k (k.wrap (a.tdiv b)), w) := by
  rw [bo_int]; simp [binOp, Op.intDiv, h, ro]
def bytesOf (ns : List Int) : ByteArray := ns.foldl (fun r n => r.push (UInt8.ofNat n.toNat)) ByteArray.empty
theorem bo_eql_nil {t e : TypeId} {z : Nat × Nat} (h : elB P t = Option.some (e, z)) (x y : Operand) (A : Option Addr) (n c : Nat) (w : World) : bo P .eql t x y (.slice A n c) (.slice none 0 0) w = Option.some (.bool A.isNone, w) := by
  unfold elB at h
  split at h
  · rename_i e' hu
    have h : (Op.equal t (.slice A n c) (.slice none 0 0)).run P w = .ok A.isNone w := by
      unfold Op.equal
      rw [show Op.maxDepth = 9999 + 1 from rfl, Op.equalIn]
      cases A <;> simp [run_underlying hu]
    cases A <;> simp [bo, eqGuard, binOp, h, ro]
  · contradiction
theorem elem_eq {t e : TypeId} {z : Nat × Nat} (h : elB P t = Option.some (e, z)) : P.underlying t = Option.some (.slice (P.elem t)) ∧ szB P (P.elem t) = Option.some z.1 := by
  unfold elB at h
  split at h
  · rename_i e' hu
    have he : P.elem t = e' := by simp [Program.elem, hu]
    rw [he]
    refine ⟨hu, ?_⟩
    unfold szB
    split at h
    · rename_i i hi
      simp only [Option.some.injEq, Prod.mk.injEq] at h
      obtain ⟨_, rfl⟩ := h
      simp only [hi]
    · contradiction
  · contradiction
theorem add_zero' (a : Addr) : a.add 0 = a := by simp [Addr.add]
theorem sl_hm {t e : TypeId} {z : Nat × Nat} (h : elB P t = Option.some (e, z)) {a : Option Addr} {len cap : Nat} {n : Int} (h0 : 0 ≤ n) (h1 : n ≤ cap) (w : World) :
    sl P t (.slice a len cap) none (Option.some (i64 n)) (Option.some (i64 n)) w = Option.some (.slice a n.toNat n.toNat, w) := by
  obtain ⟨hu, hs⟩ := elem_eq h
  simp only [sl, run_sliceAt_slice w t _ _ _ _ hu, run_slice_hm w t a len cap hu .i64 .i64 n n h0 (Int.le_refl _) h1, run_sizeOf' hs, Result.andThen_ok, sliced, ro]
  cases a <;> simp [add_zero']
theorem sl_h {t e : TypeId} {z : Nat × Nat} (h : elB P t = Option.some (e, z)) {a : Option Addr} {len cap : Nat} {n : Int} (h0 : 0 ≤ n) (h1 : n ≤ cap) (w : World) :
    sl P t (.slice a len cap) none (Option.some (i64 n)) none w = Option.some (.slice a n.toNat cap, w) := by
  obtain ⟨hu, hs⟩ := elem_eq h
  simp only [sl, run_sliceAt_slice w t _ _ _ _ hu, run_slice_h w t a len cap hu .i64 n h0 h1, run_sizeOf' hs, Result.andThen_ok, sliced, ro]
  cases a <;> simp [add_zero']
theorem app_none {t ty e : TypeId} {z : Nat × Nat} (h : elB P t = Option.some (e, z)) (a b : Option Addr) (n c d : Nat) (hn : n ≤ c) (w : World) : b_append P #[t, t] ty #[.slice a n c, .slice b 0 d] w = Option.some (.slice a n c, w) := by
  unfold elB at h
  split at h
  · rename_i e' hu
    split at h
    · rename_i i hi
      cases a <;> cases b <;> simp [b_append, Builtin.append_, run_underlying hu, sizeOf, typeInfo, hi, Builtin.lenOf, Builtin.firstCells, hn, storeCells, ro, show ∀ b : Addr, (loadCells b 0).run P w = .ok #[] w from fun b => run_loadCells_list w b [] (fun j v hv => by simp at hv)]
    · contradiction
  · contradiction
theorem nk_ptr (b o : Nat) (w : World) : nk P (pt b o) w = Option.some (pt b o, w) := by
  simp [nk, execOp, nx]
theorem bo_xor (t : TypeId) (x y : Operand) {a b : Nat} (ha : a < 9223372036854775808) (hb : b < 9223372036854775808) (w : World) : bo P .xor t x y (i64 a) (i64 b) w = Option.some (i64 ((a ^^^ b : Nat) : Int), w) ∧ a ^^^ b < 9223372036854775808 := by
  have hx : a ^^^ b < 2 ^ 63 := Nat.xor_lt_two_pow (by simpa using ha) (by simpa using hb)
  have hx' : a ^^^ b < 9223372036854775808 := by simpa using hx
  refine ⟨?_, hx'⟩
  rw [bo_int]
  have h1 : (BitVec.ofInt 64 (a : Int) ^^^ BitVec.ofInt 64 (b : Int)).toNat = a ^^^ b := by
    rw [BitVec.toNat_xor, BitVec.ofInt_natCast, BitVec.ofInt_natCast, BitVec.toNat_ofNat, BitVec.toNat_ofNat, Nat.mod_eq_of_lt (by omega), Nat.mod_eq_of_lt (by omega)]
  have h2 : (Op.intBits .xor .i64 (a : Int) (b : Int)).run P w = .ok (.int .i64 (IntKind.i64.wrap ((BitVec.ofInt 64 (a : Int) ^^^ BitVec.ofInt 64 (b : Int)).toNat : Int))) w := by
    rfl
  have h3 : (binOp .xor t (i64 a) (i64 b)).run P w = (Op.intBits .xor .i64 (a : Int) (b : Int)).run P w := by simp [binOp]
  rw [h3, h2, h1, w64 (by omega) (by omega)]
  rfl
theorem max_int (t ty k : _) (a b : Int) (w : World) : b_max P #[t, t] ty #[.int k a, .int k b] w = Option.some (.int k (if b > a then b else a), w) := by
  simp [b_max, Builtin.max_, Builtin.max2, ro]
theorem ix_str {t : TypeId} (h : P.underlying t = Option.some .string) (s : ByteArray) {i : Int} (h0 : 0 ≤ i) {b : UInt8} (hb : s.toList[i.toNat]? = Option.some b) (w : World) : ix P t (.string s) (i64 i) w = Option.some (.int .u8 b.toNat, w) := by
  have hb' : s[i.toNat]? = Option.some b := by
    rw [ByteArray.toList_eq] at hb
    obtain ⟨hn, hv⟩ := List.getElem?_eq_some_iff.1 hb
    have hn' : i.toNat < s.size := by simpa using hn
    rw [ByteArray.getElem?_lt' s _ hn', ← hv]
    rfl
  simp [ix, Instr.index, asIntOf, run_underlying h, h0, hb', ro]
/-! ### make, append -/
theorem elB_spec {t e s y : Nat} (h : elB P t = Option.some (e, s, y)) : P.underlying t = Option.some (.slice e) ∧ ∃ i, P.info? e = Option.some i ∧ i.size = s ∧ i.bytes = y := by
  unfold elB at h
  split at h
  · rename_i e' hu
    split at h
    · rename_i x hx
      simp only [Option.some.injEq, Prod.mk.injEq] at h
      obtain ⟨rfl, rfl, rfl⟩ := h
      exact ⟨hu, x, hx, by rfl, by rfl⟩
    · contradiction
  · contradiction
theorem zeroB_spec {e : Nat} {z : List Value} (h : zeroB P e = Option.some z) : ∃ i v, P.info? e = Option.some i ∧ i.zero = Option.some v ∧ v.cells.toList = z := by
  unfold zeroB at h
  split at h
  · rename_i i hi
    split at h
    · rename_i v hv
      simp only [Option.some.injEq] at h
      exact ⟨i, v, hi, hv, h⟩
    · contradiction
  · contradiction
theorem ms_eq {t e s y : Nat} (h : elB P t = Option.some (e, s, y)) {z : List Value} (hz : zeroB P e = Option.some z) (hzs : z.length = s) (hs : 0 < s) {l c : Int} (h0 : 0 ≤ l) (h1 : l ≤ c) (h2 : y * c ≤ 281474976710656) (h3 : c ≤ 9223372036854775807) (w : World) :
    ms P t (i64 l) (i64 c) w = Option.some (.slice (Option.some ⟨w.heap.size, 0, none⟩) l.toNat c.toNat, w.alloc (.cells (zrep z c.toNat).toArray e)) := by
  obtain ⟨hu, i, hi, h4, h5⟩ := elB_spec h
  obtain ⟨i', v, hi', hv, h6⟩ := zeroB_spec hz
  rw [hi] at hi'
  cases hi'
  have hsz : v.cells.size = s := by rw [← hzs, ← h6]; simp
  have := run_make (P := P) w t e i v hu hi hv .i64 .i64 l c h0 h1 (by rw [h5]; exact h2) h3
  rw [h4] at this
  have hm : madeCells v.cells (c.toNat * s) = (zrep z c.toNat).toArray := by
    rw [← hsz, ← h6]
    exact zrep_eq v.cells (by omega) c.toNat
  rw [hm] at this
  simp only [ms, this, ro]
/-- A row of one's own, in a block from B on: its first n elements' cells are l. -/
def Own (w : World) (B : Nat) (e : TypeId) (size : Nat) (s : Value) (n : Nat) (l : List Value) : Prop :=
  l.length = n * size ∧ n ≤ 9223372036854775807 ∧ ((s = .slice none 0 0 ∧ n = 0) ∨
    ∃ g cap cur, s = .slice (Option.some ⟨g, 0, none⟩) n cap ∧ B ≤ g ∧ hp w g = Option.some (.cells cur e (0, 0)) ∧ n ≤ cap ∧ cap ≤ 9223372036854775807 ∧ cap * size ≤ cur.size ∧ cur.toList.take (n * size) = l)
/-- Its block. -/
def blkOf : Value → Option Nat | .slice (some a) _ _ => some a.block | _ => none
/-- What was there is there, but for this block. -/
structure But (w w' : World) (g : Option Nat) : Prop where
  os : w'.os = w.os
  tape : w'.tape = w.tape
  output : w'.output = w.output
  size : w.heap.size ≤ w'.heap.size
  blk : ∀ b, b < w.heap.size → g ≠ Option.some b → hp w' b = hp w b
theorem But.ext {w w' : World} (h : But w w' none) : Ext w w' := ⟨h.os, h.tape, h.output, h.size, fun b hb => h.blk b hb (by simp)⟩
theorem app_own {t ty e s y : Nat} (h : elB P t = Option.some (e, s, y)) {z : List Value} (hz : zeroB P e = Option.some z) (hzs : z.length = s) (hs : 0 < s) {w : World} {B n : Nat} {v : Value} {l news : List Value}
    (ho : Own w B e s v n l) (hB : B ≤ w.heap.size) {b o m c : Nat} (hA : At w b o news) (hn : news.length = m * s) (h1 : news.all Value.oneCell' = true) (hb : (n + m) * y ≤ 140737488355328) (hb2 : n + m ≤ 140737488355328) (hm : 0 < m) :
    Ret (b_append P #[t, t] ty #[v, .slice (Option.some ⟨b, o, none⟩) m c] w) fun r => Own r.2 B e s r.1 (n + m) (l ++ news) ∧ But w r.2 (blkOf v) ∧ (blkOf r.1 = blkOf v ∨ ∃ g, blkOf r.1 = Option.some g ∧ w.heap.size ≤ g ∧ g < r.2.heap.size) := by
  obtain ⟨hu, i, hi, h4, h5⟩ := elB_spec h
  obtain ⟨i', zv, hi', hv, h6⟩ := zeroB_spec hz
  rw [hi] at hi'
  cases hi'
  have hsz : zv.cells.size = s := by rw [← hzs, ← h6]; simp
  obtain ⟨hl, hn2, ho⟩ := ho
  have hA' : ∀ j u, news[j]? = Option.some u → w.cell? ((⟨b, o, none⟩ : Addr).add j) = Option.some u := fun j u hu => by rw [add_lit, cell?_eq]; exact hA j u hu
  have h1' : ∀ u ∈ news, u.oneCell' = true := fun u hu => List.all_eq_true.1 h1 u hu
  have hlen : (l ++ news).length = (n + m) * s := by rw [List.length_append, hl, hn, Nat.add_mul]
  have grown : ∀ old, old < n + m → ∀ g, Own (w.drew.alloc (.cells (l.toArray ++ news.toArray ++ Builtin.zeroCells zv.cells (grownCap w (n + m) old e - (n + m))) e)) B e s
      (.slice (Option.some ⟨w.heap.size, 0, none⟩) (n + m) (grownCap w (n + m) old e)) (n + m) (l ++ news) ∧
      But w (w.drew.alloc (.cells (l.toArray ++ news.toArray ++ Builtin.zeroCells zv.cells (grownCap w (n + m) old e - (n + m))) e)) g := by
    intro old hold g
    have hge := grownCap_ge w (n + m) old e
    have hle := grownCap_le_maxLen w (n + m) old e (by simp only [maxLen]; omega)
    simp only [maxLen] at hle
    refine ⟨⟨hlen, by omega, .inr ⟨w.heap.size, _, _, by rfl, hB, hp_alloc_eq (w := w.drew) (by rfl), hge, by omega, ?_, ?_⟩⟩, ⟨by rfl, by rfl, by rfl, by simp, fun k hk _ => hp_alloc_lt (w := w.drew) hk⟩⟩
    · simp only [Array.size_append, List.size_toArray, size_zeroCells, hsz, hl, hn, ← Nat.add_mul]
      exact Nat.mul_le_mul_right _ (by omega)
    · simp only [Array.toList_append, List.append_assoc]
      rw [← List.append_assoc, ← hlen]
      exact List.take_left
  rcases ho with ⟨rfl, rfl⟩ | ⟨g, cap, cur, rfl, hg, hh, hc, hcm, hcs, ht⟩
  · have hl0 : l = [] := List.eq_nil_of_length_eq_zero (by simpa using hl)
    subst hl0
    have hr := run_append_nil (P := P) w t ty e i zv hu hi hv ⟨b, o, none⟩ m c news (by rw [h4]; exact hn) hA' hm (by omega) (by rw [h5]; simp only [Nat.zero_add] at hb; omega)
    have hgr := grown 0 (by omega) (blkOf (.slice none 0 0))
    simp only [Nat.zero_add, List.nil_append, Array.empty_append] at hgr
    have hx := congrArg ro hr
    refine ⟨_, hx, ?_, hgr.2, .inr ⟨w.heap.size, by rfl, Nat.le_refl _, by simp⟩⟩
    simpa using hgr.1
  · by_cases hroom : n + m ≤ cap
    · have hfit : n * i.size + news.length ≤ cur.size := by rw [h4, hn, ← Nat.add_mul]; exact Nat.le_trans (Nat.mul_le_mul_right _ hroom) hcs
      have hr := run_append_room (P := P) w t ty e i hu hi g n cap cur hh ⟨b, o, none⟩ m c news (by rw [h4]; exact hn) hA' h1' hroom hfit
      rw [h4] at hr hfit
      have hx := congrArg ro hr
      refine ⟨_, hx, ⟨hlen, by omega, .inr ⟨g, cap, _, by rfl, hg, setRow_heap w g cur _ e _ hh, hroom, hcm, ?_, ?_⟩⟩, ⟨by rfl, by rfl, by rfl, by simp, fun k hk hne => setRow_other _ _ _ _ (fun e => hne (by rw [e]; rfl))⟩, .inl (by rfl)⟩
      · simp only [List.size_toArray, List.length_append, List.length_take, List.length_drop, Array.length_toList]
        omega
      · have h7 : (cur.toList.take (n * s) ++ news).length = (n + m) * s := by rw [ht]; exact hlen
        simp only [← h7]
        rw [List.take_left, ht]
    · have hold : ∀ j u, l[j]? = Option.some u → w.cell? ((⟨g, 0, none⟩ : Addr).add j) = Option.some u := by
        intro j u hju
        rw [add_lit, cell?_eq, hh, cellO_some, ← nth_eq]
        rw [← ht, List.getElem?_take] at hju
        split at hju
        · simpa using hju
        · contradiction
      have hr := run_append_grow (P := P) w t ty e i zv hu hi hv ⟨g, 0, none⟩ n cap l (by rw [h4]; exact hl) hold ⟨b, o, none⟩ m c news (by rw [h4]; exact hn) hA' (by omega) (by omega)
        (growslice_fits (by omega) (by rw [h5]; exact hb))
      have hgr := grown cap (by omega) (blkOf (.slice (Option.some ⟨g, 0, none⟩) n cap))
      have hx := congrArg ro hr
      exact ⟨_, hx, hgr.1, hgr.2, .inr ⟨w.heap.size, by rfl, Nat.le_refl _, by simp⟩⟩
theorem Own.at {w : World} {B : Nat} {e : TypeId} {size : Nat} {s : Value} {n : Nat} {l : List Value} (h : Own w B e size s n l) :
    ∃ a c, s = .slice a n c ∧ n ≤ 9223372036854775807 ∧ (l = [] ∨ ∃ b o, a = Option.some ⟨b, o, none⟩ ∧ At w b o l) := by
  obtain ⟨hl, hn, h⟩ := h
  rcases h with ⟨rfl, rfl⟩ | ⟨g, cap, cur, rfl, hg, hh, hc, hcm, hcs, ht⟩
  · exact ⟨none, 0, by rfl, hn, .inl (List.eq_nil_of_length_eq_zero (by simpa using hl))⟩
  · refine ⟨_, _, by rfl, hn, .inr ⟨g, 0, by rfl, fun j v hv => ?_⟩⟩
    rw [hh, cellO_some, ← nth_eq, Nat.zero_add]
    rw [← ht, List.getElem?_take] at hv
    split at hv
    · simpa using hv
    · contradiction
theorem Own.keep {w w' : World} {B : Nat} {e : TypeId} {size : Nat} {s : Value} {n : Nat} {l : List Value} (h : Own w B e size s n l) (hk : ∀ g, blkOf s = Option.some g → hp w' g = hp w g) : Own w' B e size s n l := by
  obtain ⟨hl, hn, h⟩ := h
  refine ⟨hl, hn, h.imp id ?_⟩
  rintro ⟨g, cap, cur, rfl, hg, hh, rest⟩
  exact ⟨g, cap, cur, by rfl, hg, (hk g (by rfl)).trans hh, rest⟩
theorem Own.from {w : World} {B C : Nat} {e : TypeId} {size : Nat} {s : Value} {n : Nat} {l : List Value} (h : Own w B e size s n l) (hC : C ≤ B) : Own w C e size s n l := by
  obtain ⟨hl, hn, h⟩ := h
  refine ⟨hl, hn, h.imp id ?_⟩
  rintro ⟨g, cap, cur, h1, hg, rest⟩
  exact ⟨g, cap, cur, h1, by omega, rest⟩
theorem Own.nil (w : World) (B : Nat) (e : TypeId) (size : Nat) : Own w B e size (.slice none 0 0) 0 [] := ⟨by simp, by omega, .inl ⟨by rfl, by rfl⟩⟩
theorem Own.lt {w : World} {B : Nat} {e : TypeId} {size : Nat} {s : Value} {n : Nat} {l : List Value} (h : Own w B e size s n l) {g : Nat} (hg : blkOf s = Option.some g) : B ≤ g ∧ g < w.heap.size ∧ ∃ cur, hp w g = Option.some (.cells cur e (0, 0)) := by
  obtain ⟨hl, hn, h⟩ := h
  rcases h with ⟨rfl, rfl⟩ | ⟨g', cap, cur, rfl, hgg, hh, rest⟩
  · simp [blkOf] at hg
  · simp only [blkOf, Option.some.injEq] at hg
    subst hg
    exact ⟨hgg, hp_lt hh, cur, hh⟩
end
/-! ### Data, and how they lie -/
structure Tag where
  t : Int
  p : Int
  deriving DecidableEq
abbrev Tag.v (x : Tag) : Value := .agg #[i64 x.t, i64 x.p]
def Tag.zero : Tag := ⟨0, 0⟩
abbrev tagC (x : Tag) : List Value := [i64 x.t, i64 x.p]
theorem At.lt {w : World} {b o : Nat} {v : Value} {l : List Value} (h : At w b o (v :: l)) : b < w.heap.size := by
  have h1 := h 0 v rfl
  rcases Nat.lt_or_ge b w.heap.size with h' | h'
  · exact h'
  · rw [hp, Array.getElem?_eq_none h'] at h1; simp [cellO] at h1
/-- A slice of n elements, whose cells are l. -/
def Sl (w : World) (s : Value) (n : Nat) (l : List Value) : Prop :=
  ∃ a c, s = .slice a n c ∧ n ≤ 9223372036854775807 ∧ (l = [] ∨ ∃ b o, a = some ⟨b, o, none⟩ ∧ At w b o l)
/-- What stood stands. -/
def Keep (w w' : World) : Prop := ∀ b, b < w.heap.size → hp w' b = hp w b
theorem Ext.keep {w w' : World} (h : Ext w w') : Keep w w' := fun b hb => h.blk hb
theorem Sl.mono {w w' : World} {s : Value} {n : Nat} {l : List Value} (h : Sl w s n l) (k : Keep w w') : Sl w' s n l := by
  obtain ⟨a, c, h1, h2, h3⟩ := h
  exact ⟨a, c, h1, h2, h3.imp id fun ⟨b, o, h4, h5⟩ => ⟨b, o, h4, h5.mono k⟩⟩
theorem flat_get {α : Type} {m : Nat} : ∀ (css : List (List α)) (i : Nat) (cs : List α), (∀ c ∈ css, c.length = m) → css[i]? = some cs → ∀ (j : Nat) (v : α), cs[j]? = some v → css.flatten[i * m + j]? = some v
  | [], i, cs, hm, hi, j, v, hv => by simp at hi
  | c :: css, 0, cs, hm, hi, j, v, hv => by
    simp only [List.getElem?_cons_zero, Option.some.injEq] at hi
    subst hi
    have hj : j < c.length := (List.getElem?_eq_some_iff.1 hv).1
    simp only [List.flatten_cons, Nat.zero_mul, Nat.zero_add]
    rw [List.getElem?_append_left hj]; exact hv
  | c :: css, i + 1, cs, hm, hi, j, v, hv => by
    have hc := hm c List.mem_cons_self
    have ih := flat_get css i cs (fun c h => hm c (List.mem_cons_of_mem _ h)) (by simpa using hi) j v hv
    simp only [List.flatten_cons]
    rw [List.getElem?_append_right (by rw [hc, Nat.succ_mul]; omega), hc, show (i + 1) * m + j - m = i * m + j by rw [Nat.succ_mul]; omega]
    exact ih
/-- Element i of a slice. -/
theorem Sl.at {w : World} {s : Value} {n m : Nat} {css : List (List Value)} (h : Sl w s n css.flatten) (hm : ∀ c ∈ css, c.length = m) (h0 : 0 < m) {i : Nat} {cs : List Value} (hi : css[i]? = some cs) :
    ∃ b o c, s = .slice (some ⟨b, o, none⟩) n c ∧ At w b (o + i * m) cs := by
  obtain ⟨a, c, h1, h2, h3⟩ := h
  have hg := flat_get css i cs hm hi
  have hcs := hm cs (List.mem_of_getElem? hi)
  rcases h3 with h3 | ⟨b, o, h4, h5⟩
  · have := hg 0 (cs[0]'(by omega)) (List.getElem?_eq_getElem (by omega))
    rw [h3] at this
    simp at this
  · subst h4
    refine ⟨b, o, c, h1, fun j v hv => ?_⟩
    rw [Nat.add_assoc]
    exact h5 _ v (hg j v hv)
theorem zrep_len (z : List Value) (n : Nat) : (zrep z n).length = n * z.length := by
  induction n with
  | zero => simp [zrep]
  | succ n ih => simp only [zrep, List.length_append, ih, Nat.succ_mul]; omega
def tagCs (ts : List Tag) : List Value := (ts.map tagC).flatten
def rTags (w : World) (s : Value) (ts : List Tag) : Prop := Sl w s ts.length (tagCs ts) ∧ ts.length ≤ 8796093021952
theorem rTags.mono {w w' : World} {s : Value} {ts : List Tag} (h : rTags w s ts) (k : Keep w w') : rTags w' s ts := ⟨Sl.mono h.1 k, h.2⟩
theorem rTags.at {w : World} {s : Value} {ts : List Tag} (h : rTags w s ts) {i : Nat} {t : Tag} (hi : ts[i]? = some t) :
    ∃ b o c, s = .slice (some ⟨b, o, none⟩) ts.length c ∧ At w b (o + i * 2) (tagC t) :=
  Sl.at (css := ts.map tagC) h.1 (fun c hc => by obtain ⟨t, _, rfl⟩ := List.mem_map.1 hc; rfl) (by omega) (by simp [hi])
theorem rTags.len {w : World} {s : Value} {ts : List Tag} (h : rTags w s ts) : ∃ a c, s = .slice a ts.length c ∧ ts.length ≤ 8796093021952 := by
  obtain ⟨⟨a, c, h1, h2, _⟩, h3⟩ := h
  exact ⟨a, c, h1, h3⟩
theorem At.same {w w' : World} {b o : Nat} {l : List Value} (h : At w b o l) (he : hp w' b = hp w b) : At w' b o l := by
  intro j v hv; rw [he]; exact h j v hv
theorem Sl.keep {w w' : World} {s : Value} {n : Nat} {l : List Value} (h : Sl w s n l) (k : ∀ b ∈ (blkOf s).toList, hp w' b = hp w b) : Sl w' s n l := by
  obtain ⟨a, c, h1, h2, h3⟩ := h
  refine ⟨a, c, h1, h2, h3.imp id fun ⟨b, o, h4, h5⟩ => ⟨b, o, h4, h5.same (k b ?_)⟩⟩
  subst h1; subst h4; simp [blkOf]
theorem rTags.keep {w w' : World} {s : Value} {ts : List Tag} (h : rTags w s ts) (k : ∀ b ∈ (blkOf s).toList, hp w' b = hp w b) : rTags w' s ts := ⟨Sl.keep h.1 k, h.2⟩
theorem Own.sl {w : World} {B : Nat} {e : TypeId} {size : Nat} {s : Value} {n : Nat} {l : List Value} (h : Own w B e size s n l) : Sl w s n l := by
  obtain ⟨a, c, h1, h2, h3⟩ := h.at
  exact ⟨a, c, h1, h2, h3⟩
theorem tagCs_length (ts : List Tag) : (tagCs ts).length = ts.length * 2 := by
  induction ts with
  | nil => rfl
  | cons t ts ih => simp only [tagCs, List.map_cons, List.flatten_cons, List.length_append] at ih ⊢; rw [ih]; simp only [List.length_cons, List.length_nil]; omega
theorem tagCs_app (a b : List Tag) : tagCs (a ++ b) = tagCs a ++ tagCs b := by simp [tagCs]
theorem tagCs_cons (a : Tag) (b : List Tag) : tagCs (a :: b) = tagC a ++ tagCs b := by simp [tagCs]
theorem take_at {α : Type} {l : List α} {k : Nat} {x : α} (h : l[k]? = some x) : l.take (k + 1) = l.take k ++ [x] := by
  rw [List.take_add_one, h]; rfl
/-- What is written as element k of a row. -/
theorem row_put {cur : Array Value} {vs : List Value} {n m k : Nat} (hc : cur.size = n * m) (hk : k < n) (hv : vs.length = m) :
    (cur.toList.take (k * m) ++ (vs ++ cur.toList.drop (k * m + vs.length))).length = n * m ∧
    (cur.toList.take (k * m) ++ (vs ++ cur.toList.drop (k * m + vs.length))).take ((k + 1) * m) = cur.toList.take (k * m) ++ vs := by
  have h1 : (k + 1) * m ≤ n * m := Nat.mul_le_mul_right m hk
  rw [Nat.succ_mul] at h1
  have hl : cur.toList.length = n * m := by simpa using hc
  constructor
  · simp only [List.length_append, List.length_take, List.length_drop, hl, hv]
    omega
  · have h2 : (cur.toList.take (k * m) ++ vs).length = (k + 1) * m := by
      simp only [List.length_append, List.length_take, hl, hv, Nat.succ_mul]; omega
    rw [← List.append_assoc, ← h2, List.take_left]
structure Ver where
  key : Int
  tag : Tag
  past : List Tag
  text : ByteArray
  gone : Bool
/-- The cells of a version. -/
def rVer (w : World) (cs : List Value) (v : Ver) : Prop := ∃ s, cs = [i64 v.key, i64 v.tag.t, i64 v.tag.p, s, .string v.text, .bool v.gone] ∧ rTags w s v.past ∧ v.text.size ≤ 140737488351232
/-- The row of the causes. -/
def pastB : List Value → List Nat
  | _ :: _ :: _ :: s :: _ => (blkOf s).toList
  | _ => []
theorem rVer.keep {w w' : World} {cs : List Value} {v : Ver} (h : rVer w cs v) (k : ∀ b ∈ pastB cs, hp w' b = hp w b) : rVer w' cs v := by
  obtain ⟨s, rfl, h2, h3⟩ := h
  exact ⟨s, rfl, h2.keep k, h3⟩
theorem rVer.mono {w w' : World} {cs : List Value} {v : Ver} (h : rVer w cs v) (k : Keep w w') : rVer w' cs v := by
  obtain ⟨s, h1, h2, h3⟩ := h
  exact ⟨s, h1, h2.mono k, h3⟩
theorem rVer.length {w : World} {cs : List Value} {v : Ver} (h : rVer w cs v) : cs.length = 6 := by
  obtain ⟨s, h1, _⟩ := h
  rw [h1]; rfl
/-- Each of these as the other. -/
def All2 {α β : Type} (R : α → β → Prop) : List α → List β → Prop
  | [], [] => True
  | a :: l, b :: m => R a b ∧ All2 R l m
  | _, _ => False
theorem All2.length {α β : Type} {R : α → β → Prop} : ∀ {l : List α} {m : List β}, All2 R l m → l.length = m.length
  | [], [], _ => rfl
  | a :: l, b :: m, h => by simp [All2.length h.2]
  | [], _ :: _, h => h.elim
  | _ :: _, [], h => h.elim
theorem All2.imp {α β : Type} {R S : α → β → Prop} (hrs : ∀ a b, R a b → S a b) : ∀ {l : List α} {m : List β}, All2 R l m → All2 S l m
  | [], [], _ => trivial
  | a :: l, b :: m, h => ⟨hrs _ _ h.1, All2.imp hrs h.2⟩
  | [], _ :: _, h => h.elim
  | _ :: _, [], h => h.elim
theorem All2.get {α β : Type} {R : α → β → Prop} : ∀ {l : List α} {m : List β}, All2 R l m → ∀ {i : Nat} {b : β}, m[i]? = some b → ∃ a, l[i]? = some a ∧ R a b
  | a :: l, b :: m, h, 0, b', hb => by simp only [List.getElem?_cons_zero, Option.some.injEq] at hb; subst hb; exact ⟨a, rfl, h.1⟩
  | a :: l, b :: m, h, i + 1, b', hb => by simpa using All2.get h.2 (by simpa using hb)
  | [], [], _, i, b', hb => by simp at hb
  | [], _ :: _, h, _, _, _ => h.elim
  | _ :: _, [], h, _, _, _ => h.elim
theorem All2.mem {α β : Type} {R : α → β → Prop} : ∀ {l : List α} {m : List β}, All2 R l m → ∀ {a : α}, a ∈ l → ∃ b, b ∈ m ∧ R a b
  | a :: l, b :: m, h, x, hx => by
    rcases List.mem_cons.1 hx with rfl | hx
    · exact ⟨b, List.mem_cons_self, h.1⟩
    · obtain ⟨b', h1, h2⟩ := All2.mem h.2 hx
      exact ⟨b', List.mem_cons_of_mem _ h1, h2⟩
  | [], [], _, _, hx => by simp at hx
  | [], _ :: _, h, _, _ => h.elim
  | _ :: _, [], h, _, _ => h.elim
theorem All2.app {α β : Type} {R : α → β → Prop} : ∀ {l : List α} {m : List β} {a : α} {b : β}, All2 R l m → R a b → All2 R (l ++ [a]) (m ++ [b])
  | [], [], _, _, _, h => ⟨h, trivial⟩
  | a :: l, b :: m, _, _, h, h' => ⟨h.1, All2.app h.2 h'⟩
  | [], _ :: _, _, _, h, _ => h.elim
  | _ :: _, [], _, _, h, _ => h.elim
def rVers (w : World) (s : Value) (vs : List Ver) : Prop := ∃ css, Sl w s vs.length css.flatten ∧ All2 (rVer w) css vs ∧ vs.length ≤ 1954687338211
theorem rVers.mono {w w' : World} {s : Value} {vs : List Ver} (h : rVers w s vs) (k : Keep w w') : rVers w' s vs := by
  obtain ⟨css, h1, h2, h3⟩ := h
  exact ⟨css, h1.mono k, h2.imp fun _ _ h => h.mono k, h3⟩
theorem rVers.at {w : World} {s : Value} {vs : List Ver} (h : rVers w s vs) {i : Nat} {v : Ver} (hi : vs[i]? = some v) :
    ∃ b o c cs, s = .slice (some ⟨b, o, none⟩) vs.length c ∧ At w b (o + i * 6) cs ∧ rVer w cs v := by
  obtain ⟨css, h1, h2, _⟩ := h
  obtain ⟨cs, h3, h4⟩ := h2.get hi
  obtain ⟨b, o, c, h5, h6⟩ := Sl.at h1 (fun c hc => by obtain ⟨v, _, hv⟩ := h2.mem hc; exact hv.length) (m := 6) (by omega) h3
  exact ⟨b, o, c, cs, h5, h6, h4⟩
theorem rVers.len {w : World} {s : Value} {vs : List Ver} (h : rVers w s vs) : ∃ a c, s = .slice a vs.length c ∧ vs.length ≤ 1954687338211 := by
  obtain ⟨css, ⟨a, c, h1, h2, _⟩, _, h3⟩ := h
  exact ⟨a, c, h1, h3⟩
/-- Rows of one's own: tags, a version's cells, versions. -/
def fTags (E B : Nat) (w : World) (s : Value) (ts : List Tag) : Prop := Own w B E 2 s ts.length (tagCs ts) ∧ ts.length ≤ 8796093021952
def fVer (E B : Nat) (w : World) (cs : List Value) (v : Ver) : Prop := ∃ s, cs = [i64 v.key, i64 v.tag.t, i64 v.tag.p, s, .string v.text, .bool v.gone] ∧ fTags E B w s v.past ∧ v.text.size ≤ 140737488351232
def versB (s : Value) (css : List (List Value)) : List Nat := (blkOf s).toList ++ css.flatMap pastB
def fVers (E F B : Nat) (w : World) (s : Value) (vs : List Ver) : Prop := ∃ css, Own w B F 6 s vs.length css.flatten ∧ All2 (fVer E B w) css vs ∧ vs.length ≤ 1954687338211 ∧ (versB s css).Nodup
theorem fTags.r {E B : Nat} {w : World} {s : Value} {ts : List Tag} (h : fTags E B w s ts) : rTags w s ts := ⟨h.1.sl, h.2⟩
theorem fVer.r {E B : Nat} {w : World} {cs : List Value} {v : Ver} (h : fVer E B w cs v) : rVer w cs v := by
  obtain ⟨s, h1, h2, h3⟩ := h
  exact ⟨s, h1, h2.r, h3⟩
theorem fVers.r {E F B : Nat} {w : World} {s : Value} {vs : List Ver} (h : fVers E F B w s vs) : rVers w s vs := by
  obtain ⟨css, h1, h2, h3, _⟩ := h
  exact ⟨css, h1.sl, h2.imp fun _ _ h => h.r, h3⟩
theorem fTags.keep {E B : Nat} {w w' : World} {s : Value} {ts : List Tag} (h : fTags E B w s ts) (k : ∀ b ∈ (blkOf s).toList, hp w' b = hp w b) : fTags E B w' s ts :=
  ⟨h.1.keep fun g hg => k g (by simp [hg]), h.2⟩
theorem fTags.lt {E B : Nat} {w : World} {s : Value} {ts : List Tag} (h : fTags E B w s ts) : ∀ b ∈ (blkOf s).toList, B ≤ b ∧ b < w.heap.size := by
  intro b hb
  have := h.1.lt (g := b) (by simpa using hb)
  exact ⟨this.1, this.2.1⟩
theorem fVer.keep {E B : Nat} {w w' : World} {cs : List Value} {v : Ver} (h : fVer E B w cs v) (k : ∀ b ∈ pastB cs, hp w' b = hp w b) : fVer E B w' cs v := by
  obtain ⟨s, rfl, h2, h3⟩ := h
  exact ⟨s, rfl, h2.keep k, h3⟩
theorem fVer.lt {E B : Nat} {w : World} {cs : List Value} {v : Ver} (h : fVer E B w cs v) : ∀ b ∈ pastB cs, B ≤ b ∧ b < w.heap.size := by
  obtain ⟨s, rfl, h2, h3⟩ := h
  exact h2.lt
theorem fVer.length {E B : Nat} {w : World} {cs : List Value} {v : Ver} (h : fVer E B w cs v) : cs.length = 6 := h.r.length
theorem fVers.keep {E F B : Nat} {w w' : World} {s : Value} {vs : List Ver} (h : fVers E F B w s vs) (k : ∀ b, B ≤ b → b < w.heap.size → hp w' b = hp w b) : fVers E F B w' s vs := by
  obtain ⟨css, h1, h2, h3, h4⟩ := h
  exact ⟨css, h1.keep fun g hg => k g (h1.lt hg).1 (h1.lt hg).2.1, h2.imp fun _ _ h => h.keep fun b hb => k b (h.lt b hb).1 (h.lt b hb).2, h3, h4⟩
theorem fTags.from {E B C : Nat} {w : World} {s : Value} {ts : List Tag} (h : fTags E B w s ts) (hC : C ≤ B) : fTags E C w s ts := ⟨h.1.from hC, h.2⟩
theorem fVer.from {E B C : Nat} {w : World} {cs : List Value} {v : Ver} (h : fVer E B w cs v) (hC : C ≤ B) : fVer E C w cs v := by
  obtain ⟨s, rfl, h2, h3⟩ := h
  exact ⟨s, rfl, h2.from hC, h3⟩
theorem fVers.from {E F B C : Nat} {w : World} {s : Value} {vs : List Ver} (h : fVers E F B w s vs) (hC : C ≤ B) : fVers E F C w s vs := by
  obtain ⟨css, h1, h2, h3, h4⟩ := h
  exact ⟨css, h1.from hC, h2.imp fun _ _ h => h.from hC, h3, h4⟩
theorem drop_at {α : Type} {l : List α} {k : Nat} (h : k < l.length) : ∃ a, l[k]? = some a ∧ l.drop k = a :: l.drop (k + 1) :=
  ⟨l[k], List.getElem?_eq_getElem h, List.drop_eq_getElem_cons h⟩
/-- The cells hold these tags. -/
def TagsIn (cur : List Value) (L : List Tag) : Prop := ∀ (i : Nat) (x : Tag), L[i]? = some x → cur[i * 2]? = some (i64 x.t) ∧ cur[i * 2 + 1]? = some (i64 x.p)
theorem TagsIn.take : ∀ {L : List Tag} {cur : List Value}, TagsIn cur L → L.length * 2 ≤ cur.length → cur.take (L.length * 2) = tagCs L
  | [], cur, _, _ => by simp [tagCs]
  | x :: L, cur, h, hl => by
    have h0 := h 0 x rfl
    match cur, h0 with
    | a :: b :: cur, h0 =>
      simp only [Nat.zero_mul, List.getElem?_cons_zero, Option.some.injEq, Nat.zero_add, List.getElem?_cons_succ] at h0
      have ih := TagsIn.take (L := L) (cur := cur) (fun i y hy => by
        have := h (i + 1) y (by simpa using hy)
        rw [Nat.succ_mul] at this
        simpa using this) (by simp only [List.length_cons, Nat.succ_mul] at hl; omega)
      rw [List.length_cons, Nat.succ_mul, List.take_succ_cons, List.take_succ_cons, ih, tagCs_cons, h0.1, h0.2]; rfl
    | [a], h0 => simp at h0
    | [], h0 => simp at h0
theorem TagsIn.of {L : List Tag} {cur : List Value} (h : cur.take (L.length * 2) = tagCs L) : TagsIn cur L := by
  intro i x hx
  have hg := flat_get (m := 2) (L.map tagC) i (tagC x) (fun c hc => by obtain ⟨t, _, rfl⟩ := List.mem_map.1 hc; rfl) (by simp [hx])
  have hi : i < L.length := (List.getElem?_eq_some_iff.1 hx).1
  have g : ∀ j v, (tagCs L)[j]? = some v → j < L.length * 2 → cur[j]? = some v := fun j v hv hj => by
    rw [← h, List.getElem?_take, if_pos hj] at hv
    exact hv
  exact ⟨g _ _ (hg 0 _ rfl) (by omega), g _ _ (hg 1 _ rfl) (by omega)⟩
/-- Tag j of a row of one's own is written. -/
theorem fTags.put {E B : Nat} {w : World} {s : Value} {L : List Tag} (hf : fTags E B w s L) {j : Nat} (hj : j < L.length) :
    ∃ g cap cur, s = .slice (some ⟨g, 0, none⟩) L.length cap ∧ B ≤ g ∧ g < w.heap.size ∧ hp w g = some (.cells cur E (0, 0)) ∧ L.length * 2 ≤ cur.size ∧
      ∀ (y : Tag) (w' : World), hp w' g = some (.cells ((cur.toList.set (j * 2) (i64 y.t)).set (j * 2 + 1) (i64 y.p)).toArray E (0, 0)) → fTags E B w' s (L.set j y) := by
  obtain ⟨⟨hcl, hn, ho⟩, hbd⟩ := hf
  rcases ho with ⟨_, h⟩ | ⟨g, cap, cur, hs, hg, hh, hc, hcm, hcs, ht⟩
  · omega
  have hle : L.length * 2 ≤ cur.size := Nat.le_trans (Nat.mul_le_mul_right _ hc) hcs
  refine ⟨g, cap, cur, hs, hg, hp_lt hh, hh, hle, fun y w' hw => ⟨⟨by rw [tagCs_length], by simpa using hn, .inr ⟨g, cap, _, by rw [hs, List.length_set], hg, hw, by simpa using hc, hcm, by simpa using hcs, ?_⟩⟩, by simpa using hbd⟩⟩
  have hin := TagsIn.of ht
  refine TagsIn.take (L := L.set j y) (fun i x hx => ?_) (by simpa using hle)
  rw [List.getElem?_set] at hx
  simp only [List.getElem?_set]
  split at hx
  · rename_i hij
    subst hij
    obtain rfl : y = x := by simpa [hj] using hx
    have h1 : j * 2 + 1 < cur.toList.length := by simp; omega
    have h2 : j * 2 < cur.toList.length := by omega
    have h3 : ¬ j * 2 + 1 = j * 2 := by omega
    simp only [h3, if_false, if_true, h2, List.length_set, h1, and_self]
  · rename_i hij
    have := hin i x hx
    have h1 : ¬ j * 2 + 1 = i * 2 := by omega
    have h2 : ¬ j * 2 = i * 2 := by omega
    have h3 : ¬ j * 2 + 1 = i * 2 + 1 := by omega
    have h4 : ¬ j * 2 = i * 2 + 1 := by omega
    simp only [h1, h2, h3, h4, if_false]
    exact this
theorem But.tr {a b c : World} {g : Option Nat} (h : But a b g) (k : But b c g) : But a c g :=
  ⟨k.os.trans h.os, k.tape.trans h.tape, k.output.trans h.output, Nat.le_trans h.size k.size, fun x hx hg => (k.blk x (Nat.lt_of_lt_of_le hx h.size) hg).trans (h.blk x hx hg)⟩
theorem But.set (w : World) (g : Nat) (cs : Array Value) : But w (w.setRow g cs) (some g) := ⟨rfl, rfl, rfl, by simp, fun b _ hb => hp_set_ne fun e => hb (by rw [e])⟩
theorem But.of {a b : World} (h : Ext a b) (g : Option Nat) : But a b g := ⟨h.os, h.tape, h.output, h.size, fun x hx _ => h.blk hx⟩
theorem All2.imp_mem {α β : Type} {R S : α → β → Prop} : ∀ {l : List α} {m : List β}, (∀ a b, a ∈ l → R a b → S a b) → All2 R l m → All2 S l m
  | [], [], _, _ => trivial
  | a :: l, b :: m, f, h => ⟨f _ _ List.mem_cons_self h.1, All2.imp_mem (fun a b ha => f a b (List.mem_cons_of_mem _ ha)) h.2⟩
  | [], _ :: _, _, h => h.elim
  | _ :: _, [], _, h => h.elim
/-! ### What the program says of tags -/
def tagOk (x : Tag) : Bool := ((x.t == 0) && (x.p == 0)) || (decide (1 ≤ x.t) && decide (x.t ≤ 999) && (decide (0 ≤ x.p) && decide (x.p ≤ 2)))
def tagLess (a b : Tag) : Bool := decide (a.t < b.t) || ((a.t == b.t) && decide (a.p < b.p))
def tagMax (a b : Tag) : Tag := if tagLess a b then b else a
def pastOk (p : List Tag) : Bool := p.all tagOk && (p.length == 4)
def under : List Tag → List Tag → Bool
  | a :: p, b :: q => !tagLess b a && under p q
  | _, _ => true
def latest (m : Int) : List Tag → Int
  | [] => m
  | t :: l => latest (if t.t > m then t.t else m) l
theorem Ext.but {a b c : World} {g : Option Nat} (h : Ext a b) (k : But b c g) (hg : ∀ x, g = some x → a.heap.size ≤ x) : Ext a c :=
  Below.trans h ⟨k.os, k.tape, k.output, k.size, fun x hx => k.blk x (Nat.lt_of_lt_of_le hx h.size) fun e => absurd (hg x e) (by omega)⟩
def byteOk (b : UInt8) : Bool := decide (33 ≤ (b.toNat : Int)) && decide ((b.toNat : Int) ≤ 126)
def textOk (s : ByteArray) : Bool := s.toList.all byteOk && decide ((s.size : Int) ≤ 8)
def noText (s : ByteArray) : Bool := s.toList.isEmpty
def keyOk (k : Int) : Bool := decide (0 ≤ k) && decide (k ≤ 3)
def verWr (v : Ver) : Bool := keyOk v.key && (textOk v.text && ((!v.gone || noText v.text) && pastOk v.past))
def verOk (v : Ver) : Bool := verWr v && (tagOk v.tag && decide (v.tag.t > latest 0 v.past))
def verNone (v : Ver) : Bool := (v.key == 0) && ((v.tag == Tag.zero) && ((v.past.length == 0) && (noText v.text && !v.gone)))
def slotOk (i : Nat) (v : Ver) : Bool := verNone v || (verOk v && (v.key == (i : Int)))
def slots : Nat → List Ver → Bool
  | _, [] => true
  | i, v :: l => slotOk i v && slots (i + 1) l
def storeOk (vs : List Ver) : Bool := slots 0 vs && (vs.length == 4)
def tagsOf (vs : List Ver) : List Tag := vs.map (·.tag)
theorem byte_list (s : ByteArray) : s.toList.length = s.size := by rw [ByteArray.toList_eq]; simp
theorem tag_z {v : Tag} (h : ((v.t == 0) && (v.p == 0)) = true) : v = Tag.zero := by
  obtain ⟨a, b⟩ := v
  simp only [Bool.and_eq_true, beq_iff_eq] at h
  obtain ⟨rfl, rfl⟩ := h
  rfl
theorem tag_n {v : Tag} (h : ((v.t == 0) && (v.p == 0)) = false) : v ≠ Tag.zero := by
  rintro rfl
  simp [Tag.zero] at h
/-! ### Marks of versions -/
/-- Nothing changed but in the blocks from B to T. -/
structure Zon (B T : Nat) (w w' : World) : Prop where
  os : w'.os = w.os
  tape : w'.tape = w.tape
  output : w'.output = w.output
  size : w.heap.size ≤ w'.heap.size
  blk : ∀ b, b < w.heap.size → (b < B ∨ T ≤ b) → hp w' b = hp w b
theorem Zon.tr {B T : Nat} {a b c : World} (h : Zon B T a b) (k : Zon B T b c) : Zon B T a c :=
  ⟨k.os.trans h.os, k.tape.trans h.tape, k.output.trans h.output, Nat.le_trans h.size k.size, fun x hx hb => (k.blk x (Nat.lt_of_lt_of_le hx h.size) hb).trans (h.blk x hx hb)⟩
theorem Zon.of {a b : World} (h : Ext a b) (B T : Nat) : Zon B T a b := ⟨h.os, h.tape, h.output, h.size, fun x hx _ => h.blk hx⟩
theorem Zon.set {B T g : Nat} (h0 : B ≤ g) (h1 : g < T) (w : World) (cs : Array Value) : Zon B T w (w.setRow g cs) := ⟨rfl, rfl, rfl, by simp, fun b _ hb => hp_set_ne (by omega)⟩
theorem Zon.but {B T : Nat} {w w' : World} {g : Option Nat} (h : But w w' g) (hg : ∀ x, g = some x → B ≤ x ∧ x < T) : Zon B T w w' :=
  ⟨h.os, h.tape, h.output, h.size, fun b hb hx => h.blk b hb fun e => by have := hg b e; omega⟩
theorem Zon.ext {B T : Nat} {a w w' : World} (h : Ext a w) (k : Zon B T w w') (hB : a.heap.size ≤ B) : Ext a w' :=
  Below.trans h ⟨k.os, k.tape, k.output, k.size, fun x hx => k.blk x (Nat.lt_of_lt_of_le hx h.size) (.inl (by omega))⟩
/-- The cells hold these rows of six. -/
def RowIn (cur : List Value) (css : List (List Value)) : Prop := ∀ (i : Nat) (cs : List Value), css[i]? = some cs → ∀ (r : Nat) (v : Value), cs[r]? = some v → cur[i * 6 + r]? = some v
theorem RowIn.take : ∀ {css : List (List Value)} {cur : List Value}, RowIn cur css → (∀ c ∈ css, c.length = 6) → css.length * 6 ≤ cur.length → cur.take (css.length * 6) = css.flatten
  | [], cur, _, _, _ => by simp
  | c :: css, cur, h, hc, hl => by
    have hc0 := hc c List.mem_cons_self
    simp only [List.length_cons, Nat.succ_mul] at hl
    have ih := RowIn.take (css := css) (cur := cur.drop 6) (fun i d hd r v hv => by
      have := h (i + 1) d (by simpa using hd) r v hv
      rw [List.getElem?_drop, ← this]
      congr 1
      omega) (fun d hd => hc d (List.mem_cons_of_mem _ hd)) (by simp; omega)
    rw [List.length_cons, Nat.succ_mul, Nat.add_comm, List.take_add, ih, List.flatten_cons]
    congr 1
    apply List.ext_getElem?
    intro r
    rcases Nat.lt_or_ge r 6 with hr | hr
    · rw [List.getElem?_take, if_pos hr]
      have := h 0 c rfl r (c[r]'(by omega)) (List.getElem?_eq_getElem (by omega))
      rw [Nat.zero_mul, Nat.zero_add] at this
      rw [this, List.getElem?_eq_getElem (by omega)]
    · rw [List.getElem?_take, if_neg (by omega), List.getElem?_eq_none (by omega)]
theorem RowIn.of {css : List (List Value)} {cur : List Value} (hc : ∀ c ∈ css, c.length = 6) (h : cur.take (css.length * 6) = css.flatten) : RowIn cur css := by
  intro i cs hi r v hv
  have hg := flat_get css i cs hc hi r v hv
  have hil : i < css.length := (List.getElem?_eq_some_iff.1 hi).1
  have hr : r < cs.length := (List.getElem?_eq_some_iff.1 hv).1
  rw [hc cs (List.mem_of_getElem? hi)] at hr
  rw [← h, List.getElem?_take, if_pos (by omega)] at hg
  exact hg
theorem RowIn.set {css : List (List Value)} {cur cs : List Value} {j r : Nat} (h : RowIn cur css) (hc : ∀ c ∈ css, c.length = 6) (hj : css[j]? = some cs) (hr : r < 6) (hl : j * 6 + r < cur.length) (x : Value) : RowIn (cur.set (j * 6 + r) x) (css.set j (cs.set r x)) := by
  intro i ds hi q v hv
  rw [List.getElem?_set] at hi
  rw [List.getElem?_set]
  split at hi
  · rename_i hij
    subst hij
    have hjl : j < css.length := (List.getElem?_eq_some_iff.1 hj).1
    obtain rfl : cs.set r x = ds := by simpa [hjl] using hi
    rw [List.getElem?_set] at hv
    split at hv
    · rename_i hrq
      subst hrq
      split at hv
      · rw [if_pos rfl, if_pos hl]; exact hv
      · contradiction
    · rw [if_neg (by omega)]
      exact h j cs hj q v hv
  · have hq : q < ds.length := (List.getElem?_eq_some_iff.1 hv).1
    rw [hc ds (List.mem_of_getElem? hi)] at hq
    rw [if_neg (by omega)]
    exact h i ds hi q v hv
theorem RowIn.put {css : List (List Value)} {cur ds : List Value} {j r : Nat} (h : RowIn cur (css.set j ds)) (hc : ∀ c ∈ css, c.length = 6) (hj : j < css.length) (hd : ds.length = 6) (hr : r < 6) (hl : j * 6 + r < cur.length) (x : Value) : RowIn (cur.set (j * 6 + r) x) (css.set j (ds.set r x)) := by
  have := RowIn.set h (fun c hcc => by
    rcases List.mem_or_eq_of_mem_set hcc with h | h
    · exact hc c h
    · rw [h]; exact hd) (by rw [List.getElem?_set_self hj]) hr hl x
  rwa [List.set_set] at this
theorem All2.set {α β : Type} {R S : α → β → Prop} {x : α} {y : β} : ∀ {l : List α} {m : List β} (j : Nat), All2 R l m → (∀ (i : Nat) (a : α) (b : β), i ≠ j → l[i]? = some a → m[i]? = some b → R a b → S a b) → S x y → All2 S (l.set j x) (m.set j y)
  | [], [], _, _, _, _ => trivial
  | a :: l, b :: m, 0, h, f, hs => ⟨hs, by
    have : ∀ {l : List α} {m : List β}, (∀ (i : Nat) (a : α) (b : β), l[i]? = some a → m[i]? = some b → R a b → S a b) → All2 R l m → All2 S l m := by
      intro l
      induction l with
      | nil => intro m _ h; cases m with
        | nil => trivial
        | cons _ _ => exact h.elim
      | cons a l ih => intro m g h; cases m with
        | nil => exact h.elim
        | cons b m => exact ⟨g 0 a b rfl rfl h.1, ih (fun i a b ha hb => g (i + 1) a b (by simpa using ha) (by simpa using hb)) h.2⟩
    exact this (fun i a b ha hb => f (i + 1) a b (by omega) (by simpa using ha) (by simpa using hb)) h.2⟩
  | a :: l, b :: m, j + 1, h, f, hs => ⟨f 0 a b (by omega) rfl rfl h.1, All2.set j h.2 (fun i a b hi ha hb => f (i + 1) a b (by omega) (by simpa using ha) (by simpa using hb)) hs⟩
  | [], _ :: _, _, h, _, _ => h.elim
  | _ :: _, [], _, h, _, _ => h.elim
theorem flat_apart {α β : Type} {f : α → List β} : ∀ {l : List α} {i j : Nat} {a b : α}, (l.flatMap f).Nodup → l[i]? = some a → l[j]? = some b → i ≠ j → ∀ x ∈ f a, x ∉ f b
  | [], i, j, a, b, _, hi, _, _ => by simp at hi
  | c :: l, i, j, a, b, hn, hi, hj, hne => by
    rw [List.flatMap_cons, List.nodup_append] at hn
    intro x hx hx2
    match i, j, hi, hj, hne with
    | 0, 0, _, _, hne => exact hne rfl
    | 0, j + 1, hi, hj, _ =>
      obtain rfl : c = a := by simpa using hi
      exact hn.2.2 x hx x (List.mem_flatMap.2 ⟨b, List.mem_of_getElem? (by simpa using hj), hx2⟩) rfl
    | i + 1, 0, hi, hj, _ =>
      obtain rfl : c = b := by simpa using hj
      exact hn.2.2 x hx2 x (List.mem_flatMap.2 ⟨a, List.mem_of_getElem? (by simpa using hi), hx⟩) rfl
    | i + 1, j + 1, hi, hj, hne => exact flat_apart hn.2.1 (by simpa using hi) (by simpa using hj) (by omega) x hx hx2
/-- Rows of versions of one's own, all in the blocks from B to T. -/
def fVT (E F B T : Nat) (w : World) (s : Value) (vs : List Ver) : Prop := ∃ css, Own w B F 6 s vs.length css.flatten ∧ All2 (fVer E B w) css vs ∧ vs.length ≤ 1954687338211 ∧ (versB s css).Nodup ∧ ∀ b ∈ versB s css, b < T
theorem fVers.lt {E F B : Nat} {w : World} {s : Value} {css : List (List Value)} {vs : List Ver} (h1 : Own w B F 6 s vs.length css.flatten) (h2 : All2 (fVer E B w) css vs) : ∀ b ∈ versB s css, B ≤ b ∧ b < w.heap.size := by
  intro b hb
  rcases List.mem_append.1 hb with hb | hb
  · have := h1.lt (g := b) (by simpa using hb)
    exact ⟨this.1, this.2.1⟩
  · obtain ⟨c, hc, hbc⟩ := List.mem_flatMap.1 hb
    obtain ⟨v, _, hv⟩ := h2.mem hc
    exact hv.lt b hbc
theorem fVers.t {E F B : Nat} {w : World} {s : Value} {vs : List Ver} (h : fVers E F B w s vs) : fVT E F B w.heap.size w s vs := by
  obtain ⟨css, h1, h2, h3, h4⟩ := h
  exact ⟨css, h1, h2, h3, h4, fun b hb => (fVers.lt h1 h2 b hb).2⟩
theorem fVT.f {E F B T : Nat} {w : World} {s : Value} {vs : List Ver} (h : fVT E F B T w s vs) : fVers E F B w s vs := by
  obtain ⟨css, h1, h2, h3, h4, _⟩ := h
  exact ⟨css, h1, h2, h3, h4⟩
theorem fVT.keep {E F B T : Nat} {w w' : World} {s : Value} {vs : List Ver} (h : fVT E F B T w s vs) (k : ∀ b, B ≤ b → b < T → b < w.heap.size → hp w' b = hp w b) : fVT E F B T w' s vs := by
  obtain ⟨css, h1, h2, h3, h4, h5⟩ := h
  have hl := fVers.lt h1 h2
  have hm : ∀ b ∈ versB s css, hp w' b = hp w b := fun b hb => k b (hl b hb).1 (h5 b hb) (hl b hb).2
  refine ⟨css, h1.keep fun g hg => hm g (List.mem_append_left _ (by simp [hg])), All2.imp_mem (fun c v hc hv => hv.keep fun b hb => hm b (List.mem_append_right _ (List.mem_flatMap.2 ⟨c, hc, hb⟩))) h2, h3, h4, h5⟩
theorem fVT.ext {E F B T : Nat} {w w' : World} {s : Value} {vs : List Ver} (h : fVT E F B T w s vs) (k : Ext w w') : fVT E F B T w' s vs := h.keep fun b _ _ hb => k.blk hb
/-! ### Joins of causes -/
def joinT : List Tag → List Tag → List Tag
  | x :: xs, y :: ys => tagMax x y :: joinT xs ys
  | _, _ => []
theorem joinT_get : ∀ {xs ys : List Tag} {k : Nat} {x y : Tag}, xs[k]? = some x → ys[k]? = some y → (joinT xs ys)[k]? = some (tagMax x y)
  | a :: xs, b :: ys, 0, x, y, hx, hy => by
    obtain rfl : a = x := by simpa using hx
    obtain rfl : b = y := by simpa using hy
    rfl
  | a :: xs, b :: ys, k + 1, x, y, hx, hy => by
    have := joinT_get (xs := xs) (ys := ys) (k := k) (by simpa using hx) (by simpa using hy)
    simpa [joinT] using this
  | [], _, k, x, y, hx, _ => by simp at hx
  | _ :: _, [], k, x, y, _, hy => by simp at hy
theorem joinT_length : ∀ {xs ys : List Tag}, xs.length = ys.length → (joinT xs ys).length = xs.length
  | [], [], _ => rfl
  | a :: xs, b :: ys, h => by simp only [joinT, List.length_cons]; rw [joinT_length (by simpa using h)]
  | [], _ :: _, h => by simp at h
  | _ :: _, [], h => by simp at h
theorem joinT_put {xs ys : List Tag} {j : Nat} {x y : Tag} (hx : xs[j]? = some x) (hy : ys[j]? = some y) (hl : xs.length = ys.length) : ((joinT xs ys).take j ++ xs.drop j).set j (tagMax x y) = (joinT xs ys).take (j + 1) ++ xs.drop (j + 1) := by
  have hj : j < xs.length := (List.getElem?_eq_some_iff.1 hx).1
  obtain ⟨z, hz, hdx⟩ := drop_at hj
  have hl : ((joinT xs ys).take j).length = j := by rw [List.length_take, joinT_length hl]; omega
  rw [take_at (joinT_get hx hy), hdx, List.set_append_right _ _ (by omega), hl, Nat.sub_self, List.set_cons_zero, List.append_assoc]; rfl
theorem splice_two {cur : Array Value} {o : Nat} (h : o + 1 < cur.size) (a b : Value) : splice cur.toList o [a, b] = (cur.toList.set o a).set (o + 1) b := by
  apply List.ext_getElem?
  intro i
  have hl : cur.toList.length = cur.size := by simp
  rw [splice_eq, List.getElem?_set, List.getElem?_set]
  rcases Nat.lt_trichotomy i o with hi | rfl | hi
  · rw [List.getElem?_append_left (by rw [List.length_take]; omega), List.getElem?_take, if_pos hi, if_neg (by omega), if_neg (by omega)]
  · rw [List.getElem?_append_right (by rw [List.length_take]; omega), List.length_take, show i - min i cur.toList.length = 0 by omega]
    simp; omega
  · rw [List.getElem?_append_right (by rw [List.length_take]; omega), List.length_take, show min o cur.toList.length = o by omega]
    by_cases h1 : i = o + 1
    · subst h1
      rw [show o + 1 - o = 1 by omega]
      simp; omega
    · obtain ⟨d, rfl⟩ : ∃ d, i = o + 2 + d := ⟨i - (o + 2), by omega⟩
      rw [if_neg (by omega), if_neg (by omega), show o + 2 + d - o = d + 2 by omega]
      simp [List.getElem?_drop]
/-! ### What is drawn -/
/-- A row of bytes. -/
def rBytes (w : World) (s : Value) (ns : List Int) : Prop :=
  ∃ a c, s = .slice a ns.length c ∧ ns.length ≤ c ∧ c ≤ 9223372036854775807 ∧ (∀ n ∈ ns, 0 ≤ n ∧ n ≤ 255) ∧ (ns = [] ∨ ∃ b o, a = some ⟨b, o, none⟩ ∧ At w b o (ns.map (Value.int .u8)))
theorem rBytes.mono {w w' : World} {s : Value} {ns : List Int} (h : rBytes w s ns) (k : Keep w w') : rBytes w' s ns := by
  obtain ⟨a, c, h1, h2, h3, h4, h5⟩ := h
  exact ⟨a, c, h1, h2, h3, h4, h5.imp id fun ⟨b, o, h6, h7⟩ => ⟨b, o, h6, h7.mono k⟩⟩
/-- A reader, in block b: what it reads, and how far it is. -/
def rRd (t : TypeId) (w : World) (b : Nat) (s : Value) (pos : Int) : Prop := hp w b = some (.cells #[s, i64 pos] t (0, 0))
/-! ### Three lists, each of these as the others -/
def All3 {α β γ : Type} (R : α → β → γ → Prop) : List α → List β → List γ → Prop
  | [], [], [] => True
  | a :: l, b :: m, c :: n => R a b c ∧ All3 R l m n
  | _, _, _ => False
section
variable {α β γ : Type} {R S : α → β → γ → Prop}
theorem All3.ind {M : List α → List β → List γ → Prop} (h0 : M [] [] []) (h1 : ∀ a l b m c n, R a b c → All3 R l m n → M l m n → M (a :: l) (b :: m) (c :: n)) : ∀ {l : List α} {m : List β} {n : List γ}, All3 R l m n → M l m n
  | [], [], [], _ => h0
  | a :: l, b :: m, c :: n, h => h1 a l b m c n h.1 h.2 (All3.ind h0 h1 h.2)
  | [], _ :: _, _, h => h.elim
  | [], [], _ :: _, h => h.elim
  | _ :: _, [], _, h => h.elim
  | _ :: _, _ :: _, [], h => h.elim
theorem All3.length {l : List α} {m : List β} {n : List γ} (h : All3 R l m n) : l.length = m.length ∧ n.length = m.length := by
  refine All3.ind (R := R) (M := fun l m n => l.length = m.length ∧ n.length = m.length) ⟨rfl, rfl⟩ ?_ h
  intro a l b m c n _ _ h
  simp [h.1, h.2]
theorem All3.imp {l : List α} {m : List β} {n : List γ} (hrs : ∀ a b c, a ∈ l → b ∈ m → c ∈ n → R a b c → S a b c) (h : All3 R l m n) : All3 S l m n := by
  have : ∀ l m n, All3 R l m n → (∀ a b c, a ∈ l → b ∈ m → c ∈ n → R a b c → S a b c) → All3 S l m n := by
    intro l m n h
    refine All3.ind (M := fun l m n => (∀ a b c, a ∈ l → b ∈ m → c ∈ n → R a b c → S a b c) → All3 S l m n) (fun _ => trivial) ?_ h
    intro a l b m c n h1 _ ih hrs
    exact ⟨hrs a b c List.mem_cons_self List.mem_cons_self List.mem_cons_self h1, ih fun x y z hx hy hz => hrs x y z (List.mem_cons_of_mem _ hx) (List.mem_cons_of_mem _ hy) (List.mem_cons_of_mem _ hz)⟩
  exact this l m n h hrs
theorem All3.get : ∀ {l : List α} {m : List β} {n : List γ}, All3 R l m n → ∀ {i : Nat} {b : β}, m[i]? = some b → ∃ a c, l[i]? = some a ∧ n[i]? = some c ∧ R a b c
  | a :: l, b :: m, c :: n, h, 0, b', hb => by
    simp only [List.getElem?_cons_zero, Option.some.injEq] at hb; subst hb; exact ⟨a, c, rfl, rfl, h.1⟩
  | a :: l, b :: m, c :: n, h, i + 1, b', hb => by simpa using All3.get h.2 (by simpa using hb)
  | [], [], _, _, i, b', hb => by simp at hb
  | [], _ :: _, _, h, _, _, _ => h.elim
  | _ :: _, [], _, h, _, _, _ => h.elim
  | _ :: _, _ :: _, [], h, _, _, _ => h.elim
theorem All3.app : ∀ {l : List α} {m : List β} {n : List γ} {l' : List α} {m' : List β} {n' : List γ}, All3 R l m n → All3 R l' m' n' → All3 R (l ++ l') (m ++ m') (n ++ n')
  | [], [], [], _, _, _, _, h => h
  | a :: l, b :: m, c :: n, _, _, _, h, h' => ⟨h.1, All3.app h.2 h'⟩
  | [], _ :: _, _, _, _, _, h, _ => h.elim
  | [], [], _ :: _, _, _, _, h, _ => h.elim
  | _ :: _, [], _, _, _, _, h, _ => h.elim
  | _ :: _, _ :: _, [], _, _, _, h, _ => h.elim
theorem All3.set {a : α} {b : β} {c : γ} (hs : R a b c) : ∀ {l : List α} {m : List β} {n : List γ} (i : Nat), All3 R l m n → All3 R (l.set i a) (m.set i b) (n.set i c)
  | [], [], [], _, _ => trivial
  | _ :: _, _ :: _, _ :: _, 0, h => ⟨hs, h.2⟩
  | _ :: _, _ :: _, _ :: _, i + 1, h => ⟨h.1, All3.set hs i h.2⟩
  | [], _ :: _, _, _, h => h.elim
  | [], [], _ :: _, _, h => h.elim
  | _ :: _, [], _, _, h => h.elim
  | _ :: _, _ :: _, [], _, h => h.elim
theorem All3.take : ∀ {l : List α} {m : List β} {n : List γ} (i : Nat), All3 R l m n → All3 R (l.take i) (m.take i) (n.take i)
  | _, _, _, 0, _ => trivial
  | [], [], [], _ + 1, _ => trivial
  | _ :: _, _ :: _, _ :: _, i + 1, h => ⟨h.1, All3.take i h.2⟩
  | [], _ :: _, _, _, h => h.elim
  | [], [], _ :: _, _, h => h.elim
  | _ :: _, [], _, _, h => h.elim
  | _ :: _, _ :: _, [], _, h => h.elim
theorem All3.drop : ∀ {l : List α} {m : List β} {n : List γ} (i : Nat), All3 R l m n → All3 R (l.drop i) (m.drop i) (n.drop i)
  | _, _, _, 0, h => h
  | [], [], [], _ + 1, _ => trivial
  | _ :: _, _ :: _, _ :: _, i + 1, h => All3.drop i h.2
  | [], _ :: _, _, _, h => h.elim
  | [], [], _ :: _, _, h => h.elim
  | _ :: _, [], _, _, h => h.elim
  | _ :: _, _ :: _, [], _, h => h.elim
theorem All3.mem1 {l : List α} {m : List β} {n : List γ} (h : All3 R l m n) : ∀ a ∈ l, ∃ b ∈ m, ∃ c ∈ n, R a b c := by
  refine All3.ind (M := fun l m n => ∀ a ∈ l, ∃ b ∈ m, ∃ c ∈ n, R a b c) (by simp) ?_ h
  intro a l b m c n h1 _ ih x hx
  rcases List.mem_cons.1 hx with rfl | hx
  · exact ⟨b, List.mem_cons_self, c, List.mem_cons_self, h1⟩
  · obtain ⟨b', hb, c', hc, h⟩ := ih x hx
    exact ⟨b', List.mem_cons_of_mem _ hb, c', List.mem_cons_of_mem _ hc, h⟩
theorem All3.mem3 {l : List α} {m : List β} {n : List γ} (h : All3 R l m n) : ∀ c ∈ n, ∃ b ∈ m, ∃ a ∈ l, R a b c := by
  refine All3.ind (M := fun l m n => ∀ c ∈ n, ∃ b ∈ m, ∃ a ∈ l, R a b c) (by simp) ?_ h
  intro a l b m c n h1 _ ih x hx
  rcases List.mem_cons.1 hx with rfl | hx
  · exact ⟨b, List.mem_cons_self, a, List.mem_cons_self, h1⟩
  · obtain ⟨b', hb, c', hc, h⟩ := ih x hx
    exact ⟨b', List.mem_cons_of_mem _ hb, c', List.mem_cons_of_mem _ hc, h⟩
/-- What three lists are, from what two are. -/
theorem All3.of2 {Q : α → β → Prop} (h : ∀ a b, Q a b → ∃ c, R a b c) : ∀ {l : List α} {m : List β}, All2 Q l m → ∃ n, All3 R l m n
  | [], [], _ => ⟨[], trivial⟩
  | a :: l, b :: m, h' => by
    obtain ⟨c, hc⟩ := h a b h'.1
    obtain ⟨n, hn⟩ := All3.of2 h h'.2
    exact ⟨c :: n, hc, hn⟩
  | [], _ :: _, h => h.elim
  | _ :: _, [], h => h.elim
end
theorem sum_flat {α : Type} {n : Nat} : ∀ {css : List (List α)}, (∀ c ∈ css, c.length = n) → css.flatten.length = css.length * n
  | [], _ => by simp
  | c :: css, h => by
    rw [List.flatten_cons, List.length_append, h c List.mem_cons_self, sum_flat (css := css) fun d hd => h d (List.mem_cons_of_mem _ hd), List.length_cons, Nat.succ_mul, Nat.add_comm]
theorem flat_set {α : Type} {n : Nat} : ∀ {css : List (List α)} (i : Nat) {c : List α}, (∀ d ∈ css, d.length = n) → i < css.length → c.length = n → (css.set i c).flatten = css.flatten.take (i * n) ++ (c ++ css.flatten.drop (i * n + n))
  | [], _, _, _, h, _ => by simp at h
  | d :: css, 0, c, h, _, _ => by
    have hd := h d List.mem_cons_self
    simp only [List.set_cons_zero, List.flatten_cons, Nat.zero_mul, List.take_zero, List.nil_append, Nat.zero_add]
    rw [← hd, List.drop_left]
  | d :: css, i + 1, c, h, hi, hc => by
    have hd := h d List.mem_cons_self
    have ih := flat_set (css := css) i (c := c) (fun e he => h e (List.mem_cons_of_mem _ he)) (by simpa using hi) hc
    rw [List.set_cons_succ, List.flatten_cons, List.flatten_cons, ih, show (i + 1) * n = d.length + i * n by rw [hd, Nat.succ_mul, Nat.add_comm], List.take_length_add_append, Nat.add_assoc, List.drop_length_add_append, List.append_assoc]
theorem splice_get {cur cs : List Value} {o : Nat} (h : o + cs.length ≤ cur.length) (i : Nat) : (splice cur o cs)[i]? = if o ≤ i ∧ i < o + cs.length then cs[i - o]? else cur[i]? := by
  rw [splice_eq]
  have q : (cur.take o).length = o := by rw [List.length_take]; omega
  rcases Nat.lt_or_ge i o with hi | hi
  · rw [List.getElem?_append_left (by omega), List.getElem?_take, if_pos hi, if_neg (by omega)]
  · rw [List.getElem?_append_right (by omega), q]
    rcases Nat.lt_or_ge (i - o) cs.length with h2 | h2
    · rw [List.getElem?_append_left h2, if_pos (by omega)]
    · rw [List.getElem?_append_right h2, List.getElem?_drop, if_neg (by omega)]
      congr 1
      omega
theorem take_splice {cur cs : List Value} {o N : Nat} (h : o + cs.length ≤ N) (hN : N ≤ cur.length) : (splice cur o cs).take N = splice (cur.take N) o cs := by
  apply List.ext_getElem?
  intro i
  rw [List.getElem?_take, splice_get (by omega), splice_get (by rw [List.length_take]; omega), List.getElem?_take]
  by_cases h1 : i < N
  · rw [if_pos h1, if_pos h1]
  · rw [if_neg h1, if_neg h1, if_neg (by omega)]
/-! ### What stood stands but for these blocks -/
abbrev In (B T : Nat) : Nat → Prop := fun b => B ≤ b ∧ b < T
structure Mod (S : Nat → Prop) (w w' : World) : Prop where
  os : w'.os = w.os
  tape : w'.tape = w.tape
  output : w'.output = w.output
  size : w.heap.size ≤ w'.heap.size
  blk : ∀ b, b < w.heap.size → ¬ S b → hp w' b = hp w b
theorem Mod.tr {S : Nat → Prop} {a b c : World} (h : Mod S a b) (k : Mod S b c) : Mod S a c :=
  ⟨k.os.trans h.os, k.tape.trans h.tape, k.output.trans h.output, Nat.le_trans h.size k.size, fun x hx hg => (k.blk x (Nat.lt_of_lt_of_le hx h.size) hg).trans (h.blk x hx hg)⟩
theorem Mod.of {a b : World} (h : Ext a b) (S : Nat → Prop) : Mod S a b := ⟨h.os, h.tape, h.output, h.size, fun x hx _ => h.blk hx⟩
theorem Mod.ext {S : Nat → Prop} {a b : World} (h : Mod S a b) (k : ∀ x, x < a.heap.size → ¬ S x) : Ext a b := ⟨h.os, h.tape, h.output, h.size, fun x hx => h.blk x hx (k x hx)⟩
/-- What follows changes only what is new. -/
theorem Mod.after {S : Nat → Prop} {a b c : World} (h : Ext a b) (k : Mod S b c) (hS : ∀ x, x < a.heap.size → ¬ S x) : Ext a c :=
  ⟨k.os.trans h.os, k.tape.trans h.tape, k.output.trans h.output, Nat.le_trans h.size k.size, fun x hx => (k.blk x (Nat.lt_of_lt_of_le hx h.size) (hS x hx)).trans (h.blk hx)⟩
theorem Mod.after' {S S' : Nat → Prop} {a b c : World} (h : Mod S a b) (k : Mod S' b c) (hS : ∀ x, x < a.heap.size → S' x → S x) : Mod S a c :=
  ⟨k.os.trans h.os, k.tape.trans h.tape, k.output.trans h.output, Nat.le_trans h.size k.size, fun x hx hn => (k.blk x (Nat.lt_of_lt_of_le hx h.size) fun hs => hn (hS x hx hs)).trans (h.blk x hx hn)⟩
theorem Mod.rfl {S : Nat → Prop} {a : World} : Mod S a a := Mod.of Ext.rfl S
theorem Mod.set (w : World) (g : Nat) (cs : Array Value) : Mod (fun b => b = g) w (w.setRow g cs) := ⟨by rfl, by rfl, by rfl, by simp, fun b _ hb => hp_set_ne hb⟩
theorem Mod.alloc (S : Nat → Prop) (w : World) (o : Obj) : Mod S w (w.alloc o) := Mod.of (Ext.alloc w o) S
theorem Mod.dw (S : Nat → Prop) (w : World) : Mod S w (dw w) := Mod.of (dw_ext w) S
/-! ### Kinds of data -/
structure Lay (α : Type) where
  n : Nat
  lay : Bool → World → List Value → α → List Nat → Prop
  len : ∀ {o w cs a bs}, lay o w cs a bs → cs.length = n
  one : ∀ {o w cs a bs}, lay o w cs a bs → cs.all Value.oneCell' = true
  lt : ∀ {o w cs a bs}, lay o w cs a bs → ∀ b ∈ bs, b < w.heap.size
  keep : ∀ {o w w' cs a bs}, lay o w cs a bs → (∀ b ∈ bs, hp w' b = hp w b) → lay o w' cs a bs
  read : ∀ {w cs a bs}, lay true w cs a bs → ∃ bs', lay false w cs a bs' ∧ ∀ b ∈ bs', b ∈ bs
section
variable {α β : Type}
/-- Read in blocks of S. -/
def D (L : Lay α) (S : Nat → Prop) (w : World) (cs : List Value) (a : α) : Prop := ∃ bs, L.lay false w cs a bs ∧ ∀ b ∈ bs, S b
/-- Owned, in blocks of S. -/
def O (L : Lay α) (S : Nat → Prop) (w : World) (cs : List Value) (a : α) : Prop := ∃ bs, L.lay true w cs a bs ∧ bs.Nodup ∧ ∀ b ∈ bs, S b
variable {L : Lay α} {S S' : Nat → Prop} {w w' : World} {cs : List Value} {a : α}
theorem D.keep (h : D L S w cs a) (k : ∀ b, S b → b < w.heap.size → hp w' b = hp w b) : D L S w' cs a := by
  obtain ⟨bs, h1, h2⟩ := h
  exact ⟨bs, L.keep h1 fun b hb => k b (h2 b hb) (L.lt h1 b hb), h2⟩
theorem O.keep (h : O L S w cs a) (k : ∀ b, S b → b < w.heap.size → hp w' b = hp w b) : O L S w' cs a := by
  obtain ⟨bs, h1, h2, h3⟩ := h
  exact ⟨bs, L.keep h1 fun b hb => k b (h3 b hb) (L.lt h1 b hb), h2, h3⟩
theorem D.wide (h : D L S w cs a) (k : ∀ b, S b → b < w.heap.size → S' b) : D L S' w cs a := by
  obtain ⟨bs, h1, h2⟩ := h
  exact ⟨bs, h1, fun b hb => k b (h2 b hb) (L.lt h1 b hb)⟩
theorem O.wide (h : O L S w cs a) (k : ∀ b, S b → b < w.heap.size → S' b) : O L S' w cs a := by
  obtain ⟨bs, h1, h2, h3⟩ := h
  exact ⟨bs, h1, h2, fun b hb => k b (h3 b hb) (L.lt h1 b hb)⟩
theorem O.d (h : O L S w cs a) : D L S w cs a := by
  obtain ⟨bs, h1, _, h3⟩ := h
  obtain ⟨bs', h4, h5⟩ := L.read h1
  exact ⟨bs', h4, fun b hb => h3 b (h5 b hb)⟩
theorem D.len (h : D L S w cs a) : cs.length = L.n := by obtain ⟨bs, h1, _⟩ := h; exact L.len h1
theorem O.len (h : O L S w cs a) : cs.length = L.n := h.d.len
theorem D.one (h : D L S w cs a) : cs.all Value.oneCell' = true := by obtain ⟨bs, h1, _⟩ := h; exact L.one h1
theorem O.one (h : O L S w cs a) : cs.all Value.oneCell' = true := h.d.one
theorem O.lt (h : O L S w cs a) : O L (fun b => S b ∧ b < w.heap.size) w cs a := h.wide fun b h1 h2 => ⟨h1, h2⟩
theorem D.lt (h : D L S w cs a) : D L (fun b => S b ∧ b < w.heap.size) w cs a := h.wide fun b h1 h2 => ⟨h1, h2⟩
theorem D.ext (h : D L S w cs a) (k : Ext w w') : D L S w' cs a := h.keep fun b _ hb => k.blk hb
theorem O.ext (h : O L S w cs a) (k : Ext w w') : O L S w' cs a := h.keep fun b _ hb => k.blk hb
def LInt : Lay Int where
  n := 1
  lay _ _ cs a bs := cs = [i64 a] ∧ bs = []
  len := by rintro o w cs a bs ⟨rfl, rfl⟩; rfl
  one := by rintro o w cs a bs ⟨rfl, rfl⟩; rfl
  lt := by rintro o w cs a bs ⟨rfl, rfl⟩; simp
  keep := fun h _ => h
  read := fun h => ⟨_, h, fun _ h => h⟩
def LStr : Lay ByteArray where
  n := 1
  lay _ _ cs a bs := cs = [.string a] ∧ a.size ≤ 140737488351232 ∧ bs = []
  len := by rintro o w cs a bs ⟨rfl, _, rfl⟩; rfl
  one := by rintro o w cs a bs ⟨rfl, _, rfl⟩; rfl
  lt := by rintro o w cs a bs ⟨rfl, _, rfl⟩; simp
  keep := fun h _ => h
  read := fun h => ⟨_, h, fun _ h => h⟩
def LBool : Lay Bool where
  n := 1
  lay _ _ cs a bs := cs = [.bool a] ∧ bs = []
  len := by rintro o w cs a bs ⟨rfl, rfl⟩; rfl
  one := by rintro o w cs a bs ⟨rfl, rfl⟩; rfl
  lt := by rintro o w cs a bs ⟨rfl, rfl⟩; simp
  keep := fun h _ => h
  read := fun h => ⟨_, h, fun _ h => h⟩
def LTag : Lay Tag where
  n := 2
  lay _ _ cs a bs := cs = tagC a ∧ bs = []
  len := by rintro o w cs a bs ⟨rfl, rfl⟩; rfl
  one := by rintro o w cs a bs ⟨rfl, rfl⟩; rfl
  lt := by rintro o w cs a bs ⟨rfl, rfl⟩; simp
  keep := fun h _ => h
  read := fun h => ⟨_, h, fun _ h => h⟩
def LPair (L : Lay α) (M : Lay β) : Lay (α × β) where
  n := L.n + M.n
  lay o w cs a bs := ∃ c d b1 b2, cs = c ++ d ∧ L.lay o w c a.1 b1 ∧ M.lay o w d a.2 b2 ∧ bs = b1 ++ b2
  len := by rintro o w cs a bs ⟨c, d, b1, b2, rfl, h1, h2, rfl⟩; rw [List.length_append, L.len h1, M.len h2]
  one := by rintro o w cs a bs ⟨c, d, b1, b2, rfl, h1, h2, rfl⟩; rw [List.all_append, L.one h1, M.one h2]; rfl
  lt := by
    rintro o w cs a bs ⟨c, d, b1, b2, rfl, h1, h2, rfl⟩ b hb
    rcases List.mem_append.1 hb with hb | hb
    · exact L.lt h1 b hb
    · exact M.lt h2 b hb
  keep := by
    rintro o w w' cs a bs ⟨c, d, b1, b2, rfl, h1, h2, rfl⟩ k
    exact ⟨c, d, b1, b2, rfl, L.keep h1 fun b hb => k b (List.mem_append_left _ hb), M.keep h2 fun b hb => k b (List.mem_append_right _ hb), rfl⟩
  read := by
    rintro w cs a bs ⟨c, d, b1, b2, rfl, h1, h2, rfl⟩
    obtain ⟨b3, h3, h4⟩ := L.read h1
    obtain ⟨b5, h5, h6⟩ := M.read h2
    refine ⟨b3 ++ b5, ⟨c, d, b3, b5, rfl, h3, h5, rfl⟩, fun b hb => ?_⟩
    rcases List.mem_append.1 hb with hb | hb
    · exact List.mem_append_left _ (h4 b hb)
    · exact List.mem_append_right _ (h6 b hb)
def LMap (L : Lay α) (f : β → α) : Lay β where
  n := L.n
  lay o w cs b bs := L.lay o w cs (f b) bs
  len h := L.len h
  one h := L.one h
  lt h := L.lt h
  keep h := L.keep h
  read h := L.read h
theorem D.map {f : β → α} {b : β} : D (LMap L f) S w cs b = D L S w cs (f b) := rfl
theorem O.map {f : β → α} {b : β} : O (LMap L f) S w cs b = O L S w cs (f b) := rfl
theorem D.pair {M : Lay β} {p : α × β} : D (LPair L M) S w cs p ↔ ∃ c d, cs = c ++ d ∧ D L S w c p.1 ∧ D M S w d p.2 := by
  constructor
  · rintro ⟨bs, ⟨c, d, b1, b2, rfl, h1, h2, rfl⟩, hS⟩
    exact ⟨c, d, rfl, ⟨b1, h1, fun b hb => hS b (List.mem_append_left _ hb)⟩, ⟨b2, h2, fun b hb => hS b (List.mem_append_right _ hb)⟩⟩
  · rintro ⟨c, d, rfl, ⟨b1, h1, s1⟩, ⟨b2, h2, s2⟩⟩
    refine ⟨_, ⟨c, d, b1, b2, rfl, h1, h2, rfl⟩, fun b hb => ?_⟩
    rcases List.mem_append.1 hb with hb | hb
    · exact s1 b hb
    · exact s2 b hb
/-- Two owned things, apart. -/
theorem O.pair {M : Lay β} {p : α × β} {c d : List Value} {S1 S2 : Nat → Prop} (h1 : O L S1 w c p.1) (h2 : O M S2 w d p.2) (hd : ∀ b, b < w.heap.size → S1 b → ¬ S2 b) : O (LPair L M) (fun b => S1 b ∨ S2 b) w (c ++ d) p := by
  obtain ⟨b1, h1, n1, s1⟩ := h1
  obtain ⟨b2, h2, n2, s2⟩ := h2
  refine ⟨_, ⟨c, d, b1, b2, rfl, h1, h2, rfl⟩, ?_, fun b hb => ?_⟩
  · rw [List.nodup_append]
    refine ⟨n1, n2, fun x hx y hy e => ?_⟩
    subst e
    exact hd x (L.lt h1 x hx) (s1 x hx) (s2 x hy)
  · rcases List.mem_append.1 hb with hb | hb
    · exact .inl (s1 b hb)
    · exact .inr (s2 b hb)
theorem O.unpair {M : Lay β} {p : α × β} (h : O (LPair L M) S w cs p) : ∃ c d S1 S2, cs = c ++ d ∧ O L S1 w c p.1 ∧ O M S2 w d p.2 ∧ (∀ b, S1 b → S b ∧ ¬ S2 b ∧ b < w.heap.size) ∧ (∀ b, S2 b → S b ∧ ¬ S1 b ∧ b < w.heap.size) := by
  obtain ⟨bs, ⟨c, d, b1, b2, rfl, h1, h2, rfl⟩, hn, hS⟩ := h
  rw [List.nodup_append] at hn
  exact ⟨c, d, (· ∈ b1), (· ∈ b2), rfl, ⟨b1, h1, hn.1, fun b hb => hb⟩, ⟨b2, h2, hn.2.1, fun b hb => hb⟩, fun b hb => ⟨hS b (List.mem_append_left _ hb), fun h => hn.2.2 b hb b h rfl, L.lt h1 b hb⟩,
    fun b hb => ⟨hS b (List.mem_append_right _ hb), fun h => hn.2.2 b h b hb rfl, M.lt h2 b hb⟩⟩
theorem D.int {n : Int} : D LInt S w cs n ↔ cs = [i64 n] := ⟨fun ⟨_, h, _⟩ => h.1, fun h => ⟨[], ⟨h, rfl⟩, by simp⟩⟩
theorem D.str {n : ByteArray} : D LStr S w cs n ↔ cs = [.string n] ∧ n.size ≤ 140737488351232 := ⟨fun ⟨_, h, _⟩ => ⟨h.1, h.2.1⟩, fun h => ⟨[], ⟨h.1, h.2, rfl⟩, by simp⟩⟩
theorem D.bool {n : Bool} : D LBool S w cs n ↔ cs = [.bool n] := ⟨fun ⟨_, h, _⟩ => h.1, fun h => ⟨[], ⟨h, rfl⟩, by simp⟩⟩
theorem D.tag {n : Tag} : D LTag S w cs n ↔ cs = tagC n := ⟨fun ⟨_, h, _⟩ => h.1, fun h => ⟨[], ⟨h, rfl⟩, by simp⟩⟩
theorem O.int {n : Int} : O LInt S w cs n ↔ cs = [i64 n] := ⟨fun ⟨_, h, _⟩ => h.1, fun h => ⟨[], ⟨h, rfl⟩, by simp, by simp⟩⟩
theorem O.str {n : ByteArray} : O LStr S w cs n ↔ cs = [.string n] ∧ n.size ≤ 140737488351232 := ⟨fun ⟨_, h, _⟩ => ⟨h.1, h.2.1⟩, fun h => ⟨[], ⟨h.1, h.2, rfl⟩, by simp, by simp⟩⟩
theorem O.bool {n : Bool} : O LBool S w cs n ↔ cs = [.bool n] := ⟨fun ⟨_, h, _⟩ => h.1, fun h => ⟨[], ⟨h, rfl⟩, by simp, by simp⟩⟩
theorem O.tag {n : Tag} : O LTag S w cs n ↔ cs = tagC n := ⟨fun ⟨_, h, _⟩ => h.1, fun h => ⟨[], ⟨h, rfl⟩, by simp, by simp⟩⟩
def rowB (s : Value) {α : Type} : List α → List Nat
  | [] => []
  | _ :: _ => (blkOf s).toList
def LList (E : TypeId) (mx : Nat) (L : Lay α) : Lay (List α) where
  n := 1
  lay o w cs xs bs := ∃ s css bss, cs = [s] ∧ All3 (L.lay o w) css xs bss ∧ xs.length ≤ mx ∧ (match o with
    | false => Sl w s xs.length css.flatten ∧ (∀ b ∈ rowB s xs, b < w.heap.size) ∧ bs = rowB s xs ++ bss.flatten
    | true => Own w 0 E L.n s xs.length css.flatten ∧ bs = (blkOf s).toList ++ bss.flatten)
  len := by rintro o w cs a bs ⟨s, css, bss, rfl, _⟩; rfl
  one := by
    rintro o w cs a bs ⟨s, css, bss, rfl, _, _, h⟩
    cases o with
    | false => obtain ⟨⟨a, c, rfl, _⟩, _⟩ := h; cases a <;> rfl
    | true =>
      obtain ⟨⟨_, _, h⟩, _⟩ := h
      rcases h with ⟨rfl, _⟩ | ⟨g, cap, cur, rfl, _⟩ <;> rfl
  lt := by
    rintro o w cs a bs ⟨s, css, bss, rfl, h3, _, h⟩ b hb
    have hf : b ∈ bss.flatten → b < w.heap.size := by
      intro hb
      obtain ⟨l, hl, hb⟩ := List.mem_flatten.1 hb
      obtain ⟨x, _, c, _, h⟩ := h3.mem3 l hl
      exact L.lt h b hb
    cases o with
    | false =>
      obtain ⟨_, h1, rfl⟩ := h
      rcases List.mem_append.1 hb with hb | hb
      · exact h1 b hb
      · exact hf hb
    | true =>
      obtain ⟨h1, rfl⟩ := h
      rcases List.mem_append.1 hb with hb | hb
      · exact (h1.lt (g := b) (by simpa using hb)).2.1
      · exact hf hb
  keep := by
    rintro o w w' cs a bs ⟨s, css, bss, rfl, h3, hm, h⟩ k
    have hk : (∀ b ∈ bss.flatten, hp w' b = hp w b) → All3 (L.lay o w') css a bss := fun k => h3.imp fun x y z _ _ hz h => L.keep h fun b hb => k b (List.mem_flatten.2 ⟨z, hz, hb⟩)
    cases o with
    | false =>
      obtain ⟨h1, h2, rfl⟩ := h
      refine ⟨s, css, bss, rfl, hk fun b hb => k b (List.mem_append_right _ hb), hm, ?_, ?_, rfl⟩
      · cases a with
        | nil =>
          obtain ⟨a, c, h4, h5, h6⟩ := h1
          have : css = [] := by have := h3.length.1; exact List.eq_nil_of_length_eq_zero this
          subst this
          exact ⟨a, c, h4, h5, .inl rfl⟩
        | cons x xs => exact h1.keep fun b hb => k b (List.mem_append_left _ hb)
      · intro b hb
        have h7 := k b (List.mem_append_left _ hb)
        have h8 := h2 b hb
        rcases Nat.lt_or_ge b w'.heap.size with h' | h'
        · exact h'
        · rw [hp, Array.getElem?_eq_none h', hp] at h7
          exact absurd (Array.getElem?_eq_none_iff.1 h7.symm) (by omega)
    | true =>
      obtain ⟨h1, rfl⟩ := h
      exact ⟨s, css, bss, rfl, hk fun b hb => k b (List.mem_append_right _ hb), hm, h1.keep fun g hg => k g (List.mem_append_left _ (by simp [hg])), rfl⟩
  read := by
    rintro w cs a bs ⟨s, css, bss, rfl, h3, hm, h1, rfl⟩
    have : ∀ {css : List (List Value)} {a : List α} {bss : List (List Nat)}, All3 (L.lay true w) css a bss → ∃ bss', All3 (L.lay false w) css a bss' ∧ ∀ b ∈ bss'.flatten, b ∈ bss.flatten := by
      intro css a bss h
      refine All3.ind (M := fun css a bss => ∃ bss', All3 (L.lay false w) css a bss' ∧ ∀ b ∈ bss'.flatten, b ∈ bss.flatten) ⟨[], trivial, by simp⟩ ?_ h
      rintro c css x xs b bss h1 _ ⟨bss', h2, h3⟩
      obtain ⟨b', h4, h5⟩ := L.read h1
      refine ⟨b' :: bss', ⟨h4, h2⟩, fun y hy => ?_⟩
      rw [List.flatten_cons, List.mem_append] at hy ⊢
      exact hy.imp (h5 y) (h3 y)
    obtain ⟨bss', h4, h5⟩ := this h3
    have hr : ∀ b ∈ rowB s a, b ∈ (blkOf s).toList := by
      intro b hb
      cases a with
      | nil => simp [rowB] at hb
      | cons x xs => exact hb
    refine ⟨_, ⟨s, css, bss', rfl, h4, hm, h1.sl, fun b hb => (h1.lt (g := b) (by simpa using hr b hb)).2.1, rfl⟩, fun b hb => ?_⟩
    rw [List.mem_append] at hb ⊢
    exact hb.imp (hr b) (h5 b)
variable {E mx : Nat}
theorem D.sl {s : Value} {xs : List α} (h : D (LList E mx L) S w [s] xs) : ∃ a c, s = .slice a xs.length c ∧ xs.length ≤ mx ∧ xs.length ≤ 9223372036854775807 := by
  obtain ⟨bs, ⟨s', css, bss, he, h3, hm, ⟨a, c, h1, h2, _⟩, _⟩, _⟩ := h
  obtain rfl : s = s' := by simpa using he
  exact ⟨a, c, h1, hm, h2⟩
theorem D.sl' {t : List Value} {xs : List α} (h : D (LList E mx L) S w t xs) : ∃ a c, t = [.slice a xs.length c] ∧ D (LList E mx L) S w [.slice a xs.length c] xs := by
  obtain ⟨bs, ⟨s', css, bss, rfl, h3, hm, ⟨a, c, rfl, h2, h4⟩, h5⟩, h6⟩ := h
  exact ⟨a, c, rfl, bs, ⟨_, css, bss, rfl, h3, hm, ⟨a, c, rfl, h2, h4⟩, h5⟩, h6⟩
theorem O.sl' {t : List Value} {xs : List α} (h : O (LList E mx L) S w t xs) : ∃ a c, t = [.slice a xs.length c] ∧ O (LList E mx L) S w [.slice a xs.length c] xs := by
  obtain ⟨a, c, rfl, _⟩ := h.d.sl'
  exact ⟨a, c, rfl, h⟩
theorem D.n {a : Option Addr} {n c : Nat} {xs : List α} (h : D (LList E mx L) S w [.slice a n c] xs) : n = xs.length ∧ xs.length ≤ mx ∧ xs.length ≤ 9223372036854775807 := by
  obtain ⟨a', c', h1, h2⟩ := h.sl
  simp only [Value.slice.injEq] at h1
  exact ⟨h1.2.1, h2⟩
theorem O.n {a : Option Addr} {n c : Nat} {xs : List α} (h : O (LList E mx L) S w [.slice a n c] xs) : n = xs.length ∧ xs.length ≤ mx ∧ xs.length ≤ 9223372036854775807 := h.d.n
theorem D.at {a : Option Addr} {n c : Nat} {xs : List α} (h : D (LList E mx L) S w [.slice a n c] xs) (h0 : 0 < L.n) {i : Nat} {x : α} (hi : xs[i]? = some x) :
    ∃ b o cs, a = some ⟨b, o, none⟩ ∧ At w b (o + i * L.n) cs ∧ D L S w cs x ∧ S b ∧ b < w.heap.size := by
  obtain ⟨bs, ⟨s', css, bss, he, h3, hm, h1, h2, rfl⟩, hS⟩ := h
  obtain ⟨rfl⟩ : .slice a n c = s' := by simpa using he
  obtain ⟨cs, bl, h4, h5, h6⟩ := h3.get hi
  obtain ⟨b, o, c', h7, h8⟩ := Sl.at h1 (fun c hc => by obtain ⟨x, _, z, _, h⟩ := h3.mem1 c hc; exact L.len h) h0 h4
  simp only [Value.slice.injEq] at h7
  obtain ⟨rfl, _⟩ := h7
  have hb : b ∈ rowB (.slice (some ⟨b, o, none⟩) n c) xs := by
    cases xs with
    | nil => simp at hi
    | cons y ys => simp [rowB, blkOf]
  exact ⟨b, o, cs, rfl, h8, ⟨bl, h6, fun b hb => hS b (List.mem_append_right _ (List.mem_flatten.2 ⟨bl, List.mem_of_getElem? h5, hb⟩))⟩, hS b (List.mem_append_left _ hb), h2 b hb⟩
theorem D.nil (a : Option Addr) (c : Nat) : D (LList E mx L) S w [.slice a 0 c] ([] : List α) :=
  ⟨[], ⟨_, [], [], rfl, trivial, by simp, ⟨a, c, rfl, by simp, .inl rfl⟩, by simp [rowB], rfl⟩, by simp⟩
theorem O.nil : O (LList E mx L) S w [.slice none 0 0] ([] : List α) :=
  ⟨[], ⟨_, [], [], rfl, trivial, by simp, Own.nil _ _ _ _, rfl⟩, by simp, by simp⟩
/-- Owned elements, apart. -/
def Els (L : Lay α) (S : Nat → Prop) (w : World) (css : List (List Value)) (xs : List α) : Prop := ∃ bss, All3 (L.lay true w) css xs bss ∧ bss.flatten.Nodup ∧ ∀ b ∈ bss.flatten, S b
theorem Els.lay {css : List (List Value)} {xs : List α} (h : Els L S w css xs) : css.length = xs.length ∧ ∀ c ∈ css, c.length = L.n := by
  obtain ⟨bss, h3, _⟩ := h
  exact ⟨h3.length.1, fun c hc => by obtain ⟨x, _, z, _, h⟩ := h3.mem1 c hc; exact L.len h⟩
theorem Els.ones {css : List (List Value)} {xs : List α} (h : Els L S w css xs) : css.flatten.all Value.oneCell' = true := by
  obtain ⟨bss, h3, _⟩ := h
  rw [List.all_eq_true]
  intro v hv
  obtain ⟨c, hc, hv⟩ := List.mem_flatten.1 hv
  obtain ⟨x, _, z, _, h⟩ := h3.mem1 c hc
  exact List.all_eq_true.1 (L.one h) v hv
theorem els_lt {css : List (List Value)} {xs : List α} {bss : List (List Nat)} {o : Bool} (h3 : All3 (L.lay o w) css xs bss) : ∀ b ∈ bss.flatten, b < w.heap.size := fun b hb => by
  obtain ⟨l, hl, hb⟩ := List.mem_flatten.1 hb
  obtain ⟨x, _, c, _, h⟩ := h3.mem3 l hl
  exact L.lt h b hb
theorem Els.keep {css : List (List Value)} {xs : List α} (h : Els L S w css xs) (k : ∀ b, S b → b < w.heap.size → hp w' b = hp w b) : Els L S w' css xs := by
  obtain ⟨bss, h3, hn, hS⟩ := h
  exact ⟨bss, h3.imp fun p q r _ _ hr h => L.keep h fun b hb => by
    have := List.mem_flatten.2 ⟨r, hr, hb⟩
    exact k b (hS b this) (els_lt h3 b this), hn, hS⟩
theorem Els.wide {css : List (List Value)} {xs : List α} (h : Els L S w css xs) (k : ∀ b, S b → b < w.heap.size → S' b) : Els L S' w css xs := by
  obtain ⟨bss, h3, hn, hS⟩ := h
  exact ⟨bss, h3, hn, fun b hb => k b (hS b hb) (els_lt h3 b hb)⟩
theorem Els.nil : Els L S w [] [] := ⟨[], trivial, by simp, by simp⟩
theorem Els.one {x : α} (h : O L S w cs x) : Els L S w [cs] [x] := by
  obtain ⟨bs, h1, h2, h3⟩ := h
  exact ⟨[bs], ⟨h1, trivial⟩, by simpa using h2, by simpa using h3⟩
theorem Els.app {c1 c2 : List (List Value)} {x1 x2 : List α} {S1 S2 : Nat → Prop} (h1 : Els L S1 w c1 x1) (h2 : Els L S2 w c2 x2) (hd : ∀ b, b < w.heap.size → S1 b → ¬ S2 b) : Els L (fun b => S1 b ∨ S2 b) w (c1 ++ c2) (x1 ++ x2) := by
  obtain ⟨b1, h3, n1, s1⟩ := h1
  obtain ⟨b2, h4, n2, s2⟩ := h2
  refine ⟨b1 ++ b2, All3.app h3 h4, ?_, fun b hb => ?_⟩
  · rw [List.flatten_append, List.nodup_append]
    refine ⟨n1, n2, fun p hp q hq e => ?_⟩
    subst e
    exact hd p (els_lt h3 p hp) (s1 p hp) (s2 p hq)
  · rw [List.flatten_append] at hb
    rcases List.mem_append.1 hb with hb | hb
    · exact .inl (s1 b hb)
    · exact .inr (s2 b hb)
theorem O.un {s : Value} {xs : List α} (h : O (LList E mx L) S w [s] xs) : ∃ css, Own w 0 E L.n s xs.length css.flatten ∧ Els L (fun b => S b ∧ b ∉ (blkOf s).toList ∧ b < w.heap.size) w css xs ∧ (∀ b ∈ (blkOf s).toList, S b ∧ b < w.heap.size) ∧ xs.length ≤ mx := by
  obtain ⟨bs, ⟨s', css, bss, he, h3, hm, h1, rfl⟩, hn, hS⟩ := h
  obtain rfl : s = s' := by simpa using he
  rw [List.nodup_append] at hn
  exact ⟨css, h1, ⟨bss, h3, hn.2.1, fun b hb => ⟨hS b (List.mem_append_right _ hb), fun h => hn.2.2 b h b hb rfl, els_lt h3 b hb⟩⟩, fun b hb => ⟨hS b (List.mem_append_left _ hb), (h1.lt (g := b) (by simpa using hb)).2.1⟩, hm⟩
theorem O.mk {s : Value} {xs : List α} {css : List (List Value)} {S1 : Nat → Prop} (h1 : Own w 0 E L.n s xs.length css.flatten) (h2 : Els L S1 w css xs) (hd : ∀ b ∈ (blkOf s).toList, ¬ S1 b) (hm : xs.length ≤ mx) : O (LList E mx L) (fun b => S1 b ∨ b ∈ (blkOf s).toList) w [s] xs := by
  obtain ⟨bss, h3, hn, hS⟩ := h2
  refine ⟨_, ⟨s, css, bss, rfl, h3, hm, h1, rfl⟩, ?_, fun b hb => ?_⟩
  · rw [List.nodup_append]
    refine ⟨by cases blkOf s <;> simp, hn, fun p hp q hq e => ?_⟩
    subst e
    exact hd p hp (hS p hq)
  · rcases List.mem_append.1 hb with hb | hb
    · exact .inr hb
    · exact .inl (hS b hb)
/-- Elements behind one another. -/
theorem O.apps {P : Program} {t ty y : Nat} (hE : elB P t = some (E, L.n, y)) {z : List Value} (hz : zeroB P E = some z) (hzs : z.length = L.n) (h0 : 0 < L.n) {sv : Value} {xs ys : List α} {css : List (List Value)} {S1 : Nat → Prop} {b o m c : Nat}
    (ho : O (LList E mx L) S w [sv] xs) (hx : Els L S1 w css ys) (hd : ∀ b, b < w.heap.size → S b → ¬ S1 b) (hA : At w b o css.flatten) (hm : m = ys.length) (hm0 : 0 < m) (hl : xs.length + m ≤ mx) (hy : mx * y ≤ 140737488355328) (hm2 : mx ≤ 140737488355328) :
    Ret (b_append P #[t, t] ty #[sv, .slice (some ⟨b, o, none⟩) m c] w) fun r => ∃ a' c', r.1 = .slice a' (xs.length + m) c' ∧
      O (LList E mx L) (fun b => S b ∨ S1 b ∨ (w.heap.size ≤ b ∧ b < r.2.heap.size)) r.2 [r.1] (xs ++ ys) ∧ Mod S w r.2 := by
  obtain ⟨c0, h1, h2, h3, hmx⟩ := ho.un
  obtain ⟨l1, l2⟩ := hx.lay
  have hb1 : (xs.length + m) * y ≤ mx * y := Nat.mul_le_mul_right _ hl
  refine Ret.mono (app_own hE hz hzs h0 h1 (Nat.zero_le _) hA (by rw [sum_flat l2, l1, hm]) hx.ones (by omega) (by omega) hm0) ?_
  rintro ⟨s1, w1⟩ ⟨h4, h5, h6⟩
  dsimp only at *
  have hg : ∀ b, b < w.heap.size → b ∉ (blkOf sv).toList → hp w1 b = hp w b := fun b hb hn => h5.blk b hb fun e => hn (by simp [e])
  obtain ⟨a', c', e1, _⟩ := h4.at
  have k1 := h2.keep (w' := w1) fun b hb hs => hg b hs hb.2.1
  have k2 := hx.keep (w' := w1) fun b hb hs => hg b hs fun h => hd b hs (h3 b h).1 hb
  have k2' : Els L (fun b => S1 b ∧ b < w.heap.size) w1 css ys := by
    obtain ⟨bss, q1, q2, q3⟩ := hx
    exact ⟨bss, q1.imp fun p q r _ _ hr h => L.keep h fun b hb => by
      have hb' := List.mem_flatten.2 ⟨r, hr, hb⟩
      exact hg b (els_lt q1 b hb') fun h => hd b (els_lt q1 b hb') (h3 b h).1 (q3 b hb'), q2, fun b hb => ⟨q3 b hb, els_lt q1 b hb⟩⟩
  have k3 := k1.app k2' fun b _ hb hb2 => hd b hb.2.2 hb.1 hb2.1
  have k4 : ∀ b ∈ (blkOf s1).toList, ¬ ((S b ∧ b ∉ (blkOf sv).toList ∧ b < w.heap.size) ∨ (S1 b ∧ b < w.heap.size)) := by
    intro b hb hn
    rcases h6 with h6 | ⟨g, h6, h7, _⟩
    · rw [h6] at hb
      rcases hn with hn | hn
      · exact hn.2.1 hb
      · exact hd b hn.2 (h3 b hb).1 hn.1
    · rw [h6] at hb
      simp only [Option.toList_some, List.mem_singleton] at hb
      omega
  refine ⟨a', c', e1, (O.mk (mx := mx) (css := c0 ++ css) (xs := xs ++ ys) ?_ k3 k4 (by rw [List.length_append]; omega)).wide ?_, ?_⟩
  · rw [List.flatten_append, List.length_append, ← hm]; exact h4
  · intro b hb hs
    rcases hb with (hb | hb) | hb
    · exact .inl hb.1
    · exact .inr (.inl hb.1)
    · rcases h6 with h6 | ⟨g, h6, h7, h8⟩
      · rw [h6] at hb; exact .inl (h3 b hb).1
      · rw [h6] at hb
        simp only [Option.toList_some, List.mem_singleton] at hb
        subst hb
        exact .inr (.inr ⟨h7, h8⟩)
  · exact ⟨h5.os, h5.tape, h5.output, h5.size, fun b hb hn => h5.blk b hb fun e => hn (h3 b (by simp [e])).1⟩
theorem O.app {P : Program} {t ty y : Nat} (hE : elB P t = some (E, L.n, y)) {z : List Value} (hz : zeroB P E = some z) (hzs : z.length = L.n) (h0 : 0 < L.n) {sv : Value} {xs : List α} {x : α} {S1 : Nat → Prop} {b o c : Nat}
    (ho : O (LList E mx L) S w [sv] xs) (hx : O L S1 w cs x) (hd : ∀ b, b < w.heap.size → S b → ¬ S1 b) (hA : At w b o cs) (hl : xs.length + 1 ≤ mx) (hy : mx * y ≤ 140737488355328) (hm2 : mx ≤ 140737488355328) :
    Ret (b_append P #[t, t] ty #[sv, .slice (some ⟨b, o, none⟩) 1 c] w) fun r => ∃ a' c', r.1 = .slice a' (xs.length + 1) c' ∧
      O (LList E mx L) (fun b => S b ∨ S1 b ∨ (w.heap.size ≤ b ∧ b < r.2.heap.size)) r.2 [r.1] (xs ++ [x]) ∧ Mod S w r.2 :=
  O.apps hE hz hzs h0 ho (Els.one hx) hd (by simpa using hA) rfl (by omega) hl hy hm2
/-- Element i of an owned row, taken out; and put back, changed. -/
theorem O.elem {a : Option Addr} {n c : Nat} {xs : List α} (h : O (LList E mx L) S w [.slice a n c] xs) (h0 : 0 < L.n) {i : Nat} {x : α} (hi : xs[i]? = some x) :
    ∃ g cur cs S1, a = some ⟨g, 0, none⟩ ∧ S g ∧ g < w.heap.size ∧ hp w g = some (.cells cur E (0, 0)) ∧ (i + 1) * L.n ≤ cur.size ∧ (cur.toList.drop (i * L.n)).take L.n = cs ∧ At w g (i * L.n) cs ∧ O L S1 w cs x ∧ (∀ b, S1 b → S b ∧ b ≠ g ∧ b < w.heap.size) ∧
      ∀ (w' : World) (cs' : List Value) (x' : α) (S2 : Nat → Prop), O L S2 w' cs' x' → hp w' g = some (.cells (splice cur.toList (i * L.n) cs').toArray E (0, 0)) → (∀ b, b < w.heap.size → S b → b ≠ g → ¬ S1 b → hp w' b = hp w b) →
        (∀ b, b < w'.heap.size → S2 b → S1 b ∨ ¬ (b < w.heap.size ∧ S b)) → O (LList E mx L) (fun b => S b ∨ S2 b) w' [.slice a n c] (xs.set i x') := by
  obtain ⟨bs, ⟨s', css, bss, he, h3, hm, h1, rfl⟩, hn, hS⟩ := h
  obtain rfl : .slice a n c = s' := by simpa using he
  obtain ⟨cs, bx, h4, h5, h6⟩ := h3.get hi
  have hil : i < xs.length := (List.getElem?_eq_some_iff.1 hi).1
  have hcl : ∀ c ∈ css, c.length = L.n := fun c hc => by obtain ⟨x, _, z, _, h⟩ := h3.mem1 c hc; exact L.len h
  obtain ⟨e1, e2, ho⟩ := h1
  rcases ho with ⟨_, hz⟩ | ⟨g, cap, cur, hs, hg, hh, hc, hcm, hcs, ht⟩
  · omega
  simp only [Value.slice.injEq] at hs
  obtain ⟨rfl, rfl, rfl⟩ := hs
  have hlen := h3.length
  have hfl := sum_flat hcl
  have him : (i + 1) * L.n ≤ xs.length * L.n := Nat.mul_le_mul_right _ hil
  have hcm2 : xs.length * L.n ≤ c * L.n := Nat.mul_le_mul_right _ hc
  have hgm : g ∈ (blkOf (.slice (some ⟨g, 0, none⟩) xs.length c)).toList := by simp [blkOf]
  have hAt : ∀ (j : Nat) v, cs[j]? = some v → cur.toList[i * L.n + j]? = some v := fun j v hv => by
    have h7 := flat_get css i cs hcl h4 j v hv
    rw [← ht, List.getElem?_take] at h7
    split at h7
    · exact h7
    · contradiction
  have hbx : ∀ b ∈ bx, b ∈ bss.flatten := fun b hb => List.mem_flatten.2 ⟨bx, List.mem_of_getElem? h5, hb⟩
  rw [List.nodup_append] at hn
  have hnf : (bss.flatMap id).Nodup := by simpa [List.flatMap] using hn.2.1
  have nbx : bx.Nodup := by
    obtain ⟨l1, l2, hl⟩ := List.append_of_mem (List.mem_of_getElem? h5)
    have := hn.2.1
    rw [hl, List.flatten_append, List.flatten_cons, List.nodup_append, List.nodup_append] at this
    exact this.2.1.1
  have hgl : g < w.heap.size := hp_lt hh
  refine ⟨g, cur, cs, (· ∈ bx), rfl, hS g (List.mem_append_left _ hgm), hgl, hh, by omega, ?_, fun j v hv => ?_, ⟨bx, h6, nbx, fun b hb => hb⟩, fun b hb => ⟨hS b (List.mem_append_right _ (hbx b hb)), fun e => hn.2.2 g hgm b (hbx b hb) e.symm, L.lt h6 b hb⟩, ?_⟩
  · apply List.ext_getElem?
    intro j
    have hcl' := hcl cs (List.mem_of_getElem? h4)
    rw [List.getElem?_take]
    rcases Nat.lt_or_ge j L.n with hj | hj
    · rw [if_pos hj, List.getElem?_drop, hAt j (cs[j]'(by omega)) (List.getElem?_eq_getElem (by omega)), List.getElem?_eq_getElem (by omega)]
    · rw [if_neg (by omega), List.getElem?_eq_none (by omega)]
  · rw [hh, cellO_some, ← nth_eq]; exact hAt j v hv
  · rintro w' cs' x' S2 ⟨b2, k1, k2, k3⟩ hw hk hdis
    have lcs' := L.len k1
    have hilb : i < bss.length := by omega
    have hilc : i < css.length := by omega
    have hkeep : All3 (L.lay true w') (css.set i cs') (xs.set i x') (bss.set i b2) := by
      have hq : ∀ {css : List (List Value)} {xs : List α} {bss : List (List Nat)} (i : Nat), All3 (L.lay true w) css xs bss → (∀ (j : Nat) (bl : List Nat), j ≠ i → bss[j]? = some bl → ∀ b ∈ bl, hp w' b = hp w b) → All3 (L.lay true w') (css.set i cs') (xs.set i x') (bss.set i b2) := by
        intro css
        induction css with
        | nil => intro xs bss i h _; cases xs <;> cases bss <;> first | exact h | exact h.elim
        | cons d css ih =>
          intro xs bss i h hb
          cases xs with
          | nil => exact h.elim
          | cons y xs =>
            cases bss with
            | nil => exact h.elim
            | cons e bss =>
              cases i with
              | zero => exact ⟨k1, h.2.imp fun p q r hp hq hr hl => L.keep hl fun b hbr => by
                  obtain ⟨j, hj⟩ := List.getElem?_of_mem hr
                  exact hb (j + 1) r (by omega) (by simpa using hj) b hbr⟩
              | succ i => exact ⟨L.keep h.1 fun b hbr => hb 0 e (by omega) rfl b hbr, ih i h.2 fun j bl hj hl b hbb => hb (j + 1) bl (by omega) (by simpa using hl) b hbb⟩
      refine hq i h3 fun j bl hj hl b hb => ?_
      have hbf : b ∈ bss.flatten := List.mem_flatten.2 ⟨bl, List.mem_of_getElem? hl, hb⟩
      refine hk b ?_ (hS b (List.mem_append_right _ hbf)) (fun e => hn.2.2 g hgm b hbf e.symm) fun hbb => flat_apart (f := id) hnf hl h5 hj b hb hbb
      obtain ⟨y, _, z, _, h⟩ := h3.mem3 bl (List.mem_of_getElem? hl)
      exact L.lt h b hb
    refine ⟨(blkOf (.slice (some ⟨g, 0, none⟩) xs.length c)).toList ++ (bss.set i b2).flatten, ⟨_, css.set i cs', bss.set i b2, rfl, hkeep, by simpa using hm, ⟨?_, by simpa using e2, .inr ⟨g, c, _, by rw [List.length_set], by omega, hw, by simpa using hc, hcm, ?_, ?_⟩⟩, rfl⟩, ?_, ?_⟩
    · rw [sum_flat (n := L.n), List.length_set, List.length_set, hlen.1]
      intro d hd
      rcases List.mem_or_eq_of_mem_set hd with h | h
      · exact hcl d h
      · rw [h]; exact lcs'
    · rw [splice_eq]
      simp only [List.size_toArray, List.length_append, List.length_take, List.length_drop, Array.length_toList, lcs']
      rw [Nat.succ_mul] at him
      omega
    · rw [Nat.succ_mul] at him
      have hcz : cur.toList.length = cur.size := by simp
      rw [flat_set i hcl hilc lcs', ← ht, List.length_set, List.toList_toArray, take_splice (by rw [lcs']; omega) (by omega), splice_eq, lcs']
    · rw [List.nodup_append]
      have hmem : ∀ b ∈ (bss.set i b2).flatten, b ∈ b2 ∨ ∃ j bl, j ≠ i ∧ bss[j]? = some bl ∧ b ∈ bl := by
        intro b hb
        obtain ⟨l, hl, hb⟩ := List.mem_flatten.1 hb
        obtain ⟨j, hj⟩ := List.getElem?_of_mem hl
        rw [List.getElem?_set] at hj
        split at hj
        · obtain rfl : b2 = l := by simpa [hilb] using hj
          exact .inl hb
        · exact .inr ⟨j, l, by omega, hj, hb⟩
      have k4 : ∀ b ∈ b2, b ∈ bx ∨ ¬ (b < w.heap.size ∧ S b) := fun b hb => hdis b (L.lt k1 b hb) (k3 b hb)
      refine ⟨by simp [blkOf], ?_, ?_⟩
      · have hq : ∀ {bss : List (List Nat)} (i : Nat), bss.flatten.Nodup → (∀ b ∈ b2, ∀ (j : Nat) (bl : List Nat), j ≠ i → bss[j]? = some bl → b ∉ bl) → (bss.set i b2).flatten.Nodup := by
          intro bss
          induction bss with
          | nil => intro i h _; simp
          | cons e bss ih =>
            intro i h hb
            rw [List.flatten_cons, List.nodup_append] at h
            cases i with
            | zero =>
              rw [List.set_cons_zero, List.flatten_cons, List.nodup_append]
              refine ⟨k2, h.2.1, fun p hp q hq e => ?_⟩
              subst e
              obtain ⟨l, hl, hq⟩ := List.mem_flatten.1 hq
              obtain ⟨j, hj⟩ := List.getElem?_of_mem hl
              exact hb p hp (j + 1) l (by omega) (by simpa using hj) hq
            | succ i =>
              rw [List.set_cons_succ, List.flatten_cons, List.nodup_append]
              refine ⟨h.1, ih i h.2.1 fun b hbb j bl hj hl => hb b hbb (j + 1) bl (by omega) (by simpa using hl), fun p hp q hq e' => ?_⟩
              subst e'
              obtain ⟨l, hl, hq⟩ := List.mem_flatten.1 hq
              obtain ⟨j, hj⟩ := List.getElem?_of_mem hl
              rw [List.getElem?_set] at hj
              split at hj
              · split at hj
                · obtain rfl := Option.some.inj hj
                  exact hb p hq 0 e (by omega) rfl hp
                · contradiction
              · exact h.2.2 p hp p (List.mem_flatten.2 ⟨l, List.mem_of_getElem? hj, hq⟩) rfl
        refine hq i hn.2.1 fun b hb j bl hj hl hbl => ?_
        rcases k4 b hb with h | h
        · exact flat_apart (f := id) hnf hl h5 hj b hbl h
        · refine h ⟨?_, hS b (List.mem_append_right _ (List.mem_flatten.2 ⟨bl, List.mem_of_getElem? hl, hbl⟩))⟩
          obtain ⟨y, _, z, _, h⟩ := h3.mem3 bl (List.mem_of_getElem? hl)
          exact L.lt h b hbl
      · intro p hp q hq e
        subst e
        have hpg : p = g := by simpa [blkOf] using hp
        subst hpg
        rcases hmem p hq with h | ⟨j, bl, _, hl, h⟩
        · rcases k4 p h with h | h
          · exact hn.2.2 p hgm p (hbx p h) rfl
          · exact h ⟨hgl, hS p (List.mem_append_left _ hgm)⟩
        · exact hn.2.2 p hgm p (List.mem_flatten.2 ⟨bl, List.mem_of_getElem? hl, h⟩) rfl
    · intro b hb
      rcases List.mem_append.1 hb with hb | hb
      · exact .inl (hS b (List.mem_append_left _ (by simpa [blkOf] using hb)))
      · obtain ⟨l, hl, hbl⟩ := List.mem_flatten.1 hb
        rcases List.mem_or_eq_of_mem_set hl with h | h
        · exact .inl (hS b (List.mem_append_right _ (List.mem_flatten.2 ⟨l, h, hbl⟩)))
        · exact .inr (k3 b (h ▸ hbl))
end
theorem xt_a {P : Program} (a : Value) (l : List Value) (w : World) : xt P (.tuple (a :: l).toArray) 0 w = some (a, w) := xt_eq (a :: l) 0 rfl w
theorem xt_b {P : Program} (a b : Value) (l : List Value) (w : World) : xt P (.tuple (a :: b :: l).toArray) 1 w = some (b, w) := xt_eq (a :: b :: l) 1 rfl w
theorem xt_c {P : Program} (a b c : Value) (l : List Value) (w : World) : xt P (.tuple (a :: b :: c :: l).toArray) 2 w = some (c, w) := xt_eq (a :: b :: c :: l) 2 rfl w
theorem Ret.post {R : Type} {x : Option R} {Q : R → Prop} (h : ∀ Q' : R → Prop, (∀ r, Q r → Q' r) → Ret x Q') : Ret x Q := h Q fun _ h => h
/-! ### What stands in temporaries -/
theorem ups_ap_cons (e : Env) (d : Nat) (v : Value) (l : List (Nat × Value)) (n : Nat) : ups e ((d, v) :: l) n = ups (upd e d v) l n := rfl
theorem ups_ap_nil (e : Env) (n : Nat) : ups e [] n = e n := rfl
theorem upd_same (e : Env) (d : Nat) (v : Value) : upd e d v d = v := by unfold upd; rw [Nat.beq_refl]; rfl
theorem upd_other (e : Env) {d n : Nat} (v : Value) (h : n ≠ d) : upd e d v n = e n := by
  unfold upd
  rw [show Nat.beq n d = false from Bool.eq_false_iff.2 fun hh => h (Nat.eq_of_beq_eq_true hh)]
  rfl
theorem env0_ap0 (a : Value) (l : List Value) : env0 (a :: l).toArray 0 = a := rfl
theorem env0_aps (a : Value) (l : List Value) (n : Nat) : env0 (a :: l).toArray (n + 1) = env0 l.toArray n := rfl
/-! ### A row, seen at one element -/
def rowv (cur : List Value) (o : Nat) (cs : List Value) : List Value := splice cur o cs
theorem rowv_len {cur cs : List Value} {o : Nat} (h : o + cs.length ≤ cur.length) : (rowv cur o cs).length = cur.length := by
  unfold rowv
  rw [splice_eq]
  simp only [List.length_append, List.length_take, List.length_drop]
  omega
theorem rowv_get {cur cs : List Value} {o : Nat} (h : o + cs.length ≤ cur.length) (i : Nat) : (rowv cur o cs)[i]? = if o ≤ i ∧ i < o + cs.length then cs[i - o]? else cur[i]? := by
  unfold rowv
  rw [splice_eq]
  have q : (cur.take o).length = o := by rw [List.length_take]; omega
  rcases Nat.lt_or_ge i o with hi | hi
  · rw [List.getElem?_append_left (by omega), List.getElem?_take, if_pos hi, if_neg (by omega)]
  · rw [List.getElem?_append_right (by omega), q]
    rcases Nat.lt_or_ge (i - o) cs.length with h2 | h2
    · rw [List.getElem?_append_left h2, if_pos (by omega)]
    · rw [List.getElem?_append_right h2, List.getElem?_drop, if_neg (by omega)]
      congr 1
      omega
theorem nth_rowv {cur cs : List Value} {o j : Nat} (hj : j < cs.length) (h : o + cs.length ≤ cur.length) : nth (rowv cur o cs) (o + j) = nth cs j := by
  rw [← nth_eq, rowv_get h, if_pos (by omega), ← nth_eq]
  congr 1
  omega
theorem nth_rowv0 {cur cs : List Value} {o : Nat} (hj : 0 < cs.length) (h : o + cs.length ≤ cur.length) : nth (rowv cur o cs) o = nth cs 0 := nth_rowv (j := 0) hj h
theorem nth_rowv1 {cur cs : List Value} {o j k : Nat} (hj : j + k < cs.length) (h : o + cs.length ≤ cur.length) : nth (rowv cur o cs) (o + j + k) = nth cs (j + k) := by rw [Nat.add_assoc]; exact nth_rowv hj h
theorem splice_len {cur cs : List Value} {o : Nat} (h : o + cs.length ≤ cur.length) : (splice cur o cs).length = cur.length := rowv_len h
theorem splice_rowv {cur cs vs : List Value} {o j : Nat} (hj : j + vs.length ≤ cs.length) (h : o + cs.length ≤ cur.length) : splice (rowv cur o cs) (o + j) vs = rowv cur o (splice cs j vs) := by
  apply List.ext_getElem?
  intro i
  have e1 := splice_len hj
  rw [splice_get (by rw [rowv_len h]; omega), rowv_get h, rowv_get (by rw [e1]; exact h), splice_get hj, e1]
  by_cases c1 : o + j ≤ i ∧ i < o + j + vs.length
  · rw [if_pos c1, if_pos (by omega), if_pos (by omega)]
    congr 1
    omega
  · rw [if_neg c1]
    by_cases c2 : o ≤ i ∧ i < o + cs.length
    · rw [if_pos c2, if_pos c2, if_neg (by omega)]
    · rw [if_neg c2, if_neg c2]
theorem splice_rowv0 {cur cs vs : List Value} {o : Nat} (hj : 0 + vs.length ≤ cs.length) (h : o + cs.length ≤ cur.length) : splice (rowv cur o cs) o vs = rowv cur o (splice cs 0 vs) := splice_rowv (j := 0) hj h
theorem splice_rowv1 {cur cs vs : List Value} {o j k : Nat} (hj : j + k + vs.length ≤ cs.length) (h : o + cs.length ≤ cur.length) : splice (rowv cur o cs) (o + j + k) vs = rowv cur o (splice cs (j + k) vs) := by rw [Nat.add_assoc]; exact splice_rowv hj h
theorem splice_z (x v : Value) (cs vs : List Value) : splice (x :: cs) 0 (v :: vs) = v :: splice cs 0 vs := by simp [splice]
theorem splice_n (cs : List Value) : splice cs 0 [] = cs := by simp [splice]
theorem splice_s (x : Value) (cs vs : List Value) (j : Nat) : splice (x :: cs) (j + 1) vs = x :: splice cs j vs := by
  simp only [splice, List.take_succ_cons, List.cons_append, show j + 1 + vs.length = (j + vs.length) + 1 by omega, List.drop_succ_cons]
theorem rowv_self {cur cs : List Value} {o n : Nat} (h : (cur.drop o).take n = cs) : rowv cur o cs = cur := by
  have e : cs ++ cur.drop (o + cs.length) = cur.drop o := by
    rw [← List.drop_drop, ← h]
    generalize cur.drop o = l
    rcases Nat.le_total n l.length with hn | hn
    · rw [List.length_take, Nat.min_eq_left hn, List.take_append_drop]
    · rw [List.take_of_length_le hn, List.drop_length, List.append_nil]
  unfold rowv
  rw [splice_eq, e, List.take_append_drop]
 class One (v : Value) : Prop where
  h : v.cells.toList = [v] ∧ v.oneCell' = true
instance {k : IntKind} {n : Int} : One (.int k n) := ⟨by rfl, by rfl⟩
instance {b : Bool} : One (.bool b) := ⟨by rfl, by rfl⟩
instance {b : ByteArray} : One (.string b) := ⟨by rfl, by rfl⟩
instance {a : Option Addr} {n c : Nat} : One (.slice a n c) := ⟨by rfl, by rfl⟩
instance {a : Option Addr} : One (.pointer a) := ⟨by rfl, by rfl⟩
instance {a : Option Nat} : One (.map a) := ⟨by rfl, by rfl⟩
section
variable {P : Program} {t b o j k : Nat} {w : World} {cur cs vs : List Value} {e : TypeId} {v : Value}
theorem stR_box [One v] {x : Value} (h : o + 1 ≤ (x :: cs).length) : stR P t 1 b o v w (some (.cells (x :: cs).toArray e (0, 0))) = some (undef, w.setRow b (splice (x :: cs) o [v]).toArray) := by
  obtain ⟨h1, h2⟩ := One.h (v := v)
  have h3 : v.cells.size = 1 := by rw [← Array.length_toList, h1]; rfl
  rw [stR_cells, if_pos ⟨h3, by simpa using h, by rw [h1]; simp [h2]⟩, h1]
theorem stR_boxA {x : Value} {n : Nat} (hn : vs.length = n) (hv : vs.all Value.oneCell' = true) (h : o + vs.length ≤ (x :: cs).length) : stR P t n b o (.agg vs.toArray) w (some (.cells (x :: cs).toArray e (0, 0))) = some (undef, w.setRow b (splice (x :: cs) o vs).toArray) := by
  rw [stR_cells, cells_agg, if_pos ⟨by simpa using hn, by rw [← hn]; simpa using h, by simpa using hv⟩]
theorem stR_row [One v] (hj : j + 1 ≤ cs.length) (h : o + cs.length ≤ cur.length) : stR P t 1 b (o + j) v w (some (.cells (rowv cur o cs).toArray e (0, 0))) = some (undef, w.setRow b (rowv cur o (splice cs j [v])).toArray) := by
  obtain ⟨h1, h2⟩ := One.h (v := v)
  have h3 : v.cells.size = 1 := by rw [← Array.length_toList, h1]; rfl
  rw [stR_cells, if_pos ⟨h3, by rw [List.size_toArray, rowv_len h]; omega, by rw [h1]; simp [h2]⟩, h1, List.toList_toArray, splice_rowv (by simpa using hj) h]
theorem stR_row0 [One v] (hj : 0 + 1 ≤ cs.length) (h : o + cs.length ≤ cur.length) : stR P t 1 b o v w (some (.cells (rowv cur o cs).toArray e (0, 0))) = some (undef, w.setRow b (rowv cur o (splice cs 0 [v])).toArray) := stR_row (j := 0) hj h
theorem stR_row1 [One v] (hj : j + k + 1 ≤ cs.length) (h : o + cs.length ≤ cur.length) : stR P t 1 b (o + j + k) v w (some (.cells (rowv cur o cs).toArray e (0, 0))) = some (undef, w.setRow b (rowv cur o (splice cs (j + k) [v])).toArray) := by rw [Nat.add_assoc]; exact stR_row hj h
theorem stR_rowA {n : Nat} (hn : vs.length = n) (hv : vs.all Value.oneCell' = true) (hj : j + vs.length ≤ cs.length) (h : o + cs.length ≤ cur.length) : stR P t n b (o + j) (.agg vs.toArray) w (some (.cells (rowv cur o cs).toArray e (0, 0))) = some (undef, w.setRow b (rowv cur o (splice cs j vs)).toArray) := by
  rw [stR_cells, cells_agg, if_pos ⟨by simpa using hn, by rw [List.size_toArray, rowv_len h]; omega, by simpa using hv⟩, List.toList_toArray, List.toList_toArray, splice_rowv hj h]
theorem stR_rowA0 {n : Nat} (hn : vs.length = n) (hv : vs.all Value.oneCell' = true) (hj : 0 + vs.length ≤ cs.length) (h : o + cs.length ≤ cur.length) : stR P t n b o (.agg vs.toArray) w (some (.cells (rowv cur o cs).toArray e (0, 0))) = some (undef, w.setRow b (rowv cur o (splice cs 0 vs)).toArray) := stR_rowA (j := 0) hn hv hj h
end
theorem wrap_small {x : Int} (h0 : 0 ≤ x) (h1 : x ≤ 9000000000000000000) : IntKind.i64.wrap x = x := w64 (by omega) (by omega)
theorem Mod.al {S : Nat → Prop} {a b : World} (h : Mod S a b) (o : Obj) : Mod S a (b.alloc o) := h.tr (Mod.alloc S b o)
theorem Mod.dw' {S : Nat → Prop} {a b : World} (h : Mod S a b) : Mod S a (Go.Ev.dw b) := h.tr (Mod.dw S b)
theorem Mod.ex {S : Nat → Prop} {a b c : World} (h : Mod S a b) (k : Ext b c) : Mod S a c := h.tr (Mod.of k S)
theorem Mod.set' {S : Nat → Prop} {a b : World} (h : Mod S a b) {k : Nat} (hk : a.heap.size ≤ k ∨ S k) (cs : Array Value) : Mod S a (b.setRow k cs) :=
  Mod.after' h (Mod.set b k cs) fun x hx he => by subst he; rcases hk with hk | hk; exact absurd hx (by omega); exact hk
section
variable {α : Type} {L : Lay α} {S : Nat → Prop} {w : World} {E mx : Nat}
/-- Element i of an owned row, taken out; and put back, changed. -/
theorem O.row {a : Option Addr} {n c : Nat} {xs : List α} (h : O (LList E mx L) S w [.slice a n c] xs) (h0 : 0 < L.n) {i : Nat} {x : α} (hi : xs[i]? = some x) :
    ∃ g cur cs S1, a = some ⟨g, 0, none⟩ ∧ S g ∧ g < w.heap.size ∧ hp w g = some (.cells (rowv cur (i * L.n) cs).toArray E (0, 0)) ∧ i * L.n + L.n ≤ cur.length ∧ O L S1 w cs x ∧ (∀ b, S1 b → S b ∧ b ≠ g ∧ b < w.heap.size) ∧
      ∀ (w' : World) (cs' : List Value) (x' : α) (S2 : Nat → Prop), O L S2 w' cs' x' → hp w' g = some (.cells (rowv cur (i * L.n) cs').toArray E (0, 0)) → (∀ b, b < w.heap.size → S b → b ≠ g → ¬ S1 b → hp w' b = hp w b) →
        (∀ b, b < w'.heap.size → S2 b → S1 b ∨ ¬ (b < w.heap.size ∧ S b)) → O (LList E mx L) (fun b => S b ∨ S2 b) w' [.slice a n c] (xs.set i x') := by
  obtain ⟨g, cur, cs, S1, h1, h2, h3, h4, h5, h6, h7, h8, h9, h10⟩ := h.elem h0 hi
  refine ⟨g, cur.toList, cs, S1, h1, h2, h3, ?_, by rw [Nat.succ_mul] at h5; simpa using h5, h8, h9, h10⟩
  rw [rowv_self h6, h4]
end
def cellsO (ob : Option Obj) : Nat → Nat → Option (List Value)
  | _, 0 => some []
  | o, n + 1 => consO (cellO ob o) (cellsO ob (o + 1) n)
theorem cellsO_zero (ob : Option Obj) (o : Nat) : cellsO ob o 0 = some [] := by cases ob <;> rfl
theorem cellsO_succ (ob : Option Obj) (o n : Nat) : cellsO ob o (n + 1) = consO (cellO ob o) (cellsO ob (o + 1) n) := by cases ob <;> rfl
theorem cellsAt_hp (w : World) (b o n : Nat) : cellsAt w b o n = cellsO (hp w b) o n := by
  induction n generalizing o with
  | zero => rw [cellsAt_zero, cellsO_zero]
  | succ n ih => rw [cellsAt_succ, cellsO_succ, ih]
theorem At.q {w : World} {b o n : Nat} {cs : List Value} (h : At w b o cs) (hn : cs.length = n) : cellsO (hp w b) o n = some cs := by rw [← cellsAt_hp, ← hn]; exact h.cells
/-! ### Marks -/
/-- How a datum is marked: what it becomes, the next number; and how much it weighs. -/
structure Mk (α : Type) where
  of ::
  mk : Int → α → α
  nx : Int → α → Int
  wt : α → Nat
  le : ∀ k a, k ≤ nx k a
def Mk.mkL {α : Type} (M : Mk α) : Int → List α → List α
  | _, [] => []
  | k, a :: l => M.mk k a :: M.mkL (M.nx k a) l
def Mk.nxL {α : Type} (M : Mk α) : Int → List α → Int
  | k, [] => k
  | k, a :: l => M.nxL (M.nx k a) l
section
variable {α : Type} {M : Mk α}
/-- The number at which element j begins. -/
def Mk.at (M : Mk α) (k : Int) (l : List α) (j : Nat) : Int := M.nxL k (l.take j)
/-- What is marked up to j, and what is not yet. -/
def Mk.part (M : Mk α) (k : Int) (l : List α) (j : Nat) : List α := (M.mkL k l).take j ++ l.drop j
end
/-! ### This program's data -/
abbrev LTags (E : TypeId) : Lay (List Tag) := LList E 8796093021952 LTag
def LVer (E : TypeId) : Lay Ver := LMap (LPair LInt (LPair LTag (LPair (LTags E) (LPair LStr LBool)))) fun v => (v.key, v.tag, v.past, v.text, v.gone)
abbrev LVers (E F : TypeId) : Lay (List Ver) := LList F 1954687338211 (LVer E)
structure CNode where
  store : List Ver
  wait : List Ver
def LNode (E F : TypeId) : Lay CNode := LMap (LPair (LVers E F) (LVers E F)) fun v => (v.store, v.wait)
abbrev LNodes (E F N : TypeId) : Lay (List CNode) := LList N 2932031007317 (LNode E F)
section
variable {S : Nat → Prop} {w : World} {cs : List Value} {E F N : TypeId}
theorem LVer_n : (LVer E).n = 6 := rfl
theorem LTag_n : LTag.n = 2 := rfl
theorem LNode_n : (LNode E F).n = 2 := rfl
theorem D.ver {v : Ver} : D (LVer E) S w cs v ↔ ∃ a c, cs = [i64 v.key, i64 v.tag.t, i64 v.tag.p, .slice a v.past.length c, .string v.text, .bool v.gone] ∧ D (LTags E) S w [.slice a v.past.length c] v.past ∧ v.text.size ≤ 140737488351232 := by
  unfold LVer
  rw [D.map]
  simp only [D.pair, D.int, D.tag, D.str, D.bool]
  constructor
  · rintro ⟨c1, d1, rfl, rfl, c2, d2, rfl, rfl, c3, d3, rfl, h3, c4, d4, rfl, ⟨rfl, h4⟩, rfl⟩
    obtain ⟨a, c, rfl, h⟩ := h3.sl'
    exact ⟨a, c, rfl, h, h4⟩
  · rintro ⟨a, c, rfl, h3, h4⟩
    exact ⟨[_], _, rfl, rfl, [_, _], _, rfl, rfl, [_], _, rfl, h3, [_], _, rfl, ⟨rfl, h4⟩, rfl⟩
theorem O.ver {v : Ver} : O (LVer E) S w cs v ↔ ∃ a c, cs = [i64 v.key, i64 v.tag.t, i64 v.tag.p, .slice a v.past.length c, .string v.text, .bool v.gone] ∧ O (LTags E) S w [.slice a v.past.length c] v.past ∧ v.text.size ≤ 140737488351232 := by
  constructor
  · intro h
    unfold LVer at h
    rw [O.map] at h
    obtain ⟨bs, ⟨c1, d1, b1, e1, rfl, ⟨rfl, rfl⟩, ⟨c2, d2, b2, e2, rfl, ⟨rfl, rfl⟩, ⟨c3, d3, b3, e3, rfl, h3, ⟨c4, d4, b4, e4, rfl, ⟨rfl, h4, rfl⟩, ⟨rfl, rfl⟩, rfl⟩, rfl⟩, rfl⟩, rfl⟩, hn, hS⟩ := h
    simp only [List.nil_append, List.append_nil] at hn hS
    obtain ⟨a, c, rfl, h⟩ := O.sl' (L := LTag) (E := E) (mx := 8796093021952) (S := S) (w := w) ⟨b3, h3, hn, hS⟩
    exact ⟨a, c, rfl, h, h4⟩
  · rintro ⟨a, c, rfl, ⟨bs, h1, hn, hS⟩, h4⟩
    refine ⟨bs, ?_, hn, hS⟩
    exact ⟨[_], _, [], bs, rfl, ⟨rfl, rfl⟩, ⟨[_, _], _, [], bs, rfl, ⟨rfl, rfl⟩, ⟨[_], _, bs, [], rfl, h1, ⟨[_], _, [], [], rfl, ⟨rfl, h4, rfl⟩, ⟨rfl, rfl⟩, rfl⟩, by simp⟩, rfl⟩, rfl⟩
theorem D.node {v : CNode} : D (LNode E F) S w cs v ↔ ∃ a c a' c', cs = [.slice a v.store.length c, .slice a' v.wait.length c'] ∧ D (LVers E F) S w [.slice a v.store.length c] v.store ∧ D (LVers E F) S w [.slice a' v.wait.length c'] v.wait := by
  unfold LNode
  rw [D.map]
  simp only [D.pair]
  constructor
  · rintro ⟨c1, d1, rfl, h1, h2⟩
    obtain ⟨a, c, rfl, h⟩ := h1.sl'
    obtain ⟨a', c', rfl, h'⟩ := h2.sl'
    exact ⟨a, c, a', c', rfl, h, h'⟩
  · rintro ⟨a, c, a', c', rfl, h3, h4⟩
    exact ⟨[_], [_], rfl, h3, h4⟩
theorem O.node_mk {v : CNode} {S1 S2 : Nat → Prop} {s t : Value} (h1 : O (LVers E F) S1 w [s] v.store) (h2 : O (LVers E F) S2 w [t] v.wait) (hd : ∀ b, b < w.heap.size → S1 b → ¬ S2 b) : O (LNode E F) (fun b => S1 b ∨ S2 b) w [s, t] v := by
  unfold LNode; rw [O.map]; exact O.pair (p := (v.store, v.wait)) h1 h2 hd
theorem D.rTags {s : Value} {ts : List Tag} (h : D (LTags E) S w [s] ts) : rTags w s ts := by
  obtain ⟨bs, ⟨s', css, bss, he, h3, hm, h1, _⟩, _⟩ := h
  obtain rfl : s = s' := by simpa using he
  have : ∀ {css : List (List Value)} {ts : List Tag} {bss : List (List Nat)}, All3 (LTag.lay false w) css ts bss → css.flatten = tagCs ts := by
    intro css ts bss h
    refine All3.ind (M := fun css ts _ => css.flatten = tagCs ts) rfl ?_ h
    intro a l b m c n h1 _ ih
    rw [List.flatten_cons, ih, tagCs_cons, h1.1]
  rw [this h3] at h1
  exact ⟨h1, hm⟩
theorem D.rVer {v : Ver} (h : D (LVer E) S w cs v) : rVer w cs v := by
  obtain ⟨a, c, rfl, h1, h2⟩ := D.ver.1 h
  exact ⟨_, rfl, h1.rTags, h2⟩
theorem D.rVers {s : Value} {vs : List Ver} (h : D (LVers E F) S w [s] vs) : rVers w s vs := by
  obtain ⟨bs, ⟨s', css, bss, he, h3, hm, h1, _⟩, _⟩ := h
  obtain rfl : s = s' := by simpa using he
  refine ⟨css, h1, ?_, hm⟩
  have : ∀ {css : List (List Value)} {ts : List Ver} {bss : List (List Nat)}, All3 ((LVer E).lay false w) css ts bss → All2 (Go.Ev.rVer w) css ts := by
    intro css ts bss h
    refine All3.ind (M := fun css ts _ => All2 (Go.Ev.rVer w) css ts) trivial ?_ h
    intro a l b m c n h1 _ ih
    exact ⟨D.rVer (S := fun _ => True) ⟨c, h1, fun _ _ => trivial⟩, ih⟩
  exact this h3
theorem tag_all3 (o : Bool) : ∀ ts : List Tag, All3 (LTag.lay o w) (ts.map tagC) ts (ts.map fun _ => [])
  | [] => trivial
  | t :: ts => ⟨⟨rfl, rfl⟩, tag_all3 o ts⟩
theorem tag_bss (ts : List Tag) : (ts.map fun _ => ([] : List Nat)).flatten = [] := by induction ts <;> simp_all
theorem tags_o {s : Value} {ts : List Tag} {B : Nat} (h : fTags E B w s ts) : O (LTags E) (In B w.heap.size) w [s] ts := by
  refine ⟨(blkOf s).toList ++ (ts.map fun _ => []).flatten, ⟨s, ts.map tagC, ts.map fun _ => [], rfl, tag_all3 _ ts, h.2, h.1.from (Nat.zero_le _), rfl⟩, ?_, fun b hb => ?_⟩
  · rw [tag_bss, List.append_nil]; cases blkOf s <;> simp
  · rw [tag_bss, List.append_nil] at hb; exact h.lt b hb
end
section
variable {α : Type} {L : Lay α} {S S1 : Nat → Prop} {w : World} {E mx E' mx' : Nat}
/-- A row made new, of length nought. -/
theorem O.make0 {P : Program} {t y : Nat} (hE : elB P t = some (E, L.n, y)) {z : List Value} (hz : zeroB P E = some z) (hzs : z.length = L.n) (h0 : 0 < L.n) {n : Nat} (hn : n ≤ mx) (hy : mx * y ≤ 140737488355328) (hm2 : mx ≤ 140737488355328) :
    Ret (ms P t (i64 0) (i64 n) w) fun r => r.1 = .slice (some ⟨w.heap.size, 0, none⟩) 0 n ∧ O (LList E mx L) (fun b => b = w.heap.size) r.2 [r.1] ([] : List α) ∧ r.2.heap.size = w.heap.size + 1 ∧ Ext w r.2 := by
  have hb1 : n * y ≤ mx * y := Nat.mul_le_mul_right _ hn
  have hb2 : y * (n : Int) ≤ 281474976710656 := by
    have : (y * n : Nat) ≤ 140737488355328 := by rw [Nat.mul_comm]; omega
    have h2 : ((y * n : Nat) : Int) = (y : Int) * (n : Int) := by simp
    rw [← h2]; omega
  rw [ms_eq (P := P) hE hz hzs h0 (Int.le_refl 0) (by omega) hb2 (by omega) w]
  refine ⟨_, rfl, by simp, ?_, by simp, Ext.alloc w _⟩
  have hO : Own (w.alloc (.cells (zrep z (n : Int).toNat).toArray E)) 0 E L.n (.slice (some ⟨w.heap.size, 0, none⟩) 0 n) ([] : List α).length ([] : List (List Value)).flatten := by
    refine ⟨by simp, by simp, .inr ⟨w.heap.size, n, _, rfl, Nat.zero_le _, hp_alloc_eq rfl, by simp, by omega, ?_, by simp⟩⟩
    rw [List.size_toArray, zrep_len, hzs]; simp
  have := O.mk (mx := mx) (S1 := fun _ => False) hO Els.nil (fun _ _ h => h) (by simp)
  simp only [Int.toNat_natCast, Int.toNat_zero] at *
  exact this.wide fun b h _ => h.elim (fun h => h.elim) fun h => by simpa [blkOf] using h
theorem O.empty {g : Nat} (h : hp w g = some (.cells #[] E (0, 0))) : O (LList E mx L) (fun b => b = g) w [.slice (some ⟨g, 0, none⟩) 0 0] ([] : List α) := by
  have hO : Own w 0 E L.n (.slice (some ⟨g, 0, none⟩) 0 0) ([] : List α).length ([] : List (List Value)).flatten :=
    ⟨by simp, by simp, .inr ⟨g, 0, #[], rfl, Nat.zero_le _, h, by simp, by omega, by simp, by simp⟩⟩
  have := O.mk (mx := mx) (S1 := fun _ => False) hO Els.nil (fun _ _ h => h) (by simp)
  exact this.wide fun b h _ => h.elim (fun h => h.elim) fun h => by simpa [blkOf] using h
end
section
variable {α : Type} {L : Lay α} {S S1 : Nat → Prop} {w : World} {E mx : Nat}
theorem els_rep {z : List Value} {x0 : α} (h : O L (fun _ => False) w z x0) : ∀ n : Nat, Els L (fun _ => False) w (List.replicate n z) (List.replicate n x0)
  | 0 => Els.nil
  | n + 1 => by
    have := (Els.one h).app (els_rep h n) (fun _ _ h => h.elim)
    rw [List.replicate_succ, List.replicate_succ]
    exact this.wide fun b h _ => h.elim id id
theorem zrep_rep (z : List Value) : ∀ n : Nat, zrep z n = (List.replicate n z).flatten
  | 0 => rfl
  | n + 1 => by rw [zrep, zrep_rep z n, List.replicate_succ, List.flatten_cons]
/-- A row made new, of noughts. -/
theorem O.make {P : Program} {t y : Nat} (hE : elB P t = some (E, L.n, y)) {z : List Value} (hz : zeroB P E = some z) (hzs : z.length = L.n) (h0 : 0 < L.n) {n : Nat} {x0 : α} (hx : ∀ w, O L (fun _ => False) w z x0) (hn : n ≤ mx) (hy : mx * y ≤ 140737488355328) (hm2 : mx ≤ 140737488355328) :
    Ret (ms P t (i64 n) (i64 n) w) fun r => r.1 = .slice (some ⟨w.heap.size, 0, none⟩) n n ∧ O (LList E mx L) (fun b => b = w.heap.size) r.2 [r.1] (List.replicate n x0) ∧ r.2.heap.size = w.heap.size + 1 ∧ Ext w r.2 := by
  have hb1 : n * y ≤ mx * y := Nat.mul_le_mul_right _ hn
  have hb2 : y * (n : Int) ≤ 281474976710656 := by
    have : (y * n : Nat) ≤ 140737488355328 := by rw [Nat.mul_comm]; omega
    have h2 : ((y * n : Nat) : Int) = (y : Int) * (n : Int) := by simp
    rw [← h2]; omega
  rw [ms_eq (P := P) hE hz hzs h0 (by omega) (Int.le_refl _) hb2 (by omega) w]
  refine ⟨_, rfl, by simp, ?_, by simp, Ext.alloc w _⟩
  have hO : Own (w.alloc (.cells (zrep z (n : Int).toNat).toArray E)) 0 E L.n (.slice (some ⟨w.heap.size, 0, none⟩) n n) (List.replicate n x0).length (List.replicate n z).flatten := by
    refine ⟨?_, by simp; omega, .inr ⟨w.heap.size, n, _, by simp, Nat.zero_le _, hp_alloc_eq rfl, by simp, by omega, ?_, ?_⟩⟩
    · rw [← zrep_rep, zrep_len, hzs, List.length_replicate]
    · rw [List.size_toArray, zrep_len, hzs]; simp
    · rw [List.length_replicate, List.toList_toArray, Int.toNat_natCast, zrep_rep, List.take_of_length_le]
      rw [← zrep_rep, zrep_len, hzs]; omega
  have := O.mk (mx := mx) hO (els_rep (hx _) n) (fun _ _ h => h) (by simpa using hn)
  simp only [Int.toNat_natCast] at *
  exact this.wide fun b h _ => h.elim (fun h => h.elim) fun h => by simpa [blkOf] using h
end
section
variable {w : World} {E F B : Nat}
theorem tags_os {s : Value} {ts : List Tag} (h : fTags E B w s ts) : ∃ a c, s = .slice a ts.length c ∧ O (LTags E) (In B w.heap.size) w [.slice a ts.length c] ts := by
  obtain ⟨a, c, h1, h2⟩ := (tags_o h).sl'
  obtain rfl : s = .slice a ts.length c := by simpa using h1
  exact ⟨a, c, rfl, h2⟩
end
end Go.Ev
