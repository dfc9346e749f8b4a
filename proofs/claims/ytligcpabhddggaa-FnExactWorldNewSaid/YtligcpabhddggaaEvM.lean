/- A part of the proof: an evaluator of the model, its laws, and contracts of functions; no condition. -/
import Derived.Below
import Derived.Laws.AppendOwn
import Derived.Laws.MakeOwn
import Derived.Laws.OwnMore
import Derived.Laws.Slices
import Derived.Laws.Entries
import Derived.Laws.Wrap64
import Derived.Laws.CopyRow
import Derived.Laws.StructEq
import Derived.Laws.BytesString
import Derived.Great.BuildSlice
import Derived.Test.YtligcpabhddggaaEvE
set_option linter.unusedVariables false
set_option linter.unusedSimpArgs false
namespace Go.Ev
open Go Go.RowKit
noncomputable def clo (P : Program) (f : Value) (args : Array Value) (w : World) := cloD P (EV P) f args w
noncomputable def nk (P : Program) (v : Value) (w : World) := nx (EV P) ((execOp (fun _ => v) { dst := none, op := .nilCheck (.tmp 0), type := 0, pos := "", after := #[], guard := none }).run P w)
def vl (v : Value) (w : World) : Option (Value × World) := some (v, w)
def dw (w : World) : World := { w with drawn := w.drawn + 1 }
def al (P : Program) (t : TypeId) (w : World) := ro ((Instr.alloc t true (.tuple #[])).run P w)
def bx (P : Program) (t : TypeId) (x : Value) (w : World) := ro ((Instr.box t x).run P w)
def bd (P : Program) (t : TypeId) (ps : Array (Nat × Value)) (w : World) := ro ((Instr.build t ps).run P w)
def bs (P : Program) (t : TypeId) (n : Nat) (ps : Array (Nat × Value)) (w : World) := ro ((Instr.buildSlice t n ps).run P w)
def ld (P : Program) (t : TypeId) (a : Value) (w : World) := ro ((Instr.loadAt t a).run P w)
def st (P : Program) (t : TypeId) (a x : Value) (w : World) := rs ((Instr.storeAt t a x).run P w)
def bo (P : Program) (op : BinOp) (t : TypeId) (x y : Operand) (a b : Value) (w : World) := ro ((do eqGuard op t x y a b; binOp op t a b : Sem Value).run P w)
def uo (P : Program) (op : UnOp) (x : Value) (w : World) := ro ((Op.unary op x).run P w)
def cv (P : Program) (s d : TypeId) (x : Value) (w : World) := ro ((convert s d x).run P w)
def ms (P : Program) (t : TypeId) (l c : Value) (w : World) := ro ((Instr.makeSlice t l c).run P w)
def sl (P : Program) (t : TypeId) (x : Value) (lo hi mx : Option Value) (w : World) := ro ((Instr.sliceAt t x lo hi mx).run P w)
def fa (P : Program) (s : TypeId) (x : Value) (f : Nat) (w : World) := ro ((Instr.fieldAt s x f).run P w)
def ia (P : Program) (t : TypeId) (x i : Value) (w : World) := ro ((Instr.indexAt t x i).run P w)
def en (P : Program) (x : Value) (w : World) := ro ((Instr.entry x).run P w)
def xt (P : Program) (t : Value) (i : Nat) (w : World) := ro ((Instr.extract t i).run P w)
def b_append (P : Program) (ts : Array TypeId) (t : TypeId) (args : Array Value) (w : World) := ro ((Builtin.append_ ts t args).run P w)
def b_len (P : Program) (ts : Array TypeId) (t : TypeId) (args : Array Value) (w : World) := ro ((Builtin.len_ ts t args).run P w)
abbrev pt (b o : Nat) : Value := .pointer (some ⟨b, o, none⟩)
abbrev i64 (n : Int) : Value := .int .i64 n
abbrev Ext (w w' : World) : Prop := Below w.heap.size w w'
/-! ### What the types say -/
def aggD : TypeDesc → Bool | .struct _ => true | .array _ _ => true | _ => false
def aggB (P : Program) (t : TypeId) : Option Bool := match P.underlying t with | some d => some (aggD d) | none => none
def szB (P : Program) (t : TypeId) : Option Nat := match P.info? t with | some i => some i.size | none => none
def fldB (P : Program) (s : TypeId) (f : Nat) : Option (Nat × Option Nat × Option Bool) := match P.underlying s with
  | some (.struct fs) => (match fs.toList[f]? with | some x => some (x.offset, szB P x.type, aggB P x.type) | none => none)
  | _ => none
/-- Of a slice's type: its element's cells and bytes. -/
def elB (P : Program) (t : TypeId) : Option (TypeId × Nat × Nat) := match P.underlying t with
  | some (.slice e) => (match P.info? e with | some i => some (e, i.size, i.bytes) | none => none)
  | _ => none
def zeroB (P : Program) (t : TypeId) : Option (List Value) := match P.info? t with | some i => (match i.zero with | some z => some z.cells.toList | none => none) | none => none
section
variable {P : Program}
theorem run_isAgg {t : TypeId} {b : Bool} (h : aggB P t = some b) (w : World) : (isAgg t).run P w = .ok b w := by
  unfold aggB at h
  cases hd : P.underlying t with
  | none => rw [hd] at h; cases h
  | some d =>
    rw [hd] at h
    simp only [Option.some.injEq] at h
    subst h
    simp only [isAgg, Sem.run_bind, run_underlying hd, Result.andThen_ok]
    cases d <;> rfl
theorem run_sizeOf' {t n : Nat} (h : szB P t = some n) (w : World) : (sizeOf t).run P w = .ok n w := by
  unfold szB at h
  cases hd : P.info? t with
  | none => rw [hd] at h; cases h
  | some i =>
    rw [hd] at h
    simp only [Option.some.injEq] at h
    subst h
    simp [sizeOf, typeInfo, hd]
/-! ### Cells -/
/-- The block number b. -/
def hp (w : World) (b : Nat) : Option Obj := w.heap[b]?
def cellO : Option Obj → Nat → Option Value
  | some (.cells c _ _), i => c[i]?
  | _, _ => none
def nth : List Value → Nat → Option Value
  | [], _ => none
  | a :: _, 0 => some a
  | _ :: l, n + 1 => nth l n
theorem nth_eq : ∀ (l : List Value) (i : Nat), l[i]? = nth l i
  | [], _ => rfl
  | _ :: _, 0 => rfl
  | _ :: l, n + 1 => nth_eq l n
theorem cellO_some (c : Array Value) (e : TypeId) (z : Nat × Nat) (i : Nat) : cellO (some (.cells c e z)) i = nth c.toList i := by
  rw [← nth_eq]; simp [cellO]
theorem cell?_eq (w : World) (b i : Nat) : w.cell? ⟨b, i, none⟩ = cellO (hp w b) i := by
  unfold World.cell? cellO hp
  cases w.heap[b]? with
  | none => rfl
  | some x => cases x <;> rfl
def consO : Option Value → Option (List Value) → Option (List Value)
  | some v, some l => some (v :: l)
  | _, _ => none
def cellsAt (w : World) (b : Nat) : Nat → Nat → Option (List Value)
  | _, 0 => some []
  | o, n + 1 => match cellO (hp w b) o with | some v => (match cellsAt w b (o + 1) n with | some l => some (v :: l) | none => none) | none => none
theorem add_lit (b o n : Nat) : (⟨b, o, none⟩ : Addr).add n = ⟨b, o + n, none⟩ := by
  unfold Addr.add
  split
  · rename_i h; subst h; rfl
  · rfl
theorem cellsAt_length {w : World} {b : Nat} : ∀ {n o : Nat} {l : List Value}, cellsAt w b o n = some l → l.length = n
  | 0, o, l, h => by simp only [cellsAt, Option.some.injEq] at h; subst h; rfl
  | n + 1, o, l, h => by
    simp only [cellsAt] at h
    split at h
    · split at h
      · rename_i l' hl
        simp only [Option.some.injEq] at h
        subst h
        simp [cellsAt_length hl]
      · contradiction
    · contradiction
theorem cellsAt_get {w : World} {b : Nat} : ∀ {n o : Nat} {l : List Value}, cellsAt w b o n = some l → ∀ (j : Nat) v, l[j]? = some v → cellO (hp w b) (o + j) = some v
  | 0, o, l, h, j, v, hv => by simp only [cellsAt, Option.some.injEq] at h; subst h; simp at hv
  | n + 1, o, l, h, j, v, hv => by
    simp only [cellsAt] at h
    split at h
    · rename_i u hu
      split at h
      · rename_i l' hl
        simp only [Option.some.injEq] at h
        subst h
        cases j with
        | zero => simp only [List.getElem?_cons_zero, Option.some.injEq] at hv; subst hv; exact hu
        | succ j =>
          have := cellsAt_get hl j v (by simpa using hv)
          rw [show o + (j + 1) = o + 1 + j by omega]
          exact this
      · contradiction
    · contradiction
/-- From o on stand these cells. -/
def At (w : World) (b o : Nat) (l : List Value) : Prop := ∀ (j : Nat) v, l[j]? = some v → cellO (hp w b) (o + j) = some v
theorem At.cells {w : World} {b : Nat} : ∀ {l : List Value} {o : Nat}, At w b o l → cellsAt w b o l.length = some l
  | [], o, h => rfl
  | v :: l, o, h => by
    have h0 := h 0 v rfl
    have ih := At.cells (w := w) (b := b) (l := l) (o := o + 1) fun j u hu => by
      have := h (j + 1) u (by simpa using hu)
      rwa [show o + (j + 1) = o + 1 + j by omega] at this
    simp only [List.length_cons, cellsAt, Nat.add_zero] at h0 ⊢
    rw [h0, ih]
/-- A load: what stands there, or else what the machine says. -/
noncomputable def ldRaw (P : Program) (t : TypeId) (b o : Nat) (w : World) := ld P t (pt b o) w
noncomputable def ldR (P : Program) (t : TypeId) (b o : Nat) (w : World) : Option Value → Option (Value × World)
  | some v => some (v, w)
  | none => ldRaw P t b o w
noncomputable def ldL (P : Program) (t : TypeId) (b o : Nat) (w : World) : Option (List Value) → Option (Value × World)
  | some l => some (.agg l.toArray, w)
  | none => ldRaw P t b o w
theorem ld_one {t : TypeId} (h : aggB P t = some false) (b o : Nat) (w : World) : ld P t (pt b o) w = ldR P t b o w (cellO (hp w b) o) := by
  cases hc : cellO (hp w b) o with
  | none => rfl
  | some v =>
    have hc' : w.cell? ⟨b, o, none⟩ = some v := by rw [cell?_eq]; exact hc
    simp only [ldR, ld, pt, Instr.loadAt, Instr.sureAddr, loadVar, Sem.run_bind, Sem.run_pure, Result.andThen_ok, run_isAgg h]
    simp [hc', ro]
theorem ld_agg {t n : Nat} (h : aggB P t = some true) (hs : szB P t = some n) (b o : Nat) (w : World) : ld P t (pt b o) w = ldL P t b o w (cellsAt w b o n) := by
  cases hc : cellsAt w b o n with
  | none => rfl
  | some l =>
    have hl := cellsAt_length hc
    have hr := run_loadCells_list (P := P) w ⟨b, o, none⟩ l (fun j v hv => by rw [add_lit, cell?_eq]; exact cellsAt_get hc j v hv)
    rw [hl] at hr
    simp only [ldL, ld, pt, Instr.loadAt, Instr.sureAddr, loadVar, Sem.run_bind, Sem.run_pure, Result.andThen_ok, run_isAgg h, run_sizeOf' hs, if_true, hr, ro]
theorem At.ld {t : TypeId} {l : List Value} (h : aggB P t = some true) (hs : szB P t = some l.length) {b o : Nat} {w : World} (ha : At w b o l) : ld P t (pt b o) w = some (.agg l.toArray, w) := by
  rw [ld_agg h hs, ha.cells]; rfl
theorem bx_eq (t : TypeId) (v : Value) (w : World) : bx P t v w = some (pt w.heap.size 0, w.alloc (.cells v.cells t)) := by
  simp [bx, Instr.box, newVar, newRow, ro]
theorem al_eq {t : TypeId} {z : List Value} (h : zeroB P t = some z) (w : World) : al P t w = some (pt w.heap.size 0, w.alloc (.cells z.toArray t)) := by
  unfold zeroB at h
  split at h
  · rename_i i hi
    split at h
    · rename_i z' hz
      simp only [Option.some.injEq] at h
      subst h
      simp [al, Instr.alloc, zeroValue, typeInfo, hi, hz, newVar, newRow, ro]
    · contradiction
  · contradiction
theorem fa_eq {s f off n : Nat} {g : Option Bool} (h : fldB P s f = some (off, some (n + 1), g)) (b o : Nat) (w : World) : fa P s (pt b o) f w = some (pt b (o + off), w) := by
  unfold fldB at h
  split at h
  · rename_i fs hu
    split at h
    · rename_i x hx
      simp only [Option.some.injEq, Prod.mk.injEq] at h
      obtain ⟨h1, h2, _⟩ := h
      rw [Array.getElem?_toList] at hx
      subst h1
      simp [fa, pt, Instr.fieldAt, run_underlying hu, hx, Instr.sureAddr, fieldPlace, run_sizeOf' h2, ro, add_lit]
    · contradiction
  · contradiction
theorem ia_eq {t e s y : Nat} (h : elB P t = some (e, s, y)) {b o n c : Nat} {i : Int} (h0 : 0 ≤ i) (h1 : i < n) (w : World) :
    ia P t (.slice (some ⟨b, o, none⟩) n c) (i64 i) w = some (pt b (o + i.toNat * s), w) := by
  unfold elB at h
  split at h
  · rename_i e' hu
    split at h
    · rename_i x hx
      simp only [Option.some.injEq, Prod.mk.injEq] at h
      obtain ⟨rfl, rfl, _⟩ := h
      simp [ia, Instr.indexAt, asIntOf, run_underlying hu, h0, h1, sizeOf, typeInfo, hx, ro, add_lit]
    · contradiction
  · contradiction
theorem len_slice {t e ty : Nat} {s : Nat × Nat} (h : elB P t = some (e, s)) (a : Option Addr) (n c : Nat) (w : World) : b_len P #[t] ty #[.slice a n c] w = some (i64 n, w) := by
  unfold elB at h
  split at h
  · rename_i e' hu
    simp [b_len, Builtin.len_, run_underlying hu, ro, goInt]
  · contradiction
/-! ### Arithmetic -/
theorem eqGuard_int (op : BinOp) (t : TypeId) (x y : Operand) (k j : IntKind) (a b : Int) (w : World) : (eqGuard op t x y (.int k a) (.int j b)).run P w = .ok () w := by
  unfold eqGuard
  split <;> rfl
theorem bo_int (op : BinOp) (t : TypeId) (x y : Operand) (k j : IntKind) (a b : Int) (w : World) : bo P op t x y (.int k a) (.int j b) w = ro ((binOp op t (.int k a) (.int j b)).run P w) := by
  simp only [bo, Sem.run_bind, eqGuard_int, Result.andThen_ok]
theorem bo_lss (t : TypeId) (x y : Operand) (k : IntKind) (a b : Int) (w : World) : bo P .lss t x y (.int k a) (.int k b) w = some (.bool (decide (a < b)), w) := by
  rw [bo_int]; simp [binOp, Op.intCmp, ro]
theorem bo_leq (t : TypeId) (x y : Operand) (k : IntKind) (a b : Int) (w : World) : bo P .leq t x y (.int k a) (.int k b) w = some (.bool (decide (a ≤ b)), w) := by
  rw [bo_int]; simp [binOp, Op.intCmp, ro]
theorem bo_gtr (t : TypeId) (x y : Operand) (k : IntKind) (a b : Int) (w : World) : bo P .gtr t x y (.int k a) (.int k b) w = some (.bool (decide (b < a)), w) := by
  rw [bo_int]; simp [binOp, Op.intCmp, ro]
theorem bo_geq (t : TypeId) (x y : Operand) (k : IntKind) (a b : Int) (w : World) : bo P .geq t x y (.int k a) (.int k b) w = some (.bool (decide (b ≤ a)), w) := by
  rw [bo_int]; simp [binOp, Op.intCmp, ro]
theorem bo_eql (t : TypeId) (x y : Operand) (k : IntKind) (a b : Int) (w : World) : bo P .eql t x y (.int k a) (.int k b) w = some (.bool (a == b), w) := by
  rw [bo_int]; simp [binOp, Op.intCmp, ro]
theorem bo_neq (t : TypeId) (x y : Operand) (k : IntKind) (a b : Int) (w : World) : bo P .neq t x y (.int k a) (.int k b) w = some (.bool (a != b), w) := by
  rw [bo_int]; simp [binOp, Op.intCmp, ro]
theorem bo_add (t : TypeId) (x y : Operand) (k : IntKind) (a b : Int) (w : World) : bo P .add t x y (.int k a) (.int k b) w = some (.int k (k.wrap (a + b)), w) := by
  rw [bo_int]; simp [binOp, Op.intArith, ro]
theorem bo_sub (t : TypeId) (x y : Operand) (k : IntKind) (a b : Int) (w : World) : bo P .sub t x y (.int k a) (.int k b) w = some (.int k (k.wrap (a - b)), w) := by
  rw [bo_int]; simp [binOp, Op.intArith, ro]
theorem bo_mul (t : TypeId) (x y : Operand) (k : IntKind) (a b : Int) (w : World) : bo P .mul t x y (.int k a) (.int k b) w = some (.int k (k.wrap (a * b)), w) := by
  rw [bo_int]; simp [binOp, Op.intArith, ro]
theorem bo_neq_bool {t : TypeId} (h : P.underlying t = some .bool) (x y : Operand) (a b : Bool) (w : World) : bo P .neq t x y (.bool a) (.bool b) w = some (.bool (!(a == b)), w) := by
  have : (Op.equal t (.bool a) (.bool b)).run P w = .ok (a == b) w := by
    unfold Op.equal Op.maxDepth
    rw [Op.equalIn]
    simp only [Sem.run_bind, run_underlying h, Result.andThen_ok]
    rfl
  simp [bo, eqGuard, binOp, Sem.run_bind, this, ro]
theorem bo_str (op : BinOp) (t : TypeId) (x y : Operand) (a b : ByteArray) (w : World) : bo P op t x y (.string a) (.string b) w = ro ((Op.stringOp op a b).run P w) := by
  simp only [bo, eqGuard, binOp]
  cases op <;> simp
theorem bo_eql_str (t : TypeId) (x y : Operand) (a b : ByteArray) (w : World) : bo P .eql t x y (.string a) (.string b) w = some (.bool (a.toList == b.toList), w) := by
  rw [bo_str]; simp [Op.stringOp, ro]
theorem bo_neq_str (t : TypeId) (x y : Operand) (a b : ByteArray) (w : World) : bo P .neq t x y (.string a) (.string b) w = some (.bool (!(a.toList == b.toList)), w) := by
  rw [bo_str]; simp [Op.stringOp, ro]
theorem uo_not (b : Bool) (w : World) : uo P .not (.bool b) w = some (.bool (!b), w) := by simp [uo, Op.unary, ro]
theorem uo_neg (n : Int) (w : World) : uo P .neg (i64 n) w = some (i64 (IntKind.i64.wrap (0 - n)), w) := by simp [uo, Op.unary, Op.intArith, ro]
theorem xt_eq (vs : List Value) (i : Nat) {v : Value} (h : vs[i]? = some v) (w : World) : xt P (.tuple vs.toArray) i w = some (v, w) := by
  simp [xt, Instr.extract, h, ro]
theorem bd_of {t : TypeId} {ps : Array (Nat × Value)} {cells : Array Value} (h : P.built t ps.toList = some cells) {w : World} : bd P t ps w = some (.agg cells, w) := by
  simp only [bd, run_build w t ps cells h, ro]
/-- The cells of a slice that is written out. -/
def zrep (z : List Value) : Nat → List Value
  | 0 => []
  | n + 1 => z ++ zrep z n
def sbuilt (P : Program) (t : TypeId) (len : Nat) (ps : List (Nat × Value)) : Option (TypeId × Array Value) :=
  match P.underlying t with
  | some (.slice e) => (match P.info? e with
    | some i => (match i.zero with
      | some z => (match decide (0 < len * i.size) && decide (len * i.size ≤ 2 ^ 24) && Nat.beq z.cells.size i.size with
        | true => (match Instr.fill (fun k => some (k * i.size, i.size)) (zrep z.cells.toList len).toArray ps with | some cs => some (e, cs) | none => none)
        | false => none)
      | none => none)
    | none => none)
  | _ => none
theorem zrep_get (z : List Value) (hz : 0 < z.length) : ∀ (n j : Nat), (zrep z n)[j]? = if j < n * z.length then some (z[j % z.length]!) else none
  | 0, j => by simp [zrep]
  | n + 1, j => by
    simp only [zrep, List.getElem?_append]
    by_cases hj : j < z.length
    · rw [if_pos hj, if_pos (by rw [Nat.succ_mul]; omega), Nat.mod_eq_of_lt hj]
      simp [hj]
    · rw [if_neg hj, zrep_get z hz n]
      have : (j - z.length) % z.length = j % z.length := by
        rw [Nat.mod_eq_sub_mod (a := j) (by omega)]
      rw [this]
      by_cases h : j < (n + 1) * z.length
      · rw [if_pos h, if_pos (by rw [Nat.succ_mul] at h; omega)]
      · rw [if_neg h, if_neg (by rw [Nat.succ_mul] at h; omega)]
theorem zrep_eq (z : Array Value) (hz : 0 < z.size) (n : Nat) : (Array.range (n * z.size)).map (z[· % z.size]!) = (zrep z.toList n).toArray := by
  apply Array.ext'
  apply List.ext_getElem?
  intro j
  have := zrep_get z.toList (by simpa using hz) n j
  simp only [Array.length_toList] at this
  rw [this]
  by_cases h : j < n * z.size
  · have hm : j % z.size < z.size := Nat.mod_lt _ hz
    simp [h, hm]
  · simp [h]
theorem bs_of {t e : TypeId} {n : Nat} {ps : Array (Nat × Value)} {cells : Array Value} (h : sbuilt P t n ps.toList = some (e, cells)) {w : World} :
    bs P t n ps w = some (.slice (some ⟨w.heap.size, 0, none⟩) n n, w.alloc (.cells cells e)) := by
  unfold sbuilt at h
  split at h
  · rename_i e' hu
    split at h
    · rename_i i hi
      split at h
      · rename_i z hz
        split at h
        · rename_i hc
          simp only [Bool.and_eq_true, decide_eq_true_eq, Nat.beq_eq] at hc
          obtain ⟨⟨h1, h2⟩, h3⟩ := hc
          split at h
          · rename_i cs hf
            simp only [Option.some.injEq, Prod.mk.injEq] at h
            obtain ⟨rfl, rfl⟩ := h
            have hpos : 0 < z.cells.size := by rw [h3]; exact Nat.pos_of_mul_pos_left h1
            have := run_buildSlice (P := P) w t e' n ps cs i z hu hi hz (by omega) (by omega) (by rw [← h3, zrep_eq _ hpos, h3]; exact hf)
            simp only [bs, this, ro]
          · contradiction
        · contradiction
      · contradiction
    · contradiction
  · contradiction
/-! ### A store -/
def splice (cur : List Value) (o : Nat) (vs : List Value) : List Value := cur.take o ++ (vs ++ cur.drop (o + vs.length))
noncomputable def stRaw (P : Program) (t : TypeId) (b o : Nat) (v : Value) (w : World) := st P t (pt b o) v w
noncomputable def stR (P : Program) (t : TypeId) (n b o : Nat) (v : Value) (w : World) : Option Obj → Option (Value × World)
  | some (.cells cur e (0, 0)) => if v.cells.size = n ∧ o + n ≤ cur.size ∧ v.cells.toList.all Value.oneCell' = true then some (undef, w.setRow b (splice cur.toList o v.cells.toList).toArray) else stRaw P t b o v w
  | _ => stRaw P t b o v w
theorem stR_cells (t n b o : Nat) (v : Value) (w : World) (cur : Array Value) (e : TypeId) : stR P t n b o v w (some (.cells cur e (0, 0))) =
    if v.cells.size = n ∧ o + n ≤ cur.size ∧ v.cells.toList.all Value.oneCell' = true then some (undef, w.setRow b (splice cur.toList o v.cells.toList).toArray) else stRaw P t b o v w := by cases w; rfl
theorem ldR_some (t b o : Nat) (w : World) (v : Value) : ldR P t b o w (some v) = some (v, w) := by cases w; rfl
theorem ldL_some (t b o : Nat) (w : World) (v : List Value) : ldL P t b o w (some v) = some (.agg v.toArray, w) := by cases w; rfl
theorem st_eq {t n : Nat} (hs : szB P t = some n) (b o : Nat) (v : Value) (w : World) : st P t (pt b o) v w = stR P t n b o v w (hp w b) := by
  unfold hp
  cases hg : w.heap[b]? with
  | none => rfl
  | some x =>
    cases x with
    | cells cur e z =>
      by_cases hz : z = (0, 0)
      · subst hz
        simp only [stR]
        split
        · rename_i h
          obtain ⟨h1, h2, h3⟩ := h
          have hr := run_storeCells_at P b o e v.cells.toList 0 cur w hg (by simp; omega) (fun x hx => List.all_eq_true.1 h3 x hx)
          simp only [st, pt, Instr.storeAt, Instr.sureAddr, storeVar, Sem.run_bind, Sem.run_pure, Result.andThen_ok, run_sizeOf' hs, h1]
          simp only [Nat.add_zero] at hr
          simp [hr, rs, splice]
        · rfl
      · have : stR P t n b o v w (some (.cells cur e z)) = stRaw P t b o v w := by
          obtain ⟨z1, z2⟩ := z
          unfold stR
          split
          · rename_i heq
            simp only [Option.some.injEq, Obj.cells.injEq] at heq
            exact absurd heq.2.2 hz
          · rfl
        rw [this]
        rfl
    | _ => rfl
def setO (cs : Array Value) : Option Obj → Option Obj
  | some (.cells _ e z) => some (.cells cs e z)
  | x => x
theorem setO_some (cs c : Array Value) (e : TypeId) (z : Nat × Nat) : setO cs (some (.cells c e z)) = some (.cells cs e z) := by cases z; rfl
theorem hp_set_eq (w : World) (b : Nat) (cs : Array Value) : hp (w.setRow b cs) b = setO cs (hp w b) := by
  simp only [hp, World.setRow, Array.getElem?_modify, if_true]
  cases hg : w.heap[b]? with
  | none => rfl
  | some x => cases x <;> rfl
theorem hp_set_ne {w : World} {b k : Nat} {cs : Array Value} (h : k ≠ b) : hp (w.setRow b cs) k = hp w k := setRow_other w b k cs h
/-! ### What a run comes to -/
theorem Ret.some {R : Type} {r : R} {Q : R → Prop} (h : Q r) : Ret (some r) Q := ⟨r, rfl, h⟩
theorem ret_some {R : Type} (r : R) (Q : R → Prop) : Ret (Option.some r) Q = Q r := by
  apply propext
  constructor
  · rintro ⟨x, hx, h⟩; cases hx; exact h
  · exact fun h => ⟨r, rfl, h⟩
theorem Ret.bind {R S : Type} {x : Option R} {k : R → Option S} {Q : R → Prop} {Q' : S → Prop} (h : Ret x Q) (hk : ∀ r, Q r → Ret (k r) Q') : Ret (x.bind k) Q' := by
  obtain ⟨r, rfl, hr⟩ := h
  exact hk r hr
theorem Ret.mono {R : Type} {x : Option R} {Q Q' : R → Prop} (h : Ret x Q) (hq : ∀ r, Q r → Q' r) : Ret x Q' := by
  obtain ⟨r, h1, hr⟩ := h
  exact ⟨r, h1, hq r hr⟩
/-- The way in: what the printed text says of a function's call, the call comes to. -/
theorem Ret.enter (hP : Plain P) (hm : P.follows .mixedOrders = true) {f : FuncId} {args : Array Value} {w : World} {Q : Value × World → Prop} {n : Nat} {x : Option (Value × World)} (e : fnC P (EV P) f args w = x) (hi : P.inits.idxOf? f = none)
    (hn : (P.funcs.toList[f]?).map (fun fn => Nat.ble n fn.ntmps) = Option.some true) (ha : args.size = n) (h : Ret x Q) : Ret (EV P f args w) Q := by
  obtain ⟨r, h1, h2⟩ := h
  refine ⟨r, EV_of hP hm hi (fun fn hf => ?_) (by rw [← fnC_eq]; exact e.trans h1), h2⟩
  rw [Array.getElem?_toList, hf] at hn
  simp only [Option.map_some, Option.some.injEq, Nat.ble_eq] at hn
  omega
theorem bnd {R S : Type} (x : R) (f : R → Option S) : (Option.some x).bind f = f x := by cases h : f x <;> simp [h]
theorem nth_nil (i : Nat) : nth [] i = none := by cases i <;> rfl
theorem nth_zero (a : Value) (l : List Value) : nth (a :: l) 0 = Option.some a := by cases l <;> rfl
theorem nth_succ (a : Value) (l : List Value) (n : Nat) : nth (a :: l) (n + 1) = nth l n := by cases l <;> rfl
theorem cellsAt_zero (w : World) (b o : Nat) : cellsAt w b o 0 = Option.some [] := by cases w; rfl
theorem cellsAt_succ (w : World) (b o n : Nat) : cellsAt w b o (n + 1) = consO (cellO (hp w b) o) (cellsAt w b (o + 1) n) := by
  rw [cellsAt]
  cases cellO (hp w b) o with
  | none => rfl
  | some v => cases cellsAt w b (o + 1) n <;> rfl
theorem consO_some (v : Value) (l : List Value) : consO (Option.some v) (Option.some l) = Option.some (v :: l) := by cases l <;> rfl
theorem splice_eq (cur : List Value) (o : Nat) (vs : List Value) : splice cur o vs = cur.take o ++ (vs ++ cur.drop (o + vs.length)) := by cases cur <;> rfl
theorem cnd_t {R : Type} (x y : Option R) : cnd (.bool true) x y = x := by cases x <;> rfl
theorem cnd_f {R : Type} (x y : Option R) : cnd (.bool false) x y = y := by cases x <;> rfl
theorem gif_tt (x : Option (Value × World)) (w : World) : gif (.bool true) true x w = x := by cases x <;> rfl
theorem gif_tf (x : Option (Value × World)) (w : World) : gif (.bool true) false x w = Option.some (undef, w) := by cases x <;> rfl
theorem gif_ft (x : Option (Value × World)) (w : World) : gif (.bool false) true x w = Option.some (undef, w) := by cases x <;> rfl
theorem gif_ff (x : Option (Value × World)) (w : World) : gif (.bool false) false x w = x := by cases x <;> rfl
theorem gif_u (t : Bool) (x : Option (Value × World)) (w : World) : gif undef t x w = Option.some (undef, w) := by cases x <;> rfl
theorem pick_t (a b : Value) (w : World) : pickV (.bool true) a b w = Option.some (a, w) := by cases a <;> rfl
theorem pick_f (a b : Value) (w : World) : pickV (.bool false) a b w = Option.some (b, w) := by cases a <;> rfl
theorem cells_agg (cs : Array Value) : Value.cells (.agg cs) = cs := by cases cs; rfl
theorem cells_int (k : IntKind) (n : Int) : Value.cells (.int k n) = #[.int k n] := by cases k <;> rfl
theorem cells_bool (b : Bool) : Value.cells (.bool b) = #[.bool b] := by cases b <;> rfl
theorem cells_string (b : ByteArray) : Value.cells (.string b) = #[.string b] := by cases b; rfl
theorem cells_slice (a : Option Addr) (l c : Nat) : Value.cells (.slice a l c) = #[.slice a l c] := by cases a <;> rfl
theorem cells_pointer (a : Option Addr) : Value.cells (.pointer a) = #[.pointer a] := by cases a <;> rfl
theorem cells_map (a : Option Nat) : Value.cells (.map a) = #[.map a] := by cases a <;> rfl
theorem cells_nilIface : Value.cells .nilIface = #[.nilIface] := rfl
theorem cells_func (f : Fn) (a b : Array Value) : Value.cells (.func f a b) = #[.func f a b] := by cases a; rfl
theorem bind_cong {α β : Type} {x y : Option α} (f : α → Option β) (h : Unit → x = y) : x.bind f = y.bind f := by rw [h ()]
theorem cnd_cong {R : Type} {c d : Value} (x y : Option R) (h : Unit → c = d) : cnd c x y = cnd d x y := by rw [h ()]
theorem ifP_cong {R : Type} {p q : Prop} (x : Option R) (h : Unit → p = q) : ifP p x = ifP q x := by cases h (); rfl
attribute [congr] bind_cong cnd_cong ifP_cong
theorem ifP_true {R : Type} (x : Option R) : ifP True x = x := ifP_pos x trivial
theorem vl_eq (v : Value) (w : World) : vl v w = Option.some (v, w) := by cases w; rfl
/-! ### Worlds -/
theorem dw_size (w : World) : (dw w).heap.size = w.heap.size := by cases w; rfl
theorem hp_dw (w : World) (b : Nat) : hp (dw w) b = hp w b := by cases w; rfl
theorem dw_ext (w : World) : Ext w (dw w) := (Below.refl _ w).drew
theorem hp_alloc_lt {w : World} {o : Obj} {b : Nat} (h : b < w.heap.size) : hp (w.alloc o) b = hp w b := Below.heap_alloc w o b h
theorem hp_alloc_eq {w : World} {o : Obj} {b : Nat} (h : b = w.heap.size) : hp (w.alloc o) b = Option.some o := by subst h; exact heap_alloc_new w o
theorem hp_lt {w : World} {b : Nat} {o : Obj} (h : hp w b = Option.some o) : b < w.heap.size := (Array.getElem?_eq_some_iff.1 h).1
theorem Ext.blk {w w' : World} (h : Ext w w') {b : Nat} (hb : b < w.heap.size) : hp w' b = hp w b := h.block b hb
theorem Ext.alloc (w : World) (o : Obj) : Ext w (w.alloc o) := (Below.refl _ w).alloc (Nat.le_refl _) o
theorem Ext.tr {a b c : World} (h : Ext a b) (k : Ext b c) : Ext a c := Below.trans h (k.mono h.size)
theorem Ext.rfl {a : World} : Ext a a := Below.refl _ a
theorem Ext.al {a b : World} (h : Ext a b) (o : Obj) : Ext a (b.alloc o) := h.tr (Ext.alloc b o)
theorem Ext.dw {a b : World} (h : Ext a b) : Ext a (dw b) := h.tr (dw_ext b)
theorem Ext.set {a b : World} (h : Ext a b) {k : Nat} (hk : a.heap.size ≤ k) (cs : Array Value) : Ext a (b.setRow k cs) :=
  Below.trans h ⟨by rfl, by rfl, by rfl, by simp, fun i hi => setRow_other _ _ _ _ (by omega)⟩
theorem At.mono {w w' : World} {b o : Nat} {l : List Value} (h : At w b o l) (he : ∀ b, b < w.heap.size → hp w' b = hp w b) : At w' b o l := by
  intro j v hv
  have h1 := h j v hv
  have : b < w.heap.size := by
    rcases Nat.lt_or_ge b w.heap.size with h' | h'
    · exact h'
    · rw [hp, Array.getElem?_eq_none h'] at h1; simp [cellO] at h1
  rw [he b this]; exact h1
theorem w64 {x : Int} (h0 : -9223372036854775808 ≤ x) (h1 : x ≤ 9223372036854775807) : IntKind.i64.wrap x = x := by
  simp only [IntKind.wrap, IntKind.bits, IntKind.signed, Bool.true_and, decide_eq_true_eq, show (2 : Int) ^ 64 = 18446744073709551616 from rfl, show (2 : Int) ^ (64 - 1) = 9223372036854775808 from rfl]
  split <;> omega
theorem cv_int {src dst : TypeId} {j : IntKind} (hs : (P.underlying src).isSome = true) (hd : P.underlying dst = Option.some (.int j)) (k : IntKind) (n : Int) (w : World) :
    cv P src dst (.int k n) w = Option.some (.int j (j.wrap n), w) := by
  obtain ⟨d, hd'⟩ := Option.isSome_iff_exists.mp hs
  simp [cv, convert, run_underlying hd', run_underlying hd, Conv.intToInt, ro]
theorem bo_rem (t : TypeId) (x y : Operand) (k : IntKind) (a : Int) {b : Int} (h : b ≠ 0) (w : World) : bo P .rem t x y (.int k a) (.int k b) w = Option.some (.int k (a.tmod b), w) := by
  rw [bo_int]; simp [binOp, Op.intDiv, h, ro]
theorem bo_quo (t : TypeId) (x y : Operand) (k : IntKind) (a : Int) {b : Int} (h : b ≠ 0) (w : World) : bo P .quo t x y (.int k a) (.int k b) w = Option.some (.int k (k.wrap (a.tdiv b)), w) := by
  rw [bo_int]; simp [binOp, Op.intDiv, h, ro]
theorem bo_add_str (t : TypeId) (x y : Operand) {a b : ByteArray} (h : a.size + b.size ≤ 9223372036854775807) (w : World) : bo P .add t x y (.string a) (.string b) w = Option.some (.string (a ++ b), w) := by
  have h' : ¬ (((a.size + b.size : Nat) : Int) > IntKind.i64.max) := by rw [show IntKind.i64.max = 9223372036854775807 from rfl]; omega
  rw [bo_str]; simp only [Op.stringOp, h', if_false, Sem.run_pure, ro]
def bytesOf (ns : List Int) : ByteArray := ns.foldl (fun r n => r.push (UInt8.ofNat n.toNat)) ByteArray.empty
theorem cv_bytes {src dst e : TypeId} (hs : P.underlying src = Option.some (.slice e)) (he : P.underlying e = Option.some (.int .u8)) (hd : P.underlying dst = Option.some .string) {w : World} {b o c : Nat} {ns : List Int}
    (hA : At w b o (ns.map (Value.int .u8))) : cv P src dst (.slice (Option.some ⟨b, o, none⟩) ns.length c) w = Option.some (.string (bytesOf ns), w) := by
  have hl := run_loadCells_list (P := P) w ⟨b, o, none⟩ (ns.map (Value.int .u8)) (fun j v hv => by rw [add_lit, cell?_eq]; exact hA j v hv)
  rw [List.length_map] at hl
  simp only [cv, run_convert_bytes_string w src dst e _ _ _ hs he hd, run_bytesToString w _ _ c ns hl, ro]
  rfl
theorem app_none {t ty e : TypeId} {z : Nat × Nat} (h : elB P t = Option.some (e, z)) (a b : Option Addr) (n c d : Nat) (hn : n ≤ c) (w : World) : b_append P #[t, t] ty #[.slice a n c, .slice b 0 d] w = Option.some (.slice a n c, w) := by
  unfold elB at h
  split at h
  · rename_i e' hu
    split at h
    · rename_i i hi
      cases a <;> cases b <;> simp [b_append, Builtin.append_, run_underlying hu, sizeOf, typeInfo, hi, Builtin.lenOf, Builtin.firstCells, hn, storeCells, ro, show ∀ b : Addr, (loadCells b 0).run P w = .ok #[] w from fun b => run_loadCells_list w b [] (fun j v hv => by simp at hv)]
    · contradiction
  · contradiction
theorem nk_ptr (b o : Nat) (w : World) : nk P (pt b o) w = Option.some (pt b o, w) := by
  simp [nk, execOp, nx]
/-! ### make, append -/
theorem elB_spec {t e s y : Nat} (h : elB P t = Option.some (e, s, y)) : P.underlying t = Option.some (.slice e) ∧ ∃ i, P.info? e = Option.some i ∧ i.size = s ∧ i.bytes = y := by
  unfold elB at h
  split at h
  · rename_i e' hu
    split at h
    · rename_i x hx
      simp only [Option.some.injEq, Prod.mk.injEq] at h
      obtain ⟨rfl, rfl, rfl⟩ := h
      exact ⟨hu, x, hx, by rfl, by rfl⟩
    · contradiction
  · contradiction
theorem zeroB_spec {e : Nat} {z : List Value} (h : zeroB P e = Option.some z) : ∃ i v, P.info? e = Option.some i ∧ i.zero = Option.some v ∧ v.cells.toList = z := by
  unfold zeroB at h
  split at h
  · rename_i i hi
    split at h
    · rename_i v hv
      simp only [Option.some.injEq] at h
      exact ⟨i, v, hi, hv, h⟩
    · contradiction
  · contradiction
theorem ms_eq {t e s y : Nat} (h : elB P t = Option.some (e, s, y)) {z : List Value} (hz : zeroB P e = Option.some z) (hzs : z.length = s) (hs : 0 < s) {l c : Int} (h0 : 0 ≤ l) (h1 : l ≤ c) (h2 : y * c ≤ 281474976710656) (h3 : c ≤ 9223372036854775807) (w : World) :
    ms P t (i64 l) (i64 c) w = Option.some (.slice (Option.some ⟨w.heap.size, 0, none⟩) l.toNat c.toNat, w.alloc (.cells (zrep z c.toNat).toArray e)) := by
  obtain ⟨hu, i, hi, h4, h5⟩ := elB_spec h
  obtain ⟨i', v, hi', hv, h6⟩ := zeroB_spec hz
  rw [hi] at hi'
  cases hi'
  have hsz : v.cells.size = s := by rw [← hzs, ← h6]; simp
  have := run_make (P := P) w t e i v hu hi hv .i64 .i64 l c h0 h1 (by rw [h5]; exact h2) h3
  rw [h4] at this
  have hm : madeCells v.cells (c.toNat * s) = (zrep z c.toNat).toArray := by
    rw [← hsz, ← h6]
    exact zrep_eq v.cells (by omega) c.toNat
  rw [hm] at this
  simp only [ms, this, ro]
/-- A row of one's own, in a block from B on: its first n elements' cells are l. -/
def Own (w : World) (B : Nat) (e : TypeId) (size : Nat) (s : Value) (n : Nat) (l : List Value) : Prop :=
  l.length = n * size ∧ n ≤ 9223372036854775807 ∧ ((s = .slice none 0 0 ∧ n = 0) ∨
    ∃ g cap cur, s = .slice (Option.some ⟨g, 0, none⟩) n cap ∧ B ≤ g ∧ hp w g = Option.some (.cells cur e (0, 0)) ∧ n ≤ cap ∧ cap ≤ 9223372036854775807 ∧ cap * size ≤ cur.size ∧ cur.toList.take (n * size) = l)
/-- Its block. -/
def blkOf : Value → Option Nat | .slice (some a) _ _ => some a.block | _ => none
/-- What was there is there, but for this block. -/
structure But (w w' : World) (g : Option Nat) : Prop where
  os : w'.os = w.os
  tape : w'.tape = w.tape
  output : w'.output = w.output
  size : w.heap.size ≤ w'.heap.size
  blk : ∀ b, b < w.heap.size → g ≠ Option.some b → hp w' b = hp w b
theorem But.ext {w w' : World} (h : But w w' none) : Ext w w' := ⟨h.os, h.tape, h.output, h.size, fun b hb => h.blk b hb (by simp)⟩
theorem app_own {t ty e s y : Nat} (h : elB P t = Option.some (e, s, y)) {z : List Value} (hz : zeroB P e = Option.some z) (hzs : z.length = s) (hs : 0 < s) {w : World} {B n : Nat} {v : Value} {l news : List Value}
    (ho : Own w B e s v n l) (hB : B ≤ w.heap.size) {b o m c : Nat} (hA : At w b o news) (hn : news.length = m * s) (h1 : news.all Value.oneCell' = true) (hb : (n + m) * y ≤ 140737488355328) (hb2 : n + m ≤ 140737488355328) (hm : 0 < m) :
    Ret (b_append P #[t, t] ty #[v, .slice (Option.some ⟨b, o, none⟩) m c] w) fun r => Own r.2 B e s r.1 (n + m) (l ++ news) ∧ But w r.2 (blkOf v) ∧ (blkOf r.1 = blkOf v ∨ ∃ g, blkOf r.1 = Option.some g ∧ w.heap.size ≤ g ∧ g < r.2.heap.size) := by
  obtain ⟨hu, i, hi, h4, h5⟩ := elB_spec h
  obtain ⟨i', zv, hi', hv, h6⟩ := zeroB_spec hz
  rw [hi] at hi'
  cases hi'
  have hsz : zv.cells.size = s := by rw [← hzs, ← h6]; simp
  obtain ⟨hl, hn2, ho⟩ := ho
  have hA' : ∀ j u, news[j]? = Option.some u → w.cell? ((⟨b, o, none⟩ : Addr).add j) = Option.some u := fun j u hu => by rw [add_lit, cell?_eq]; exact hA j u hu
  have h1' : ∀ u ∈ news, u.oneCell' = true := fun u hu => List.all_eq_true.1 h1 u hu
  have hlen : (l ++ news).length = (n + m) * s := by rw [List.length_append, hl, hn, Nat.add_mul]
  have grown : ∀ old, old < n + m → ∀ g, Own (w.drew.alloc (.cells (l.toArray ++ news.toArray ++ Builtin.zeroCells zv.cells (grownCap w (n + m) old e - (n + m))) e)) B e s
      (.slice (Option.some ⟨w.heap.size, 0, none⟩) (n + m) (grownCap w (n + m) old e)) (n + m) (l ++ news) ∧
      But w (w.drew.alloc (.cells (l.toArray ++ news.toArray ++ Builtin.zeroCells zv.cells (grownCap w (n + m) old e - (n + m))) e)) g := by
    intro old hold g
    have hge := grownCap_ge w (n + m) old e
    have hle := grownCap_le_maxLen w (n + m) old e (by simp only [maxLen]; omega)
    simp only [maxLen] at hle
    refine ⟨⟨hlen, by omega, .inr ⟨w.heap.size, _, _, by rfl, hB, hp_alloc_eq (w := w.drew) (by rfl), hge, by omega, ?_, ?_⟩⟩, ⟨by rfl, by rfl, by rfl, by simp, fun k hk _ => hp_alloc_lt (w := w.drew) hk⟩⟩
    · simp only [Array.size_append, List.size_toArray, size_zeroCells, hsz, hl, hn, ← Nat.add_mul]
      exact Nat.mul_le_mul_right _ (by omega)
    · simp only [Array.toList_append, List.append_assoc]
      rw [← List.append_assoc, ← hlen]
      exact List.take_left
  rcases ho with ⟨rfl, rfl⟩ | ⟨g, cap, cur, rfl, hg, hh, hc, hcm, hcs, ht⟩
  · have hl0 : l = [] := List.eq_nil_of_length_eq_zero (by simpa using hl)
    subst hl0
    have hr := run_append_nil (P := P) w t ty e i zv hu hi hv ⟨b, o, none⟩ m c news (by rw [h4]; exact hn) hA' hm (by omega) (by rw [h5]; simp only [Nat.zero_add] at hb; omega)
    have hgr := grown 0 (by omega) (blkOf (.slice none 0 0))
    simp only [Nat.zero_add, List.nil_append, Array.empty_append] at hgr
    have hx := congrArg ro hr
    refine ⟨_, hx, ?_, hgr.2, .inr ⟨w.heap.size, by rfl, Nat.le_refl _, by simp⟩⟩
    simpa using hgr.1
  · by_cases hroom : n + m ≤ cap
    · have hfit : n * i.size + news.length ≤ cur.size := by rw [h4, hn, ← Nat.add_mul]; exact Nat.le_trans (Nat.mul_le_mul_right _ hroom) hcs
      have hr := run_append_room (P := P) w t ty e i hu hi g n cap cur hh ⟨b, o, none⟩ m c news (by rw [h4]; exact hn) hA' h1' hroom hfit
      rw [h4] at hr hfit
      have hx := congrArg ro hr
      refine ⟨_, hx, ⟨hlen, by omega, .inr ⟨g, cap, _, by rfl, hg, setRow_heap w g cur _ e _ hh, hroom, hcm, ?_, ?_⟩⟩, ⟨by rfl, by rfl, by rfl, by simp, fun k hk hne => setRow_other _ _ _ _ (fun e => hne (by rw [e]; rfl))⟩, .inl (by rfl)⟩
      · simp only [List.size_toArray, List.length_append, List.length_take, List.length_drop, Array.length_toList]
        omega
      · have h7 : (cur.toList.take (n * s) ++ news).length = (n + m) * s := by rw [ht]; exact hlen
        simp only [← h7]
        rw [List.take_left, ht]
    · have hold : ∀ j u, l[j]? = Option.some u → w.cell? ((⟨g, 0, none⟩ : Addr).add j) = Option.some u := by
        intro j u hju
        rw [add_lit, cell?_eq, hh, cellO_some, ← nth_eq]
        rw [← ht, List.getElem?_take] at hju
        split at hju
        · simpa using hju
        · contradiction
      have hr := run_append_grow (P := P) w t ty e i zv hu hi hv ⟨g, 0, none⟩ n cap l (by rw [h4]; exact hl) hold ⟨b, o, none⟩ m c news (by rw [h4]; exact hn) hA' (by omega) (by omega)
        (growslice_fits (by omega) (by rw [h5]; exact hb))
      have hgr := grown cap (by omega) (blkOf (.slice (Option.some ⟨g, 0, none⟩) n cap))
      have hx := congrArg ro hr
      exact ⟨_, hx, hgr.1, hgr.2, .inr ⟨w.heap.size, by rfl, Nat.le_refl _, by simp⟩⟩
theorem Own.at {w : World} {B : Nat} {e : TypeId} {size : Nat} {s : Value} {n : Nat} {l : List Value} (h : Own w B e size s n l) :
    ∃ a c, s = .slice a n c ∧ n ≤ 9223372036854775807 ∧ (l = [] ∨ ∃ b o, a = Option.some ⟨b, o, none⟩ ∧ At w b o l) := by
  obtain ⟨hl, hn, h⟩ := h
  rcases h with ⟨rfl, rfl⟩ | ⟨g, cap, cur, rfl, hg, hh, hc, hcm, hcs, ht⟩
  · exact ⟨none, 0, by rfl, hn, .inl (List.eq_nil_of_length_eq_zero (by simpa using hl))⟩
  · refine ⟨_, _, by rfl, hn, .inr ⟨g, 0, by rfl, fun j v hv => ?_⟩⟩
    rw [hh, cellO_some, ← nth_eq, Nat.zero_add]
    rw [← ht, List.getElem?_take] at hv
    split at hv
    · simpa using hv
    · contradiction
theorem Own.keep {w w' : World} {B : Nat} {e : TypeId} {size : Nat} {s : Value} {n : Nat} {l : List Value} (h : Own w B e size s n l) (hk : ∀ g, blkOf s = Option.some g → hp w' g = hp w g) : Own w' B e size s n l := by
  obtain ⟨hl, hn, h⟩ := h
  refine ⟨hl, hn, h.imp id ?_⟩
  rintro ⟨g, cap, cur, rfl, hg, hh, rest⟩
  exact ⟨g, cap, cur, by rfl, hg, (hk g (by rfl)).trans hh, rest⟩
theorem Own.from {w : World} {B C : Nat} {e : TypeId} {size : Nat} {s : Value} {n : Nat} {l : List Value} (h : Own w B e size s n l) (hC : C ≤ B) : Own w C e size s n l := by
  obtain ⟨hl, hn, h⟩ := h
  refine ⟨hl, hn, h.imp id ?_⟩
  rintro ⟨g, cap, cur, h1, hg, rest⟩
  exact ⟨g, cap, cur, h1, by omega, rest⟩
theorem Own.nil (w : World) (B : Nat) (e : TypeId) (size : Nat) : Own w B e size (.slice none 0 0) 0 [] := ⟨by simp, by omega, .inl ⟨by rfl, by rfl⟩⟩
theorem Own.lt {w : World} {B : Nat} {e : TypeId} {size : Nat} {s : Value} {n : Nat} {l : List Value} (h : Own w B e size s n l) {g : Nat} (hg : blkOf s = Option.some g) : B ≤ g ∧ g < w.heap.size ∧ ∃ cur, hp w g = Option.some (.cells cur e (0, 0)) := by
  obtain ⟨hl, hn, h⟩ := h
  rcases h with ⟨rfl, rfl⟩ | ⟨g', cap, cur, rfl, hgg, hh, rest⟩
  · simp [blkOf] at hg
  · simp only [blkOf, Option.some.injEq] at hg
    subst hg
    exact ⟨hgg, hp_lt hh, cur, hh⟩
end
end Go.Ev
