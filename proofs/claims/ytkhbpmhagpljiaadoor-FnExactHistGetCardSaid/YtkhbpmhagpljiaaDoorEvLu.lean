/- A part of the proof: an evaluator of the model, its laws, and contracts of functions; no condition. -/
import Derived.Lib.BufferWrite
import Derived.Lib.UnsafeStr
import Derived.Lib.ConvBytes
import Derived.Lib.Bytealg
import Derived.Laws.Externs
import Derived.BigFrame
import Derived.Laws.Strings3
import Derived.Laws.Build
import Derived.Test.YtkhbpmhagpljiaaDoorEvLt
import Derived.Test.YtkhbpmhagpljiaaDoorEvG
set_option linter.unusedVariables false
set_option linter.unusedSimpArgs false
namespace Go.Ev
open Go Go.RowKit
/-! ### Texts as rows of bytes, errors, bytes sought in a text -/
section
variable {P : Program}
theorem gn_ustr (dst : Option Tmp) (a b : Nat) (ats : Array TypeId) (ty : TypeId) (pos : String) (after : Array Edge) (e : Env) (w : World) :
    gn P { dst := dst, op := .call { callee := .builtin .unsafeString, args := #[.tmp a, .tmp b], argTypes := ats }, type := ty, pos := pos, after := after, guard := none } e w = ro ((Builtin.unsafeString_ ats ty #[e a, e b]).run P w) := by
  unfold gn
  rw [BigFrame.execOp_builtin, BigFrame.builtin_unsafeString]
  have h : (#[Operand.tmp a, Operand.tmp b].map (val e)) = #[e a, e b] := by simp [val]
  rw [h, Sem.run_bind]
  cases (Builtin.unsafeString_ ats ty #[e a, e b]).run P w <;> rfl
theorem cp_str {dT sT ty e : TypeId} (hu : P.underlying dT = some (.slice e)) (hs : (P.info? e).map (·.size) = some 1) {w : World} {g : Nat} {cur : List Value} {s : ByteArray} {n c : Nat} (hg : hp w g = some (.cells cur.toArray e (0, 0))) (hn : s.size = n) (hc : cur.length = n) :
    b_copy P #[dT, sT] ty #[.slice (some ⟨g, 0, none⟩) n c, .string s] w = some (i64 n, w.setRow g (Lib.byteCells s.data.toList).toArray) := by
  have := Lib.run_copy_row_string (P := P) w dT sT ty e g 0 n c s cur.toArray e hu hs hg (by omega) (by simp; omega)
  rw [List.take_zero, List.nil_append, List.drop_of_length_le (by simp; omega), List.append_nil] at this
  simp only [b_copy, this, ro, hn, goInt]
theorem us_row {pt' it ty e : TypeId} (hp' : P.underlying pt' = some (.pointer e)) (hc : P.cellsOf e = 1) {w : World} {g : Nat} {s : ByteArray} (h0 : 0 < s.size) (h1 : s.size ≤ 9223372036854775807) (hg : hp w g = some (.cells (Lib.byteCells s.data.toList).toArray e (0, 0))) :
    ro ((Builtin.unsafeString_ #[pt', it] ty #[pt g 0, i64 s.size]).run P w) = some (.string s, w.freeze ⟨g, 0, none⟩ s.size) := by
  have hl := Lib.size_eq s
  have hne : s.data.toList ≠ [] := fun e => by rw [hl, e] at h0; simp at h0
  have hg' : w.heap[g]? = some (.cells (Lib.byteCells s.data.toList).toArray e (0, 0)) := hg
  have hbl : (Lib.byteCells s.data.toList).length = s.size := by rw [Lib.byteCells_length, ← hl]
  have := Lib.run_unsafeString_row (P := P) (w := w) pt' it ty e hp' hc g s.size (by unfold World.shape?; rw [hg']; simp [hbl]) s.data.toList hne (by omega) (by omega)
    (fun j x hx => Lib.cells_of_row hg' s.size j _ (by rw [List.take_of_length_le (by simp [hbl])]; simp [Lib.byteCells, hx]))
  rw [← hl] at this
  rw [this]
  rfl
theorem Ext.frz {a b : World} (h : Ext a b) {g : Nat} (hk : a.heap.size ≤ g) (n : Nat) : Ext a (b.freeze ⟨g, 0, none⟩ n) := Lib.below_freeze h (p := ⟨g, 0, none⟩) hk n
theorem cv_strb {src dst e : TypeId} {u : TypeDesc} (hs : P.underlying src = some u) (hd : P.underlying dst = some (.slice e)) (he : P.underlying e = some (.int .u8)) (s : ByteArray) (w : World) :
    ∃ c w', cv P src dst (.string s) w = some (.slice (some ⟨w.heap.size, 0, none⟩) s.size c, w') ∧ Ext w w' ∧ (∀ (j : Nat) b, s.toList[j]? = some b → cellO (hp w' w.heap.size) j = some (.int .u8 b.toNat)) ∧ w'.heap.size = w.heap.size + 1 := by
  refine ⟨_, _, by rw [cv, Lib.run_convert_string_bytes (P := P) w src dst e s hs hd he]; rfl, ?_, ?_, Lib.bytesWorld_size w e s⟩
  · exact ⟨rfl, rfl, rfl, by rw [Lib.bytesWorld_size]; omega, fun k hk => Lib.bytesWorld_at_old w e s k hk⟩
  · intro j b hb
    have hl : j < s.toList.length := (List.getElem?_eq_some_iff.1 hb).1
    have hl' : j < s.size := by rw [ByteArray.toList_eq] at hl; simpa using hl
    have := Lib.bytesWorld_cell w e s j hl'
    rw [cell?_eq] at this
    rw [this]
    rw [ByteArray.toList_eq] at hb
    simp [List.getD, hb]
theorem mi_eq {t : TypeId} (h : P.concrete t = true) (x : Value) (w : World) : mi P t x w = some (.iface t x, w) := by rw [mi, run_makeInterface w t x h]; rfl
theorem bo_neq_nil (t : TypeId) (ms) (h : P.underlying t = some (.interface ms)) (n : Nat) (a : Value) (ha : a = .nilIface ∨ ∃ u v, a = .iface u v) (w : World) :
    bo P .neq t (.tmp n) (.const .nilIface) a .nilIface w = some (.bool (match a with | .nilIface => false | _ => true), w) := by
  rcases ha with rfl | ⟨u, v, rfl⟩
  · have : (Op.equal t .nilIface .nilIface).run P w = .ok true w := by
      unfold Op.equal
      rw [show Op.maxDepth = 9999 + 1 from rfl, Op.equalIn]
      simp [run_underlying h]
    simp [bo, eqGuard, binOp, this, ro]
  · have : (Op.equal t (.iface u v) .nilIface).run P w = .ok false w := by
      unfold Op.equal
      rw [show Op.maxDepth = 9999 + 1 from rfl, Op.equalIn]
      simp [run_underlying h]
    simp [bo, eqGuard, binOp, this, ro]
theorem eq_iface {t u : TypeId} {ms} {k : IntKind} (h : P.underlying t = some (.interface ms)) (hu : P.underlying u = some (.int k)) (hc : (P.info? u).map (·.comparable) = some true) (a b : Int) (w : World) :
    (Op.equal t (.iface u (.int k a)) (.iface u (.int k b))).run P w = .ok (a == b) w := by
  unfold Op.equal
  obtain ⟨i, hi, hic⟩ := Option.map_eq_some_iff.1 hc
  rw [show Op.maxDepth = 9998 + 1 + 1 from rfl, Op.equalIn]
  simp only [Sem.run_bind, run_underlying h, Result.andThen_ok]
  simp [typeInfo, hi, hic]
  rw [Op.equalIn]
  simp only [Sem.run_bind, run_underlying hu, Result.andThen_ok]
  rfl
theorem bo_eql_if {t u : TypeId} {ms} {k : IntKind} (h : P.underlying t = some (.interface ms)) (hu : P.underlying u = some (.int k)) (hc : (P.info? u).map (·.comparable) = some true) (x y : Operand) (a b : Int) (w : World) :
    bo P .eql t x y (.iface u (.int k a)) (.iface u (.int k b)) w = some (.bool (a == b), w) := by
  simp [bo, eqGuard, binOp, eq_iface h hu hc, ro]
theorem bo_neq_if {t u : TypeId} {ms} {k : IntKind} (h : P.underlying t = some (.interface ms)) (hu : P.underlying u = some (.int k)) (hc : (P.info? u).map (·.comparable) = some true) (x y : Operand) (a b : Int) (w : World) :
    bo P .neq t x y (.iface u (.int k a)) (.iface u (.int k b)) w = some (.bool (!(a == b)), w) := by
  simp [bo, eqGuard, binOp, eq_iface h hu hc, ro]
theorem bo_shl1 (t : TypeId) (x y : Operand) (k : IntKind) (n : Int) {c : Int} (hc : 0 ≤ c) (w : World) : bo P .shl t x y (.int k n) (.int .u64 c) w = some (.int k (k.wrap (n * 2 ^ min c.toNat k.bits)), w) := by
  unfold bo
  rw [show eqGuard .shl t x y (.int k n) (.int .u64 c) = pure () from rfl, show binOp .shl t (.int k n) (.int .u64 c) = Op.shift .shl k n .u64 c from rfl]
  have hn : ¬ c < 0 := by omega
  simp [Op.shift, Sem.run_bind, ro, hn]
theorem bo_or (t : TypeId) (x y : Operand) (k : IntKind) (a b : Int) (w : World) : bo P .or t x y (.int k a) (.int k b) w = some (.int k (k.wrap (BitVec.ofInt k.bits a ||| BitVec.ofInt k.bits b).toNat), w) := by
  rw [bo_int]; simp [binOp, Op.intBits, ro]
theorem bts_extract (l : List UInt8) (i j : Nat) : (bts l).extract i j = bts ((l.drop i).take (j - i)) := by
  apply ByteArray.ext
  rw [ByteArray.data_extract]
  simp [bts]
theorem sl_str_to {t : TypeId} (h : P.underlying t = some .string) (l : List UInt8) {j : Int} (h1 : 0 ≤ j) (h2 : j ≤ l.length) (w : World) : sl P t (.string (bts l)) none (some (i64 j)) none w = some (.string (bts (l.take j.toNat)), w) := by
  have := run_slice_string_to_if (P := P) (w := w) t (bts l) .i64 j h
  rw [if_pos ⟨h1, by rw [bts_size]; exact h2⟩, bts_extract, List.drop_zero, Nat.sub_zero] at this
  exact congrArg ro ((run_sliceAt_string (P := P) (w := w) t (.string (bts l)) none (some (i64 j)) none h).trans this)
theorem sl_str_from {t : TypeId} (h : P.underlying t = some .string) (l : List UInt8) {i : Int} (h1 : 0 ≤ i) (h2 : i ≤ l.length) (w : World) : sl P t (.string (bts l)) (some (i64 i)) none none w = some (.string (bts (l.drop i.toNat)), w) := by
  have := run_slice_string_from_if (P := P) (w := w) t (bts l) .i64 i h
  rw [if_pos ⟨h1, by rw [bts_size]; exact h2⟩, bts_extract, List.take_of_length_le (by rw [bts_size]; simp)] at this
  exact congrArg ro ((run_sliceAt_string (P := P) (w := w) t (.string (bts l)) (some (i64 i)) none none h).trans this)
theorem ix_bts {t : TypeId} (h : P.underlying t = some .string) (l : List UInt8) {k : IntKind} {i : Int} (h0 : 0 ≤ i) {b : UInt8} (hb : l[i.toNat]? = some b) (w : World) : ix P t (.string (bts l)) (.int k i) w = some (.int .u8 b.toNat, w) :=
  ix_strk h (bts l) h0 (by rw [bts_list]; exact hb) w
end
/-! ### A text cut in two at the first of a byte -/
def cutL (c : UInt8) : List UInt8 → Option (List UInt8 × List UInt8)
  | [] => none
  | b :: l => if b = c then some ([], l) else (cutL c l).map fun p => (b :: p.1, p.2)
theorem cutL_eq {c : UInt8} : ∀ {l : List UInt8} {p}, cutL c l = some p → l = p.1 ++ c :: p.2 ∧ c ∉ p.1
  | [], p, h => by simp [cutL] at h
  | b :: l, p, h => by
    unfold cutL at h
    split at h
    · rename_i hb
      obtain rfl := Option.some.inj h
      exact ⟨by rw [hb]; rfl, by simp⟩
    · rename_i hb
      obtain ⟨q, hq, rfl⟩ := Option.map_eq_some_iff.1 h
      obtain ⟨h1, h2⟩ := cutL_eq hq
      refine ⟨?_, ?_⟩
      · show b :: l = b :: q.1 ++ c :: q.2
        rw [h1]; simp
      · intro hm
        rcases List.mem_cons.1 hm with h3 | h3
        · exact hb h3.symm
        · exact h2 h3
theorem cutL_app {c : UInt8} : ∀ {a b : List UInt8}, c ∉ a → cutL c (a ++ c :: b) = some (a, b)
  | [], b, _ => by simp [cutL]
  | x :: a, b, h => by
    have hx : ¬ x = c := fun e => h (by rw [e]; exact List.mem_cons_self)
    show (if x = c then _ else (cutL c (a ++ c :: b)).map fun p => (x :: p.1, p.2)) = _
    rw [if_neg hx, cutL_app (fun hm => h (List.mem_cons_of_mem _ hm))]
    rfl
theorem cutL_none {c : UInt8} : ∀ {l : List UInt8}, cutL c l = none → c ∉ l
  | [], _ => by simp
  | b :: l, h => by
    unfold cutL at h
    split at h
    · cases h
    · rename_i hb
      have := cutL_none (Option.map_eq_none_iff.1 h)
      intro hm
      rcases List.mem_cons.1 hm with h3 | h3
      · exact hb h3.symm
      · exact this h3
theorem cutL_idx (c : UInt8) : ∀ l : List UInt8, Lib.indexByte l c = match cutL c l with | none => -1 | some p => (p.1.length : Int)
  | [] => rfl
  | b :: l => by
    have ih := cutL_idx c l
    unfold Lib.indexByte cutL
    by_cases hb : b = c
    · simp [hb]
    · have hb' : (b == c) = false := by simpa using hb
      rw [if_neg (by rw [hb']; simp), if_neg hb, ih]
      cases h : cutL c l with
      | none => rfl
      | some p =>
        have h1 : ((p.1.length : Int) == -1) = false := by rw [beq_eq_false_iff_ne]; omega
        show (if ((p.1.length : Int) == -1) = true then (-1 : Int) else (p.1.length : Int) + 1) = ((b :: p.1).length : Int)
        rw [h1]
        simp
/-! ### Numbers read out of texts -/
def atoiL : Int → List UInt8 → Option Int
  | n, [] => some n
  | n, b :: l => if 9 < IntKind.u8.wrap ((b.toNat : Int) - 48) then none else atoiL (IntKind.i64.wrap (IntKind.i64.wrap (n * 10) + IntKind.i64.wrap (IntKind.u8.wrap ((b.toNat : Int) - 48)))) l
theorem atoiL_app : ∀ (a b : List UInt8) (n : Int), atoiL n (a ++ b) = (atoiL n a).bind fun m => atoiL m b
  | [], b, n => rfl
  | x :: a, b, n => by
    show (if _ then _ else atoiL _ (a ++ b)) = ((if _ then _ else atoiL _ a) : Option Int).bind _
    split
    · rfl
    · exact atoiL_app a b _
theorem dg_toNat' {d : Nat} (h : d < 10) : (dg d).toNat = 48 + d := by
  unfold dg
  rw [UInt8.toNat_ofNat']
  omega
theorem atoiL_dec (m : Nat) (h : m ≤ 4611686018427387904) : atoiL 0 (decL m) = some (m : Int) := by
  induction m using Nat.strongRecOn with
  | _ m ih =>
    have step : ∀ (q d : Nat), d < 10 → q * 10 + d ≤ 4611686018427387904 → atoiL (q : Int) [dg d] = some ((q * 10 + d : Nat) : Int) := by
      intro q d hd hq
      have h1 : IntKind.u8.wrap (((dg d).toNat : Int) - 48) = d := by rw [dg_toNat' hd, wu8 (by omega) (by omega)]; omega
      have h2 : IntKind.i64.wrap ((q : Int) * 10) = (q : Int) * 10 := w64 (by omega) (by omega)
      have h3 : IntKind.i64.wrap (d : Int) = d := w64 (by omega) (by omega)
      have h4 : IntKind.i64.wrap ((q : Int) * 10 + d) = (q : Int) * 10 + d := w64 (by omega) (by omega)
      simp only [atoiL, h1, h2, h3, h4]
      rw [if_neg (by omega)]
      congr 1
    by_cases h10 : m < 10
    · rw [decL_lt h10]
      have := step 0 m h10 (by omega)
      simpa using this
    · rw [decL_ge h10, atoiL_app, ih (m / 10) (by omega) (by omega)]
      have := step (m / 10) (m % 10) (by omega) (by omega)
      rw [show m / 10 * 10 + m % 10 = m by omega] at this
      exact this
theorem decL_head (m : Nat) : ∃ c l, decL m = c :: l ∧ 48 ≤ c.toNat ∧ c.toNat ≤ 57 := by
  have h1 := decL_len m
  cases h : decL m with
  | nil => rw [h] at h1; simp at h1
  | cons c l => exact ⟨c, l, rfl, decL_mem c (by rw [h]; exact List.mem_cons_self)⟩
end Go.Ev
