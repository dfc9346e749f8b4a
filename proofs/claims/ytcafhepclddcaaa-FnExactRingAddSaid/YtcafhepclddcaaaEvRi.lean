/- A part of the proof: an evaluator of the model, its laws, and contracts of functions; no condition. -/
import Derived.Lib.Overlaps
import Derived.Lib.AppendZerosOnto
import Derived.Laws.Externs
import Derived.Test.YtcafhepclddcaaaEvHj
import Derived.Test.YtcafhepclddcaaaEvV
set_option linter.unusedVariables false
set_option linter.unusedSimpArgs false
namespace Go.Ev
open Go Go.RowKit
/-! ### Texts in order; rings -/
def sLt (a b : ByteArray) : Bool := Op.bytesLess a.toList b.toList
theorem bl_irr : ∀ x : List UInt8, Op.bytesLess x x = false
  | [] => rfl
  | a :: x => by
    have := bl_irr x
    simp only [Op.bytesLess, this, Bool.and_false, Bool.or_false, decide_eq_false_iff_not]
    exact UInt8.lt_irrefl a
theorem bl_trans : ∀ x y z : List UInt8, Op.bytesLess x y = true → Op.bytesLess y z = true → Op.bytesLess x z = true
  | _, [], _, h, _ => by cases ‹List UInt8› <;> simp [Op.bytesLess] at h
  | _, _ :: _, [], _, h => by simp [Op.bytesLess] at h
  | [], _ :: _, _ :: _, _, _ => rfl
  | a :: x, b :: y, c :: z, h, k => by
    simp only [Op.bytesLess, Bool.or_eq_true, decide_eq_true_eq, Bool.and_eq_true, beq_iff_eq] at *
    rcases h with h | ⟨rfl, h⟩
    · rcases k with k | ⟨rfl, k⟩
      · exact .inl (UInt8.lt_trans h k)
      · exact .inl h
    · rcases k with k | ⟨rfl, k⟩
      · exact .inl k
      · exact .inr ⟨rfl, bl_trans x y z h k⟩
theorem bl_tri : ∀ x y : List UInt8, Op.bytesLess x y = false → Op.bytesLess y x = false → x = y
  | [], [], _, _ => rfl
  | [], _ :: _, h, _ => by simp [Op.bytesLess] at h
  | _ :: _, [], _, h => by simp [Op.bytesLess] at h
  | a :: x, b :: y, h, k => by
    simp only [Op.bytesLess, Bool.or_eq_false_iff, decide_eq_false_iff_not, Bool.and_eq_false_iff, beq_eq_false_iff_ne] at *
    have e : a = b := by
      have h1 := h.1
      have k1 := k.1
      exact UInt8.le_antisymm (UInt8.not_lt.1 k1) (UInt8.not_lt.1 h1)
    subst e
    rw [bl_tri x y (by simpa using h.2) (by simpa using k.2)]
theorem ba_ext {a b : ByteArray} (h : a.toList = b.toList) : a = b := by
  rw [ByteArray.toList_eq, ByteArray.toList_eq] at h
  cases a
  cases b
  congr
  exact Array.ext' h
theorem sLt_irr (a : ByteArray) : sLt a a = false := bl_irr _
theorem sLt_trans {a b c : ByteArray} (h : sLt a b = true) (k : sLt b c = true) : sLt a c = true := bl_trans _ _ _ h k
theorem sLt_tri {a b : ByteArray} (h : sLt a b = false) (k : sLt b a = false) : a = b := ba_ext (bl_tri _ _ h k)
/-- Not behind: before, or the same. -/
theorem sLt_le (a b : ByteArray) : (sLt a b || (a.toList == b.toList)) = !sLt b a := by
  cases h : sLt b a
  · cases k : sLt a b
    · rw [sLt_tri k h]; simp
    · simp
  · cases k : sLt a b
    · simp only [Bool.not_true, Bool.false_or, beq_eq_false_iff_ne]
      intro e
      rw [ba_ext e, sLt_irr] at h
      cases h
    · have := sLt_trans h k
      rw [sLt_irr] at this
      cases this
section
variable {P : Program}
theorem bo_lss_str (t : TypeId) (x y : Operand) (a b : ByteArray) (w : World) : bo P .lss t x y (.string a) (.string b) w = some (.bool (sLt a b), w) := by
  rw [bo_str]; simp [Op.stringOp, ro, sLt]
theorem bo_leq_str (t : TypeId) (x y : Operand) (a b : ByteArray) (w : World) : bo P .leq t x y (.string a) (.string b) w = some (.bool (!sLt b a), w) := by
  rw [bo_str, ← sLt_le]; simp [Op.stringOp, ro, sLt]
theorem bo_geq_str (t : TypeId) (x y : Operand) (a b : ByteArray) (w : World) : bo P .geq t x y (.string a) (.string b) w = some (.bool (!sLt a b), w) := by
  rw [bo_str]; simp [Op.stringOp, ro, sLt]
theorem bo_shr1 (t : TypeId) (x y : Operand) (k : IntKind) (n : Int) (w : World) : bo P .shr t x y (.int k n) (.int .u64 1) w = some (.int k (n / 2 ^ min 1 k.bits), w) := by
  unfold bo
  rw [show eqGuard .shr t x y (.int k n) (.int .u64 1) = pure () from rfl, show binOp .shr t (.int k n) (.int .u64 1) = Op.shift .shr k n .u64 1 from rfl]
  simp [Op.shift, Sem.run_bind, ro]
  exact Int.fdiv_eq_ediv_of_nonneg _ (Int.le_of_lt (Int.pow_pos (by decide)))
end
theorem wu64 {x : Int} (h0 : 0 ≤ x) (h1 : x < 18446744073709551616) : IntKind.u64.wrap x = x := by
  have h : x % 18446744073709551616 = x := Int.emod_eq_of_lt h0 h1
  simp [IntKind.wrap, IntKind.bits, IntKind.signed, h]
def lowB (b : UInt8) : Bool := !(decide ((b.toNat : Int) < 97) || decide (122 < (b.toNat : Int)))
def nameP (s : ByteArray) : Bool := s.toList.all lowB && (decide (1 ≤ (s.size : Int)) && decide ((s.size : Int) ≤ 8))
/-- Names, ascending, each once. -/
def ringGo : Option ByteArray → List ByteArray → Bool
  | _, [] => true
  | p, x :: l => nameP x && (match p with | none => true | some q => sLt q x) && ringGo (some x) l
def aheadP (p : Option ByteArray) (x : ByteArray) : Bool := match p with | none => true | some q => sLt q x
theorem ringGo_cons (p : Option ByteArray) (x : ByteArray) (l : List ByteArray) : ringGo p (x :: l) = (nameP x && aheadP p x && ringGo (some x) l) := by cases p <;> rfl
theorem ringGo_nil (p : Option ByteArray) : ringGo p [] = true := by cases p <;> rfl
def ringP (xs : List ByteArray) : Bool := ringGo none xs && decide (xs.length ≤ 6)
def posP : List ByteArray → ByteArray → Nat
  | [], _ => 0
  | x :: l, s => if sLt x s then posP l s + 1 else 0
def thereP (xs : List ByteArray) (s : ByteArray) : Bool := match xs[posP xs s]? with
  | some x => x.toList == s.toList
  | none => false
def ringAddP (xs : List ByteArray) (s : ByteArray) : List ByteArray × Bool :=
  if ringP xs then (if thereP xs s || (!nameP s || decide (6 ≤ xs.length)) then (xs, false) else (xs.take (posP xs s) ++ ([s] ++ xs.drop (posP xs s)), true)) else ([], false)
theorem posP_le : ∀ (xs : List ByteArray) (s : ByteArray), posP xs s ≤ xs.length
  | [], _ => Nat.le_refl _
  | x :: l, s => by
    rw [posP]
    split
    · have := posP_le l s; simp only [List.length_cons]; omega
    · exact Nat.zero_le _
theorem posP_lt : ∀ (xs : List ByteArray) (s : ByteArray) (i : Nat) (x : ByteArray), i < posP xs s → xs[i]? = some x → sLt x s = true
  | [], _, _, _, h, _ => by simp [posP] at h
  | y :: l, s, i, x, h, hx => by
    rw [posP] at h
    split at h
    · rename_i hy
      cases i with
      | zero => simp only [List.getElem?_cons_zero, Option.some.injEq] at hx; subst hx; exact hy
      | succ i => exact posP_lt l s i x (by omega) (by simpa using hx)
    · omega
theorem ringGo_tail : ∀ (l : List ByteArray) (p q : ByteArray), ringGo (some p) l = true → sLt q p = true → ringGo (some q) l = true
  | [], _, _, _, _ => rfl
  | x :: l, p, q, h, hq => by
    simp only [ringGo, Bool.and_eq_true] at h ⊢
    exact ⟨⟨h.1.1, sLt_trans hq h.1.2⟩, h.2⟩
theorem ringGo_all : ∀ (l : List ByteArray) (p : ByteArray), ringGo (some p) l = true → ∀ x ∈ l, sLt p x = true
  | [], _, _, _, h => by simp at h
  | y :: l, p, h, x, hx => by
    simp only [ringGo, Bool.and_eq_true] at h
    rcases List.mem_cons.1 hx with rfl | hx
    · exact h.1.2
    · exact ringGo_all l p (ringGo_tail l y p h.2 h.1.2) x hx
theorem ringGo_some {p : Option ByteArray} {x : ByteArray} {l : List ByteArray} (h : ringGo p (x :: l) = true) : ringGo (some x) l = true := by
  simp only [ringGo, Bool.and_eq_true] at h
  exact h.2
theorem posP_ge : ∀ (xs : List ByteArray) (p : Option ByteArray) (s : ByteArray), ringGo p xs = true → ∀ (i : Nat) (x : ByteArray), posP xs s ≤ i → xs[i]? = some x → sLt x s = false
  | [], _, _, _, _, _, _, h => by simp at h
  | y :: l, p, s, hr, i, x, h, hx => by
    rw [posP] at h
    split at h
    · cases i with
      | zero => omega
      | succ i => exact posP_ge l (some y) s (ringGo_some hr) i x (by omega) (by simpa using hx)
    · rename_i hy
      cases i with
      | zero => simp only [List.getElem?_cons_zero, Option.some.injEq] at hx; subst hx; simpa using hy
      | succ i =>
        have hm := ringGo_all l y (ringGo_some hr) x (List.mem_of_getElem? (by simpa using hx))
        cases hxs : sLt x s with
        | false => rfl
        | true => exact absurd (sLt_trans hm hxs) hy
end Go.Ev
namespace Go.Ev
open Go Go.RowKit
section
variable {P : Program} {S : Nat → Prop} {w w' : World} {E mx : Nat}
/-- A row of texts in a block. -/
def Raw (E : TypeId) (w : World) (g : Nat) (xs : List ByteArray) (c : Nat) : Prop :=
  ∃ cur : List Value, hp w g = some (.cells cur.toArray E (0, 0)) ∧ xs.length ≤ c ∧ c ≤ cur.length ∧ c ≤ 9223372036854775807 ∧ cur.take xs.length = xs.map Value.string ∧ ∀ x ∈ xs, x.size ≤ 140737488351232
theorem strs_cells {css : List (List Value)} {xs : List ByteArray} (h : All2 (O LStr S w) css xs) : css.flatten = xs.map Value.string ∧ ∀ x ∈ xs, x.size ≤ 140737488351232 := by
  induction css generalizing xs with
  | nil => cases xs with
    | nil => simp
    | cons _ _ => exact h.elim
  | cons c css ih => cases xs with
    | nil => exact h.elim
    | cons x xs =>
      obtain ⟨h1, h2⟩ := h
      obtain ⟨rfl, hx⟩ := O.str.1 h1
      obtain ⟨h3, h4⟩ := ih h2
      refine ⟨by simp [h3], fun y hy => ?_⟩
      rcases List.mem_cons.1 hy with rfl | hy
      · exact hx
      · exact h4 y hy
theorem O.raw {a : Option Addr} {n c : Nat} {xs : List ByteArray} (h : O (LList E mx LStr) S w [.slice a n c] xs) (h0 : 0 < xs.length) : ∃ g, a = some ⟨g, 0, none⟩ ∧ S g ∧ g < w.heap.size ∧ Raw E w g xs c := by
  obtain ⟨bs, ⟨s', css, bss, he, h3, hm, h1, rfl⟩, hn, hS⟩ := h
  obtain rfl : .slice a n c = s' := by simpa using he
  have h2 : All2 (O LStr S w) css xs := All2.of3 h3 fun x y z hz h => O.str.2 ⟨h.1, h.2.1⟩
  obtain ⟨hf, hb⟩ := strs_cells h2
  obtain ⟨hl, hnn, ho⟩ := h1
  rcases ho with ⟨h, h0'⟩ | ⟨g, cap, cur, h, _, hg, hc1, hc2, hc3, ht⟩
  · omega
  · simp only [Value.slice.injEq] at h
    obtain ⟨rfl, rfl, rfl⟩ := h
    refine ⟨g, rfl, hS g (List.mem_append_left _ ?_), hp_lt hg, cur.toList, by simpa using hg, hc1, by have : LStr.n = 1 := rfl; rw [this] at hc3; simp only [Array.length_toList]; omega, hc2, ?_, hb⟩
    · simp [blkOf]
    · rw [← hf, ← ht]
      simp [show LStr.n = 1 from rfl]
theorem strs_els : ∀ {xs : List ByteArray}, (∀ x ∈ xs, x.size ≤ 140737488351232) → Els LStr (fun _ => False) w (xs.map fun x => [.string x]) xs
  | [], _ => Els.nil
  | x :: xs, h => by
    obtain ⟨bss, h1, h2, h3⟩ := strs_els (fun y hy => h y (List.mem_cons_of_mem _ hy))
    exact ⟨[] :: bss, ⟨⟨rfl, h x (List.mem_cons_self ..), rfl⟩, h1⟩, by simpa using h2, by simpa using h3⟩
theorem Raw.o {g c : Nat} {xs : List ByteArray} (h : Raw E w g xs c) (hm : xs.length ≤ mx) : O (LList E mx LStr) (fun b => b = g) w [.slice (some ⟨g, 0, none⟩) xs.length c] xs := by
  obtain ⟨cur, h1, h2, h3, h4, h5, h6⟩ := h
  have hfl : (xs.map fun x => [Value.string x]).flatten = xs.map Value.string := by
    clear h5 h2 hm h6
    induction xs with
    | nil => rfl
    | cons x xs ih => simp only [List.map_cons, List.flatten_cons, ih]; rfl
  have hO : Own w 0 E LStr.n (.slice (some ⟨g, 0, none⟩) xs.length c) xs.length (xs.map fun x => [Value.string x]).flatten := by
    rw [hfl]
    refine ⟨by simp [show LStr.n = 1 from rfl], by omega, .inr ⟨g, c, cur.toArray, rfl, Nat.zero_le _, h1, h2, h4, by simp [show LStr.n = 1 from rfl]; omega, by simp [show LStr.n = 1 from rfl, h5]⟩⟩
  exact (O.mk (mx := mx) (S1 := fun _ => False) hO (strs_els h6) (fun _ _ h => h) hm).wide fun b hb _ => by
    rcases hb with h | h
    · exact h.elim
    · simpa [blkOf] using h
theorem strs_one (xs : List ByteArray) : (xs.map Value.string).all Value.oneCell' = true := by
  rw [List.all_eq_true]
  rintro v hv
  obtain ⟨x, _, rfl⟩ := List.mem_map.1 hv
  rfl
theorem Raw.keep {g c : Nat} {xs : List ByteArray} (h : Raw E w g xs c) (k : hp w' g = hp w g) : Raw E w' g xs c := by
  obtain ⟨cur, h1, h⟩ := h
  exact ⟨cur, k.trans h1, h⟩
theorem Raw.at {g k m : Nat} {xs : List ByteArray} {cur : List Value} (h1 : hp w g = some (.cells cur.toArray E (0, 0))) (h5 : cur.take xs.length = xs.map Value.string) (hk : k + m = xs.length) : At w g k ((xs.drop k).map Value.string) := by
  intro j v hj
  rw [h1]
  have hj' : k + j < xs.length := by
    have := (List.getElem?_eq_some_iff.1 hj).1
    simp only [List.length_map, List.length_drop] at this
    omega
  have : (cur.take xs.length)[k + j]? = some v := by
    rw [h5, List.getElem?_map, ← List.getElem?_drop, ← List.getElem?_map]
    exact hj
  rw [List.getElem?_take_of_lt hj'] at this
  simpa [cellO] using this
theorem cap_sl {t e ty : Nat} {z : Nat × Nat} (h : elB P t = some (e, z)) (a : Option Addr) (n c : Nat) (w : World) : b_cap P #[t] ty #[.slice a n c] w = some (i64 c, w) := by
  unfold elB at h
  split at h
  · rename_i e' hu
    simp [b_cap, Builtin.cap_, run_underlying hu, ro, goInt]
  · contradiction
/-- A copy into a row of one's own. -/
theorem copy_at {t ty e y : Nat} (h : elB P t = some (e, 1, y)) {g o dl dc : Nat} {cur : Array Value} {t0 : TypeId} (hh : hp w g = some (.cells cur t0 (0, 0))) {b q sl sc : Nat} {news : List Value} (hA : At w b q news) (hn : news.length = Nat.min sl dl) (h1 : news.all Value.oneCell' = true) (hfit : o + news.length ≤ cur.size) :
    b_copy P #[t, t] ty #[.slice (some ⟨g, o, none⟩) dl dc, .slice (some ⟨b, q, none⟩) sl sc] w = some (i64 news.length, w.setRow g (cur.toList.take o ++ news ++ cur.toList.drop (o + news.length)).toArray) := by
  obtain ⟨hu, i, hi, h4, h5⟩ := elB_spec h
  have hA' : ∀ j u, news[j]? = Option.some u → w.cell? ((⟨b, q, none⟩ : Addr).add j) = Option.some u := fun j u hu => by rw [add_lit, cell?_eq]; exact hA j u hu
  have h1' : ∀ u ∈ news, u.oneCell' = true := fun u hu => List.all_eq_true.1 h1 u hu
  have hr := run_copy_row (P := P) w t t ty e g o dl dc ⟨b, q, none⟩ sl sc cur t0 news hu (by rw [hi]; simp [h4]) hh hn hA' hfit h1'
  exact congrArg ro hr
/-- Zeros behind a row that has no room. -/
theorem app_zeros {t tn ty e s y : Nat} {kn : IntKind} (h : elB P t = some (e, s, y)) (htn : P.underlying tn = some (.int kn)) {z : List Value} (hz : zeroB P e = some z) (hzs : z.length = s) (hs : 0 < s) {b o n c k : Nat} {olds : List Value} (hA : At w b o olds) (hn : olds.length = n * s) (h0 : 0 < k) (hg : c < n + k) (hb : (n + k) * y ≤ 140737488355328) (hb2 : n + k ≤ 140737488355328) :
    ∃ (cap : Nat) (cur : List Value), b_append P #[t, tn] ty #[.slice (some ⟨b, o, none⟩) n c, i64 k] w = some (.slice (some ⟨w.heap.size, 0, none⟩) (n + k) cap, w.drew.alloc (.cells cur.toArray e (0, 0))) ∧ n + k ≤ cap ∧ cap ≤ 9223372036854775807 ∧ cap * s ≤ cur.length ∧ cur.take (n * s) = olds := by
  obtain ⟨hu, i, hi, h4, h5⟩ := elB_spec h
  obtain ⟨i', zv, hi', hv, h6⟩ := zeroB_spec hz
  rw [hi] at hi'
  cases hi'
  have hzc : zv.cells.size = s := by rw [← hzs, ← h6]; simp
  have hA' : ∀ j u, olds[j]? = Option.some u → w.drew.cell? ((⟨b, o, none⟩ : Addr).add j) = Option.some u := fun j u hu => by rw [add_lit, cell?_eq]; exact hA j u hu
  have hf := run_firstCells_some (P := P) w.drew i.size n ⟨b, o, none⟩ n c olds (by rw [h4]; exact hn) hA'
  have hcn : Builtin.nextslicecap (n + k) c * y ≤ 2 * (n + k) * y := Nat.mul_le_mul_right _ (nextslicecap_le hg)
  have hky : k * y ≤ (n + k) * y := Nat.mul_le_mul_right _ (by omega)
  rw [Nat.mul_assoc] at hcn
  have hr := Lib.run_append_grow_zeros (P := P) w t tn ty e i zv .i64 kn hu htn hi hv (some ⟨b, o, none⟩) n c olds hf k h0 (by rw [h4]; exact hs) hg (by omega) (by rw [h5]; omega) (by rw [h5]; omega)
  have hge := grownCap_ge w (n + k) c e
  have hle := grownCap_le_maxLen w (n + k) c e (by simp only [maxLen]; omega)
  simp only [maxLen] at hle
  have hx := congrArg ro hr
  refine ⟨grownCap w (n + k) c e, olds ++ ((Builtin.zeroCells zv.cells k).toList ++ (Builtin.zeroCells zv.cells (grownCap w (n + k) c e - (n + k))).toList), ?_, hge, by omega, ?_, ?_⟩
  · rw [show b_append P #[t, tn] ty #[.slice (some ⟨b, o, none⟩) n c, i64 k] w = _ from hx]
    rw [show (olds ++ ((Builtin.zeroCells zv.cells k).toList ++ (Builtin.zeroCells zv.cells (grownCap w (n + k) c e - (n + k))).toList)).toArray = olds.toArray ++ Builtin.zeroCells zv.cells k ++ Builtin.zeroCells zv.cells (grownCap w (n + k) c e - (n + k)) by apply Array.ext'; simp]
    rfl
  · simp only [List.length_append, Array.length_toList, size_zeroCells, hzc, hn, ← Nat.add_mul]
    exact Nat.mul_le_mul_right _ (by omega)
  · rw [← hn, List.take_left]
theorem strs_flat : ∀ xs : List ByteArray, (xs.map fun x => [Value.string x]).flatten = xs.map Value.string
  | [] => rfl
  | x :: xs => by simp only [List.map_cons, List.flatten_cons, strs_flat xs]; rfl
theorem strs_d : ∀ {xs : List ByteArray}, (∀ x ∈ xs, x.size ≤ 140737488351232) → All2 (D LStr S w) (xs.map fun x => [.string x]) xs
  | [], _ => trivial
  | x :: xs, h => ⟨D.str.2 ⟨rfl, h x (List.mem_cons_self ..)⟩, strs_d fun y hy => h y (List.mem_cons_of_mem _ hy)⟩
theorem dropS_d {t y : Nat} (hE : elB P t = some (E, 1, y)) {a : Option Addr} {c k : Nat} {xs : List ByteArray} (ha : D (LList E mx LStr) S w [.slice a xs.length c] xs) (hc : xs.length ≤ c) (hk : k ≤ xs.length) : ∃ a', (∀ w, sl P t (.slice a xs.length c) (some (i64 k)) none none w = some (.slice a' (xs.drop k).length (c - k), w)) ∧ D (LList E mx LStr) S w [.slice a' (xs.drop k).length (c - k)] (xs.drop k) := by
  obtain ⟨a', h1, h2⟩ := sl_lg (P := P) hE a (len := xs.length) (cap := c) (n := (k : Int)) (by omega) (by omega)
  rw [Int.toNat_natCast] at h1 h2
  have hl : (xs.drop k).length = xs.length - k := by simp
  refine ⟨a', fun w => by rw [hl]; exact h1 w, ?_⟩
  rcases Nat.lt_or_ge k xs.length with hlt | hge
  · have hm := ha.n
    have hsz : ∀ x ∈ xs.drop k, x.size ≤ 140737488351232 := fun x hx => by
      obtain ⟨j, hj⟩ := List.mem_iff_getElem?.1 (List.mem_of_mem_drop hx)
      obtain ⟨_, _, cs, _, _, hD, _⟩ := ha.at (by decide) hj
      exact (D.str.1 hD).2
    obtain ⟨x, hx⟩ : ∃ x, xs[k]? = some x := ⟨_, List.getElem?_eq_getElem hlt⟩
    obtain ⟨b, o, cs, rfl, _, _, hSb, hbl⟩ := ha.at (by decide) hx
    have := h2 (by omega) b o rfl
    subst this
    refine D.ofSl (css := (xs.drop k).map fun x => [.string x]) ⟨_, _, rfl, by omega, .inr ⟨b, o + k * 1, rfl, ?_⟩⟩ (strs_d hsz) (fun b' hb' => ?_) (by omega)
    · rw [strs_flat]
      intro j v hj
      rw [List.getElem?_map] at hj
      obtain ⟨x', hx', rfl⟩ := Option.map_eq_some_iff.1 hj
      rw [List.getElem?_drop] at hx'
      obtain ⟨b2, o2, cs2, he, hA, hD, _⟩ := ha.at (by decide) hx'
      simp only [Option.some.injEq, Addr.mk.injEq, and_true] at he
      obtain ⟨rfl, rfl⟩ := he
      obtain ⟨rfl, _⟩ := D.str.1 hD
      have := hA 0 _ rfl
      rw [show LStr.n = 1 from rfl] at this
      rw [← this]
      congr 1
      omega
    · simp only [blkOf, Option.toList_some, List.mem_singleton] at hb'
      subst hb'
      exact ⟨hSb, hbl⟩
  · rw [List.drop_eq_nil_of_le hge]
    exact D.nil _ _
end
end Go.Ev
